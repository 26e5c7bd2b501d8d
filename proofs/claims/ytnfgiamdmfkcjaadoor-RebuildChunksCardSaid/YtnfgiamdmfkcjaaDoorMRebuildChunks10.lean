/- Words and walks that the claim RebuildChunks leans on (what it does not use is left out). -/
import Derived.Test.YtnfgiamdmfkcjaaDoorMRebuildChunks1
import Derived.Test.YtnfgiamdmfkcjaaDoorMRebuildChunks9
import Derived.Test.YtnfgiamdmfkcjaaDoorMRebuildChunks2
import Derived.Test.YtnfgiamdmfkcjaaDoorMRebuildChunks3
set_option linter.unusedSimpArgs false
set_option linter.unusedVariables false
namespace Go.Proofs.YtnfgiamdmfkcjaaDoor.P
open Go.Proofs.YtnfgiamdmfkcjaaDoor.Leaf
open Go.RowKit Go.Proofs.YtnfgiamdmfkcjaaDoorW.PrintWords Go.Proofs.YtnfgiamdmfkcjaaDoorW.PrintLast Go.Proofs.YtnfgiamdmfkcjaaDoorW.PrintMore
attribute [local go_sem] max2_int min2_int max_two min_two max_three min_three max_four min_four
mutual
def matrix_Rows.j0 : Nat → List (List Int) → List Int → Bool → Option ((List (List Int)) × Int)
 | 0, _, _, _ => none
 | k + 1, x0, x1, x21 => if x21 = true then (some (([] : List (List Int)), 1)) else (matrix_Rows.l0 k x0 ([] : List (List Int)) x1 (x1.length : Int) 0)
def matrix_Rows.l0 : Nat → List (List Int) → List (List Int) → List Int → Int → Int → Option ((List (List Int)) × Int)
 | 0, _, _, _, _, _ => none
 | k + 1, x0, x6, x22, x23, x24 => if x24 < x23 then (if 0 ≤ x24 then (if x24 < (x22.length : Int) then (if (rd x22 x24) < 0 then (some (([] : List (List Int)), 1)) else (if (rd x22 x24) ≥ (x0.length : Int) then (some (([] : List (List Int)), 1)) else (if 0 ≤ (rd x22 x24) then (if (rd x22 x24) < (x0.length : Int) then ((slices_Clone_byte_byte.f (rd_L1 x0 (rd x22 x24))).bind fun t104 => (if x6.length < 5864062014805 then (matrix_Rows.l0 k x0 (x6 ++ [t104]) x22 x23 (wrap64 (x24 + 1))) else (none))) else (none)) else (none)))) else (none)) else (none)) else (some (x6, 0))
end
def matrix_Rows.f (k : Nat) (l0 : List (List Int)) (l1 : List Int) : Option ((List (List Int)) × Int) := (wMk_.f k l0).bind fun t101 => (if t101 = 0 then (if (l1.length : Int) = 0 then (matrix_Rows.j0 k l0 l1 true) else (matrix_Rows.j0 k l0 l1 (decide ((l1.length : Int) > 255)))) else (matrix_Rows.j0 k l0 l1 true))
theorem matrix_Rows.mono_l : ∀ k, (∀ y0 y1 y2, LeO (matrix_Rows.j0 k y0 y1 y2) (matrix_Rows.j0 (k + 1) y0 y1 y2)) ∧ (∀ y0 y1 y2 y3 y4, LeO (matrix_Rows.l0 k y0 y1 y2 y3 y4) (matrix_Rows.l0 (k + 1) y0 y1 y2 y3 y4))
 | 0 => ⟨fun _ _ _ r h => by simp [matrix_Rows.j0] at h, fun _ _ _ _ _ r h => by simp [matrix_Rows.l0] at h⟩
 | k + 1 => by
  obtain ⟨ih0, ih1⟩ := matrix_Rows.mono_l k
  refine ⟨?_, ?_⟩
  ·intro y0 y1 y2
   unfold matrix_Rows.j0
   repeat' first
   | (with_reducible exact ih0 _ _ _)
   | (with_reducible exact ih1 _ _ _ _ _)
   | (with_reducible exact wMk_.mono _ _)
   | (with_reducible exact LeO.refl _)
   | (with_reducible exact LeO.none _)
   | (with_reducible refine LeO.ite ?_ ?_)
   | (with_reducible refine LeO.bind ?_ (fun _ => ?_))
   | exact ih0 _ _ _
   | exact ih1 _ _ _ _ _
   | exact wMk_.mono _ _
   | exact LeO.none _
   | refine LeO.ite ?_ ?_
   | refine LeO.bind ?_ (fun _ => ?_)
  ·intro y0 y1 y2 y3 y4
   unfold matrix_Rows.l0
   repeat' first
   | (with_reducible exact ih0 _ _ _)
   | (with_reducible exact ih1 _ _ _ _ _)
   | (with_reducible exact wMk_.mono _ _)
   | (with_reducible exact LeO.refl _)
   | (with_reducible exact LeO.none _)
   | (with_reducible refine LeO.ite ?_ ?_)
   | (with_reducible refine LeO.bind ?_ (fun _ => ?_))
   | exact ih0 _ _ _
   | exact ih1 _ _ _ _ _
   | exact wMk_.mono _ _
   | exact LeO.none _
   | refine LeO.ite ?_ ?_
   | refine LeO.bind ?_ (fun _ => ?_)
theorem matrix_Rows.mono : ∀ a0 a1 k, LeO (matrix_Rows.f k a0 a1) (matrix_Rows.f (k + 1) a0 a1) := by
 intro a0 a1 k
 obtain ⟨ih0, ih1⟩ := matrix_Rows.mono_l k
 unfold matrix_Rows.f
 repeat' first
  | (with_reducible exact ih0 _ _ _)
  | (with_reducible exact ih1 _ _ _ _ _)
  | (with_reducible exact wMk_.mono _ _)
  | (with_reducible exact LeO.refl _)
  | (with_reducible exact LeO.none _)
  | (with_reducible refine LeO.ite ?_ ?_)
  | (with_reducible refine LeO.bind ?_ (fun _ => ?_))
  | exact ih0 _ _ _
  | exact ih1 _ _ _ _ _
  | exact wMk_.mono _ _
  | exact LeO.none _
  | refine LeO.ite ?_ ?_
  | refine LeO.bind ?_ (fun _ => ?_)
set_option maxHeartbeats 8000000 in
set_option maxRecDepth 100000 in
theorem matrix_Rows.calls (k : Nat) (A0 : Option Addr) (c0 : Nat) (l0 : List (List Int)) (A1 : Option Addr) (c1 : Nat) (l1 : List Int) (r1 : List (List Int)) (r2 : Int) (w : World) (hr0 : Kd.C (Kd.slice 5 (Kd.int .u8)) w A0 l0.length l0) (hc0 : l0.length ≤ c0) (hr1 : Kd.C (Kd.int .i64) w A1 l1.length l1) (hc1 : l1.length ≤ c1) (h : matrix_Rows.f k l0 l1 = some (r1, r2)) :
 Calls Tryd.prog 36 #[.slice A0 l0.length c0, .slice A1 l1.length c1] w fun e w' => ∃ v0_ : Value, e = .returned (.tuple #[v0_, .int .i64 r2]) ∧ Kd.S (Kd.slice 5 (Kd.int .u8)) 22 w' w.heap.size (fun _ => True) v0_ r1 ∧ Below w.heap.size w w' := by
 have HR0 := Aside0.mk hr0
 have HC0 := Aside0.mk hc0
 clear hr0 hc0
 have HR1 := Aside0.mk hr1
 have HC1 := Aside0.mk hc1
 clear hr1 hc1
 have HB := Aside0.mk (Below.refl w.heap.size w)
 have H : ((wMk_.f k l0).bind fun t101 => (if t101 = 0 then (if (l1.length : Int) = 0 then (matrix_Rows.j0 k l0 l1 true) else (matrix_Rows.j0 k l0 l1 (decide ((l1.length : Int) > 255)))) else (matrix_Rows.j0 k l0 l1 true))) = some (r1, r2) := h
 clear h
 have HC3 := Aside0.mk H
 clear H
 go_enter Tryd.func36, Tryd.ntmps36
 go_upto_region 1 with (fail)
 go_cut [21] (fun v21 wc => ∃ (kq : Nat) (x21_2 : Bool), v21 = .bool x21_2 ∧ Aside0 (matrix_Rows.j0 kq l0 l1 x21_2 = some (r1, r2)) ∧ Aside0 (kq ≤ k) ∧ Aside0 (Below w.heap.size w wc))
 case first =>
  have H := HC3.out
  clear HC3
  replace H := Option.bind_eq_some_iff.mp H
  obtain ⟨t101, A40, H⟩ := H
  replace H : (if t101 = 0 then (if (l1.length : Int) = 0 then (matrix_Rows.j0 k l0 l1 true) else (matrix_Rows.j0 k l0 l1 (decide ((l1.length : Int) > 255)))) else (matrix_Rows.j0 k l0 l1 true)) = some (r1, r2) := H
  have A4 := Aside0.mk A40
  clear A40
  by_cases c5 : t101 = 0
  ·rw [if_pos c5] at H
   have c5b0 : (t101 == 0) = true := beq_iff_eq.mpr c5
   have c5b1 : (t101 != 0) = false := bne_eq_false_iff_eq.mpr c5
   clear c5
   (first | rw [c5b0] | (simp only [i64_w, i32_w]; rw [c5b0]) | skip)
   by_cases c6 : (l1.length : Int) = 0
   ·rw [if_pos c6] at H
    have c6b0 : ((l1.length : Int) == 0) = true := beq_iff_eq.mpr c6
    have c6b1 : ((l1.length : Int) != 0) = false := bne_eq_false_iff_eq.mpr c6
    clear c6
    have H' := Aside0.mk H
    clear H
    go_wp2_with (first | ((with_reducible refine gate_callee (f := 67) rfl ?_); refine goesL_ (some 10) rfl rfl Tryd.func67 (by kernel_rfl) rfl #[.slice A0 l0.length c0] rfl (by (try simp only [List.map_toArray, List.map_cons, List.map_nil]); first | done | rfl | (simp only [List.length_drop, List.length_take]; rfl)) ?_; (with_reducible refine (wMk_.calls k _ _ l0 t101 _ ?side1 ?side2 A4.out).mono ?_); (case side1 => repeat (first | exact (Kd.C_below HR0.out HB.out) | (with_reducible refine Kd.C_alloc ?_ _) | (with_reducible refine Kd.C_drewN ?_ _) | (with_reducible refine Kd.C_drew ?_))); (case side2 => exact HC0.out); rintro e w' ⟨rfl, ⟨nd, rfl⟩⟩; refine ⟨_, rfl, ?_⟩))
    go_meet
    case rel => exact ⟨_, (true), (by first | rfl | (simp; done) | (simp [*]; done)), H', ⟨by first | omega | exact Nat.le_refl _⟩, ⟨by repeat (first | (with_reducible first | exact HB.out | apply zC_ | apply zA_ | apply zB_) | exact HB.out)⟩⟩
   ·rw [if_neg c6] at H
    have c6b0 : ((l1.length : Int) == 0) = false := beq_eq_false_iff_ne.mpr c6
    have c6b1 : ((l1.length : Int) != 0) = true := bne_iff_ne.mpr c6
    have c6b2 : ¬ (l1 = []) := fun h_ => c6 (by rw [h_]; rfl)
    have H' := Aside0.mk H
    clear H
    go_wp2_with (first | ((with_reducible refine gate_callee (f := 67) rfl ?_); refine goesL_ (some 10) rfl rfl Tryd.func67 (by kernel_rfl) rfl #[.slice A0 l0.length c0] rfl (by (try simp only [List.map_toArray, List.map_cons, List.map_nil]); first | done | rfl | (simp only [List.length_drop, List.length_take]; rfl)) ?_; (with_reducible refine (wMk_.calls k _ _ l0 t101 _ ?side1 ?side2 A4.out).mono ?_); (case side1 => repeat (first | exact (Kd.C_below HR0.out HB.out) | (with_reducible refine Kd.C_alloc ?_ _) | (with_reducible refine Kd.C_drewN ?_ _) | (with_reducible refine Kd.C_drew ?_))); (case side2 => exact HC0.out); rintro e w' ⟨rfl, ⟨nd, rfl⟩⟩; refine ⟨_, rfl, ?_⟩))
    go_meet
    case rel => exact ⟨_, (decide ((l1.length : Int) > 255)), (by first | rfl | (simp; done) | (simp [*]; done)), H', ⟨by first | omega | exact Nat.le_refl _⟩, ⟨by repeat (first | (with_reducible first | exact HB.out | apply zC_ | apply zA_ | apply zB_) | exact HB.out)⟩⟩
  ·rw [if_neg c5] at H
   have c5b0 : (t101 == 0) = false := beq_eq_false_iff_ne.mpr c5
   have c5b1 : (t101 != 0) = true := bne_iff_ne.mpr c5
   (first | rw [c5b0] | (simp only [i64_w, i32_w]; rw [c5b0]) | skip)
   have H' := Aside0.mk H
   clear H
   go_wp2_with (first | ((with_reducible refine gate_callee (f := 67) rfl ?_); refine goesL_ (some 10) rfl rfl Tryd.func67 (by kernel_rfl) rfl #[.slice A0 l0.length c0] rfl (by (try simp only [List.map_toArray, List.map_cons, List.map_nil]); first | done | rfl | (simp only [List.length_drop, List.length_take]; rfl)) ?_; (with_reducible refine (wMk_.calls k _ _ l0 t101 _ ?side1 ?side2 A4.out).mono ?_); (case side1 => repeat (first | exact (Kd.C_below HR0.out HB.out) | (with_reducible refine Kd.C_alloc ?_ _) | (with_reducible refine Kd.C_drewN ?_ _) | (with_reducible refine Kd.C_drew ?_))); (case side2 => exact HC0.out); rintro e w' ⟨rfl, ⟨nd, rfl⟩⟩; refine ⟨_, rfl, ?_⟩))
   go_meet
   case rel => exact ⟨_, (true), (by first | rfl | (simp; done) | (simp [*]; done)), H', ⟨by first | omega | exact Nat.le_refl _⟩, ⟨by repeat (first | (with_reducible first | exact HB.out | apply zC_ | apply zA_ | apply zB_) | exact HB.out)⟩⟩
 case rest =>
  clear HC3
  try clear c1
  try clear p2
  try clear c3
  try clear c5
  try clear c5b0
  try clear c5b1
  try clear c6
  try clear c6b0
  try clear c6b1
  try clear c6b2
  obtain ⟨kq, x21_2, rfl, HA, HJ2, HB⟩ := hcut
  cases kq with
  | zero => exact absurd HA.out (by simp [matrix_Rows.j0])
  | succ kj2 =>
   have H := HA.out
   clear HA
   simp only [matrix_Rows.j0] at H
   by_cases c7 : x21_2 = true
   ·subst c7
    have H1 : (some (([] : List (List Int)), 1)) = some (r1, r2) := by rw [if_pos rfl] at H; exact H
    clear H
    have H := H1
    clear H1
    simp only [Option.some.injEq, Prod.mk.injEq] at H
    obtain ⟨rfl, rfl⟩ := H
    go_wp2
    go_ret2
    exact ⟨_, by first | rfl | (simp [errW_none, errW_some] <;> rfl) | (simp [*, errW_none, errW_some] <;> rfl), by first | exact Kd.S_nil _ _ _ _ _ | exact Kd.N_nil _ _ _ _ _ | exact Kd.V_nil _ _ _ _ _ | exact Kd.Q_nil _ _ _ _ _ | exact Kd.R_nil _ _ _ _ _, by repeat (first | (with_reducible first | exact HB.out | apply zC_ | apply zA_ | apply zB_) | exact HB.out)⟩
   ·replace c7 := Bool.eq_false_iff.mpr c7
    subst c7
    have H1 : (matrix_Rows.l0 kj2 l0 ([] : List (List Int)) l1 (l1.length : Int) 0) = some (r1, r2) := by rw [if_neg (show ¬ (false = true) by decide)] at H; exact H
    clear H
    have H := H1
    clear H1
    have H' := Aside0.mk H
    clear H
    go_wp2
    go_loopg [6, 24] kj2 (fun kq v6 v24 w' => ∃ (x6_2 : List (List Int)) (x24_2 : Int), v24 = .int .i64 x24_2 ∧ Aside0 (matrix_Rows.l0 kq l0 x6_2 l1 (l1.length : Int) x24_2 = some (r1, r2)) ∧ Aside0 (kq ≤ kj2) ∧ Aside0 (Kd.S (Kd.slice 5 (Kd.int .u8)) 22 w' w.heap.size (fun _ => True) v6 x6_2) ∧ Aside0 (Below w.heap.size w w'))
    case atStart => exact ⟨(([] : List (List Int))), (0), (by first | rfl | (simp; done) | (simp [*]; done)), H', ⟨Nat.le_refl _⟩, ⟨by first | exact Kd.S_nil _ _ _ _ _ | exact Kd.N_nil _ _ _ _ _ | exact Kd.V_nil _ _ _ _ _ | exact Kd.Q_nil _ _ _ _ _ | exact Kd.R_nil _ _ _ _ _⟩, ⟨by repeat (first | (with_reducible first | exact HB.out | apply zC_ | apply zA_ | apply zB_) | exact HB.out)⟩⟩
    case round =>
     clear H'
     try clear c1
     try clear p2
     try clear c3
     try clear c5
     try clear c5b0
     try clear c5b1
     try clear c6
     try clear c6b0
     try clear c6b1
     try clear c6b2
     try clear c7
     try clear p2
     obtain ⟨x6_2, x24_2, rfl, HA, HK2, HO_6, HB⟩ := hrel
     cases gk with
     | zero => exact absurd HA.out (by simp [matrix_Rows.l0])
     | succ k2 =>
      have H := HA.out
      clear HA
      simp only [matrix_Rows.l0] at H
      by_cases c8 : x24_2 < (l1.length : Int)
      ·rw [if_pos c8] at H
       have c8b0 : decide (x24_2 < (l1.length : Int)) = true := decide_eq_true c8
       clear c8
       by_cases c9 : 0 ≤ x24_2
       ·rw [if_pos c9] at H
        have c9b0 : decide (0 ≤ x24_2) = true := decide_eq_true c9
        clear c9
        by_cases c10 : x24_2 < (l1.length : Int)
        ·rw [if_pos c10] at H
         have c10b0 : decide (x24_2 < (l1.length : Int)) = true := decide_eq_true c10
         clear c10
         by_cases c11 : (rd l1 x24_2) < 0
         ·rw [if_pos c11] at H
          have c11b0 : decide ((rd l1 x24_2) < 0) = true := decide_eq_true c11
          clear c11
          simp only [Option.some.injEq, Prod.mk.injEq] at H
          obtain ⟨rfl, rfl⟩ := H
          have p102 : 0 ≤ (x24_2 : Int) := of_decide_eq_true (by first | (with_reducible assumption) | assumption)
          have q102 : x24_2 < (l1.length : Int) := of_decide_eq_true (by first | (with_reducible assumption) | assumption)
          obtain ⟨ad102, e102, hx102_0⟩ := Kd.at_int HR1.out x24_2 p102 q102
          cases e102
          replace hx102_0 := (HB.out.cell (World.block_lt_of_cell? w _ hx102_0)).trans hx102_0
          replace p102 := eq_true p102
          replace q102 := eq_true q102
          go_wp2
          go_ret2
          exact ⟨_, by first | rfl | (simp [errW_none, errW_some] <;> rfl) | (simp [*, errW_none, errW_some] <;> rfl), by first | exact Kd.S_nil _ _ _ _ _ | exact Kd.N_nil _ _ _ _ _ | exact Kd.V_nil _ _ _ _ _ | exact Kd.Q_nil _ _ _ _ _ | exact Kd.R_nil _ _ _ _ _, by repeat (first | (with_reducible first | exact HB.out | apply zC_ | apply zA_ | apply zB_) | exact HB.out)⟩
         ·rw [if_neg c11] at H
          have c11b0 : decide ((rd l1 x24_2) < 0) = false := decide_eq_false c11
          clear c11
          by_cases c12 : (rd l1 x24_2) ≥ (l0.length : Int)
          ·rw [if_pos c12] at H
           have c12b0 : decide ((l0.length : Int) ≤ (rd l1 x24_2)) = true := decide_eq_true c12
           clear c12
           simp only [Option.some.injEq, Prod.mk.injEq] at H
           obtain ⟨rfl, rfl⟩ := H
           have p102 : 0 ≤ (x24_2 : Int) := of_decide_eq_true (by first | (with_reducible assumption) | assumption)
           have q102 : x24_2 < (l1.length : Int) := of_decide_eq_true (by first | (with_reducible assumption) | assumption)
           obtain ⟨ad102, e102, hx102_0⟩ := Kd.at_int HR1.out x24_2 p102 q102
           cases e102
           replace hx102_0 := (HB.out.cell (World.block_lt_of_cell? w _ hx102_0)).trans hx102_0
           replace p102 := eq_true p102
           replace q102 := eq_true q102
           go_wp2
           go_ret2
           exact ⟨_, by first | rfl | (simp [errW_none, errW_some] <;> rfl) | (simp [*, errW_none, errW_some] <;> rfl), by first | exact Kd.S_nil _ _ _ _ _ | exact Kd.N_nil _ _ _ _ _ | exact Kd.V_nil _ _ _ _ _ | exact Kd.Q_nil _ _ _ _ _ | exact Kd.R_nil _ _ _ _ _, by repeat (first | (with_reducible first | exact HB.out | apply zC_ | apply zA_ | apply zB_) | exact HB.out)⟩
          ·rw [if_neg c12] at H
           have c12b0 : decide ((l0.length : Int) ≤ (rd l1 x24_2)) = false := decide_eq_false c12
           clear c12
           by_cases c13 : 0 ≤ (rd l1 x24_2)
           ·rw [if_pos c13] at H
            have c13b0 : decide (0 ≤ (rd l1 x24_2)) = true := decide_eq_true c13
            clear c13
            by_cases c14 : (rd l1 x24_2) < (l0.length : Int)
            ·rw [if_pos c14] at H
             have c14b0 : decide ((rd l1 x24_2) < (l0.length : Int)) = true := decide_eq_true c14
             clear c14
             replace H := Option.bind_eq_some_iff.mp H
             obtain ⟨t104, A150, H⟩ := H
             replace H : (if x6_2.length < 5864062014805 then (matrix_Rows.l0 k2 l0 (x6_2 ++ [t104]) l1 (l1.length : Int) (wrap64 (x24_2 + 1))) else (none)) = some (r1, r2) := H
             have A15 := Aside0.mk A150
             clear A150
             by_cases c16 : x6_2.length < 5864062014805
             ·rw [if_pos c16] at H
              have LMc16 := Aside0.mk c16
              clear c16
              obtain ⟨y107, hy107⟩ : ∃ y_ : List (List Int), y_ = (x6_2 ++ [t104]) := ⟨_, rfl⟩
              replace H : (matrix_Rows.l0 k2 l0 y107 l1 (l1.length : Int) (wrap64 (x24_2 + 1))) = some (r1, r2) := by first | (rw [hy107]; with_reducible exact H) | (have H2_ := (Option.bind_some _ _).symm.trans H; rw [hy107]; with_reducible exact H2_) | (have H2_ := (Option.bind_some _ _).symm.trans H; with_reducible exact H2_) | with_reducible exact H | (rw [hy107]; exact H) | exact H
              have Ny107 := Aside0.mk hy107
              clear hy107
              have H' := Aside0.mk H
              clear H
              have p102 : 0 ≤ (x24_2 : Int) := of_decide_eq_true (by first | (with_reducible assumption) | assumption)
              have q102 : x24_2 < (l1.length : Int) := of_decide_eq_true (by first | (with_reducible assumption) | assumption)
              obtain ⟨ad102, e102, hx102_0⟩ := Kd.at_int HR1.out x24_2 p102 q102
              cases e102
              replace hx102_0 := (HB.out.cell (World.block_lt_of_cell? w _ hx102_0)).trans hx102_0
              replace p102 := eq_true p102
              replace q102 := eq_true q102
              have p103 : 0 ≤ ((rd l1 x24_2) : Int) := of_decide_eq_true (by first | (with_reducible assumption) | assumption)
              have q103 : (rd l1 x24_2) < (l0.length : Int) := of_decide_eq_true (by first | (with_reducible assumption) | assumption)
              obtain ⟨ad103, A103_0, c103_0, e103, hx103_0, hl103_0, hi103_0⟩ := at_L1 HR0.out (rd l1 x24_2) p103 q103
              cases e103
              replace hx103_0 := (HB.out.cell (World.block_lt_of_cell? w _ hx103_0)).trans hx103_0
              have HR103_0 := Aside0.mk hi103_0
              have HC103_0 := Aside0.mk hl103_0
              clear hi103_0 hl103_0
              replace p103 := eq_true p103
              replace q103 := eq_true q103
              go_wp2_with (first | ((with_reducible refine gate_callee (f := 68) rfl ?_); refine goesL_ (some 41) rfl rfl Tryd.func68 (by kernel_rfl) rfl #[.slice A103_0 (rd_L1 l0 (rd l1 x24_2)).length c103_0] rfl (by (try simp only [List.map_toArray, List.map_cons, List.map_nil]); first | done | rfl | (simp only [List.length_drop, List.length_take]; rfl)) ?_; (with_reducible refine (slices_Clone_byte_byte.calls _ _ (rd_L1 l0 (rd l1 x24_2)) t104 _ ?side1 ?side2 A15.out).mono ?_); (case side1 => repeat (first | exact (Kd.C_below HR103_0.out HB.out) | (with_reducible refine Kd.C_alloc ?_ _) | (with_reducible refine Kd.C_drewN ?_ _) | (with_reducible refine Kd.C_drew ?_))); (case side2 => exact HC103_0.out); rintro e w17 ⟨v105, rfl, ho0, hb⟩; refine ⟨_, rfl, ?_⟩; have n0_ := Aside0.mk (Kd.S_elder' (by (with_reducible repeat (first | apply Kd.S_alloc | apply Kd.S_drewN | apply Kd.S_drew)); exact HO_6.out) (Kd.R_base ho0) hb); have n1_ := Aside0.mk (Kd.R_lower ho0 (zF_ (by repeat (first | (with_reducible first | exact HB.out | apply zC_ | apply zA_ | apply zB_) | exact HB.out)))); have n2_ := Aside0.mk (zE_ (by repeat (first | (with_reducible first | exact HB.out | apply zC_ | apply zA_ | apply zB_) | exact HB.out)) hb); clear HO_6; clear HB; have HO_6 := n0_; have HO106 := n1_; have HB := n2_; clear n0_ n1_ n2_; (try clear hb); (try clear hb2); (try clear hk); (try clear hi); (try clear ho0); obtain ⟨Ao19, co19, eo19⟩ := Kd.R_slice HO106.out; subst eo19) | ((with_reducible refine gate_builtin (b := .append) (xs := #[.tmp 36, .tmp 42]) rfl ?_); (try (refine gate_guard (by rfl) ?_; dsimp only)); at_builtin; refine Kd.S_append (Kd.slice 5 (Kd.int .u8)) (w0 := w) w.heap.size rfl (.tmp 36) (.tmp 42) 26 22 (.slice none 0 0) 24 rfl Tryd.underlying26 info22 rfl (by decide) (by omega) u6 x6_2 t104 [.slice Ao19 t104.length co19] (fun _ => True) (fun k_ => some k_ = (.slice Ao19 t104.length co19 : Value).ownBlock) rfl rfl ?aP (fun k_ hk_ => ((Kd.R_mono (ok' := fun k_ => ((fun _ => True)) k_ ∧ some k_ ≠ (u6 : Value).ownBlock) (Kd.R_apart' (HO106.out) (Kd.S_typed HO_6.out) (by decide)) (fun k_ hk => ⟨trivial, hk.2⟩))).1 k_ hk_.symm) ?aF ?aO ?aB ?aS ?aL ?_; (case aP => exact Kd.M_row (Kd.R_mono (Kd.R_tight rfl (Kd.R_mono (ok' := fun k_ => ((fun _ => True)) k_ ∧ some k_ ≠ (u6 : Value).ownBlock) (Kd.R_apart' (HO106.out) (Kd.S_typed HO_6.out) (by decide)) (fun k_ hk => ⟨trivial, hk.2⟩))) (fun _ h_ => h_))); (case aB => exact (by repeat (first | (with_reducible first | exact HB.out | apply zC_ | apply zA_ | apply zB_) | exact HB.out))); (case aF => exact (fun _ _ => trivial)); (case aO => exact (by (with_reducible repeat (first | apply Kd.S_alloc | apply Kd.S_drewN | apply Kd.S_drew)); exact Kd.S_mono HO_6.out (fun k_ hk => ⟨trivial, fun e_ => hk.2 e_⟩))); (case aS => exact (zF_ (by repeat (first | (with_reducible first | exact HB.out | apply zC_ | apply zA_ | apply zB_) | exact HB.out)))); (case aL => have := LMc16.out; omega); intro v108 w18 ho hb hg hat; rw [← Ny107.out] at ho; have n0_ := Aside0.mk (hb); have n1_ := Aside0.mk (ho); clear HB; clear HO_6; clear HO106; have HB := n0_; have HO109 := n1_; clear n0_ n1_; clear ho hb hg hat))
              go_roundg k2
              case measure => have := HJ2.out; have := HK2.out; omega
              case rel => exact ⟨(y107), (wrap64 (x24_2 + 1)), (by first | rfl | (simp; done) | (simp [*]; done)), H', ⟨by have := HJ2.out; have := HK2.out; omega⟩, ⟨by (with_reducible repeat (first | apply Kd.S_alloc | apply Kd.S_drewN | apply Kd.S_drew)); exact HO109.out⟩, ⟨by repeat (first | (with_reducible first | exact HB.out | apply zC_ | apply zA_ | apply zB_) | exact HB.out)⟩⟩
             ·rw [if_neg c16] at H
              exact absurd H (by simp)
            ·rw [if_neg c14] at H
             exact absurd H (by simp)
           ·rw [if_neg c13] at H
            exact absurd H (by simp)
        ·rw [if_neg c10] at H
         exact absurd H (by simp)
       ·rw [if_neg c9] at H
        exact absurd H (by simp)
      ·rw [if_neg c8] at H
       have c8b0 : decide (x24_2 < (l1.length : Int)) = false := decide_eq_false c8
       clear c8
       simp only [Option.some.injEq, Prod.mk.injEq] at H
       obtain ⟨rfl, rfl⟩ := H
       go_wp2
       go_ret2
       exact ⟨_, by first | rfl | (simp [errW_none, errW_some] <;> rfl) | (simp [*, errW_none, errW_some] <;> rfl), by (with_reducible repeat (first | apply Kd.S_alloc | apply Kd.S_drewN | apply Kd.S_drew)); exact HO_6.out, by repeat (first | (with_reducible first | exact HB.out | apply zC_ | apply zA_ | apply zB_) | exact HB.out)⟩
end Go.Proofs.YtnfgiamdmfkcjaaDoor.P
namespace Go.Proofs.YtnfgiamdmfkcjaaDoor.Red
open Go.RowKit Go.Proofs.YtnfgiamdmfkcjaaDoorW.PrintWords Go.Proofs.YtnfgiamdmfkcjaaDoor.Leaf Go.Proofs.YtnfgiamdmfkcjaaDoor.Gf Go.Proofs.YtnfgiamdmfkcjaaDoor.H Go.Proofs.YtnfgiamdmfkcjaaDoor.Mx Go.Proofs.YtnfgiamdmfkcjaaDoor.P
def rowsM (A : Mat) (l : List Int) : Mat := l.map fun i => row A i.toNat
theorem rows_ok (A : Mat) (hr : ∀ i, i < A.length → (row A i).length < 140737488355328) (l : List Int) (hl : l.length ≤ 255) (h : ∀ j, j < l.length → 0 ≤ rd l (j : Int) ∧ rd l (j : Int) < A.length) (d : Nat) : ∀ i : Nat, i + d = l.length →
 Ev (fun k => matrix_Rows.l0 k (oM A) (oM (rowsM A (l.take i))) l (l.length : Int) (i : Int)) (oM (rowsM A l), 0) := by
 induction d with
 | zero =>
  intro i hi
  obtain rfl : i = l.length := by omega
  rw [List.take_length]
  refine Ev.step (f := fun _ => some (oM (rowsM A l), 0)) (fun f => ?_) (Ev.now _)
  simp only [matrix_Rows.l0]
  rw [if_neg (by omega)]
 | succ d ih =>
  intro i hi
  obtain ⟨h1, h2⟩ := h i (by omega)
  refine Ev.step (f := fun k => matrix_Rows.l0 k (oM A) (oM (rowsM A (l.take (i + 1)))) l (l.length : Int) ((i + 1 : Nat) : Int)) (fun f => ?_) (ih (i + 1) (by omega))
  have e1 : rd_L1 (oM A) (rd l (i : Int)) = ofL (row A (rd l (i : Int)).toNat) := map_getD A _
  have e2 : (rowsM A (l.take i)).length = i := by unfold rowsM; rw [List.length_map, List.length_take]; omega
  have e3 : rowsM A (l.take i) ++ [row A (rd l (i : Int)).toNat] = rowsM A (l.take (i + 1)) := by
   unfold rowsM
   rw [List.take_succ_eq_append_getElem (by omega), List.map_append]
   have e4 : rd l (i : Int) = l[i] := by
    unfold rd
    rw [Int.toNat_natCast, List.getD_eq_getElem?_getD, List.getElem?_eq_getElem (by omega)]
    rfl
   rw [e4]
   rfl
  simp only [matrix_Rows.l0, oM_length, e1, slices_Clone_byte_byte.f, zG_, e2]
  rw [if_pos (by omega), if_pos (by omega), if_pos (by omega), if_neg (by omega), if_neg (by omega), if_pos (by omega), if_pos (by omega), if_pos (hr _ (by omega)), Option.bind_some, if_pos (by omega), oM_one, oM_append, e3, w64 _ (by omega) (by omega)]
  rfl
theorem rows_bad (A : Mat) (hr : ∀ i, i < A.length → (row A i).length < 140737488355328) (l : List Int) (hl : l.length ≤ 255) (j : Nat) (hj : j < l.length) (hb : rd l (j : Int) < 0 ∨ rd l (j : Int) ≥ A.length) (d : Nat) : ∀ (i : Nat) (X : List (List Int)), i + d = j → X.length = i →
 Ev (fun k => matrix_Rows.l0 k (oM A) X l (l.length : Int) (i : Int)) ([], 1) := by
 induction d with
 | zero =>
  intro i X hi hX
  obtain rfl : i = j := by omega
  refine Ev.step (f := fun _ => some ([], 1)) (fun f => ?_) (Ev.now _)
  simp only [matrix_Rows.l0, oM_length]
  rw [if_pos (by omega), if_pos (by omega), if_pos (by omega)]
  by_cases h1 : rd l (i : Int) < 0
  ·rw [if_pos h1]
  ·rw [if_neg h1, if_pos (by omega)]
 | succ d ih =>
  intro i X hi hX
  by_cases h1 : rd l (i : Int) < 0
  ·refine Ev.step (f := fun _ => some ([], 1)) (fun f => ?_) (Ev.now _)
   simp only [matrix_Rows.l0, oM_length]
   rw [if_pos (by omega), if_pos (by omega), if_pos (by omega), if_pos h1]
  ·by_cases h2 : rd l (i : Int) ≥ A.length
   ·refine Ev.step (f := fun _ => some ([], 1)) (fun f => ?_) (Ev.now _)
    simp only [matrix_Rows.l0, oM_length]
    rw [if_pos (by omega), if_pos (by omega), if_pos (by omega), if_neg h1, if_pos (by omega)]
   ·have e1 : rd_L1 (oM A) (rd l (i : Int)) = ofL (row A (rd l (i : Int)).toNat) := map_getD A _
    refine Ev.step (f := fun k => matrix_Rows.l0 k (oM A) (X ++ [ofL (row A (rd l (i : Int)).toNat)]) l (l.length : Int) ((i + 1 : Nat) : Int)) (fun f => ?_) (ih (i + 1) _ (by omega) (by rw [List.length_append, hX]; rfl))
    simp only [matrix_Rows.l0, oM_length, e1, slices_Clone_byte_byte.f, zG_, hX]
    rw [if_pos (by omega), if_pos (by omega), if_pos (by omega), if_neg (by omega), if_neg (by omega), if_pos (by omega), if_pos (by omega), if_pos (hr _ (by omega)), Option.bind_some, if_pos (by omega), w64 _ (by omega) (by omega)]
    rfl
/-- May such rows be had? -/
def rowsB (A : Mat) (l : List Int) : Bool := mayB A && decide (0 < l.length) && decide (l.length ≤ 255) && l.all fun v => decide (0 ≤ v) && decide (v < A.length)
def rowsR (A : Mat) (l : List Int) : List (List Int) × Int := if rowsB A l = true then (oM (rowsM A l), 0) else ([], 1)
theorem rd_mem (l : List Int) (j : Nat) (hj : j < l.length) : rd l (j : Int) ∈ l := by
 unfold rd
 rw [Int.toNat_natCast, List.getD_eq_getElem?_getD, List.getElem?_eq_getElem hj]
 exact List.getElem_mem hj
theorem evRows (A : Mat) (hs : A.length ≤ 9223372036854775807) (l : List Int) : Ev (fun k => matrix_Rows.f k (oM A) l) (rowsR A l) := by
 have j1 : Ev (fun k => matrix_Rows.j0 k (oM A) l true) ([], 1) := Ev.step (f := fun _ => some ([], 1)) (fun k => by simp only [matrix_Rows.j0, if_true]) (Ev.now _)
 unfold matrix_Rows.f rowsR
 refine Ev.bind (evCheck A hs) ?_
 cases h1 : mayB A with
 | false =>
  rw [show rowsB A l = false by unfold rowsB; rw [h1]; rfl]
  simp only [Bool.false_eq_true, if_false, show ((1 : Int) = 0) = False from eq_false (by decide)]
  exact j1
 | true =>
  simp only [if_true]
  by_cases h2 : l.length = 0
  ·rw [show rowsB A l = false by unfold rowsB; rw [decide_eq_false (by omega)]; simp]
   simp only [show ((l.length : Int) = 0) = True from eq_true (by omega), if_true, Bool.false_eq_true, if_false]
   exact j1
  ·simp only [show ((l.length : Int) = 0) = False from eq_false (by omega), if_false]
   by_cases h3 : l.length > 255
   ·rw [show rowsB A l = false by unfold rowsB; rw [decide_eq_false (show ¬ l.length ≤ 255 by omega)]; simp]
    simp only [show decide ((l.length : Int) > 255) = true from decide_eq_true (by omega), Bool.false_eq_true, if_false]
    exact j1
   ·simp only [show decide ((l.length : Int) > 255) = false from decide_eq_false (by omega)]
    obtain ⟨hA, a1, a2, a3, a4⟩ := mayB_reg h1
    have hr : ∀ i, i < A.length → (row A i).length < 140737488355328 := fun i hi => by rw [hA.2 i hi]; omega
    refine Ev.step (f := fun k => matrix_Rows.l0 k (oM A) (oM (rowsM A (l.take 0))) l (l.length : Int) ((0 : Nat) : Int)) (fun k => by simp only [matrix_Rows.j0, Bool.false_eq_true, if_false]; rfl) ?_
    cases h4 : (l.all fun v => decide (0 ≤ v) && decide (v < A.length)) with
    | true =>
     rw [show rowsB A l = true by unfold rowsB; rw [h1, h4, decide_eq_true (show 0 < l.length by omega), decide_eq_true (show l.length ≤ 255 by omega)]; rfl, if_pos rfl]
     refine rows_ok A hr l (by omega) (fun j hj => ?_) l.length 0 (by omega)
     have := List.all_eq_true.1 h4 _ (rd_mem l j hj)
     simpa using this
    | false =>
     rw [show rowsB A l = false by unfold rowsB; rw [h4]; simp]
     simp only [Bool.false_eq_true, if_false]
     obtain ⟨v, hv, hb⟩ := List.all_eq_false.1 h4
     obtain ⟨j, hj, e⟩ := List.mem_iff_getElem.1 hv
     have e2 : rd l (j : Int) = v := by
      unfold rd
      rw [Int.toNat_natCast, List.getD_eq_getElem?_getD, List.getElem?_eq_getElem hj]
      exact e
     refine rows_bad A hr l (by omega) j hj ?_ j 0 _ (by omega) rfl
     rw [e2]
     have hb' : ¬ (0 ≤ v ∧ v < A.length) := by simpa using hb
     omega
end Go.Proofs.YtnfgiamdmfkcjaaDoor.Red
namespace Go.Proofs.YtnfgiamdmfkcjaaDoor.H
open Go.RowKit Go.Proofs.YtnfgiamdmfkcjaaDoorW.PrintWords Go.Proofs.YtnfgiamdmfkcjaaDoorW.PrintLast Go.Proofs.YtnfgiamdmfkcjaaDoorW.PrintMore Go.Proofs.YtnfgiamdmfkcjaaDoor.Leaf Go.Proofs.YtnfgiamdmfkcjaaDoor.Gf Go.Proofs.YtnfgiamdmfkcjaaDoor.Mx Go.Proofs.YtnfgiamdmfkcjaaDoor.P Go.Proofs.YtnfgiamdmfkcjaaDoor.Red
theorem rows_calls (A0 : Option Addr) (c0 : Nat) (l0 : List (List Int)) (A1 : Option Addr) (c1 : Nat) (l1 : List Int) (r1 : List (List Int)) (r2 : Int) (w : World) (hr0 : Kd.C (Kd.slice 5 (Kd.int .u8)) w A0 l0.length l0) (hc0 : l0.length ≤ c0) (hr1 : Kd.C (Kd.int .i64) w A1 l1.length l1) (hc1 : l1.length ≤ c1) (h : Ev (fun k => matrix_Rows.f k l0 l1) (r1, r2)) :
    Calls Tryd.prog 36 #[.slice A0 l0.length c0, .slice A1 l1.length c1] w fun e w' => ∃ v0_ : Value, e = .returned (.tuple #[v0_, .int .i64 r2]) ∧ Kd.S (Kd.slice 5 (Kd.int .u8)) 22 w' w.heap.size (fun _ => True) v0_ r1 ∧ Below w.heap.size w w' := by
  obtain ⟨k, h⟩ := h.rounds
  exact matrix_Rows.calls k A0 c0 l0 A1 c1 l1 r1 r2 w hr0 hc0 hr1 hc1 h
/-- Rows that came in, read in what made them a row of the call's own: read now. -/
theorem fixed_C {w wr : World} {A : Option Addr} {n : Nat} {X : List (List Int)} (hb : Below w.heap.size w wr) (h : (Kd.fixed (Kd.slice 5 (Kd.int .u8)) w).C wr A n X) : Kd.C (Kd.slice 5 (Kd.int .u8)) wr A n X :=
  ReadsRow.imp_ (R' := (Kd.slice 5 (Kd.int .u8)).K wr) h (Below.refl _ _) (fun _ _ hp => (Kd.slice 5 (Kd.int .u8)).K_below hb hp)
theorem fixed_ne (w : World) (t : Nat) (h : 22 ≠ t) : ∀ q, q ∈ 22 :: (Kd.fixed (Kd.slice 5 (Kd.int .u8)) w).E → q ≠ t := by
  intro q hq
  rcases List.mem_cons.1 hq with rfl | hq
  · exact h
  · exact absurd (show q ∈ ([] : List Nat) from hq) List.not_mem_nil
end Go.Proofs.YtnfgiamdmfkcjaaDoor.H
namespace Go.Proofs.YtnfgiamdmfkcjaaDoor.H
open Go.RowKit Go.Proofs.YtnfgiamdmfkcjaaDoorW.PrintWords Go.Proofs.YtnfgiamdmfkcjaaDoor.Leaf Go.Proofs.YtnfgiamdmfkcjaaDoor.Gf Go.Proofs.YtnfgiamdmfkcjaaDoor.Red
/-- Two matrices of the call's own, apart. -/
def St (w : World) (base ga ca gb cb n m p : Nat) (A Z : Mat) : Prop :=
 ∃ ida capa idb capb, Mt w base ga ca ida capa (A.map ofL) ∧ Mt w base gb cb idb capb (Z.map ofL) ∧ (∀ i j, i < n → j < n → ida i ≠ idb j) ∧ ga ≠ gb ∧ Reg A n m ∧ Reg Z n p
section
variable {w w1 : World} {base ga ca gb cb n m p : Nat} {A Z : Mat}
theorem St.symm (h : St w base ga ca gb cb n m p A Z) : St w base gb cb ga ca n p m Z A := by
 obtain ⟨a, b, c, d, h1, h2, h3, h4, h5, h6⟩ := h
 exact ⟨c, d, a, b, h2, h1, fun i j hi hj e => h3 j i hj hi e.symm, h4.symm, h6, h5⟩
theorem St.below (h : St w base ga ca gb cb n m p A Z) (hb : Below w.heap.size w w1) : St w1 base ga ca gb cb n m p A Z := by
 obtain ⟨a, b, c, d, h1, h2, h3⟩ := h
 exact ⟨a, b, c, d, h1.below hb, h2.below hb, h3⟩
theorem St.reg (h : St w base ga ca gb cb n m p A Z) : Reg A n m ∧ Reg Z n p ∧ base ≤ ga ∧ base ≤ gb ∧ ga < w.heap.size ∧ gb < w.heap.size := by
 obtain ⟨a, b, c, d, h1, h2, h3, h4, h5, h6⟩ := h
 exact ⟨h5, h6, h1.gbase, h2.gbase, h1.glt, h2.glt⟩
theorem St.read (h : St w base ga ca gb cb n m p A Z) (i : Nat) (hi : i < n) :
 ∃ b c, w.cell? ⟨ga, i, none⟩ = some (.slice (some ⟨b, 0, none⟩) m c) ∧ w.frozen? ⟨ga, i, none⟩ = false ∧ Rw w base b c (ofL (row A i)) := by
 obtain ⟨a, b, c, d, h1, h2, h3, h4, h5, h6⟩ := h
 have hi' : i < (A.map ofL).length := by rw [List.length_map, h5.1]; exact hi
 have hat := h1.at_ i hi'
 have hr := h1.rows i hi'
 rw [map_getD] at hr
 refine ⟨a i, b i, ?_, hat.2, hr⟩
 rw [hat.1]
 unfold sl
 rw [map_getD, zG_, h5.2 i hi]
theorem St.swapA (h : St w base ga ca gb cb n m p A Z) {i j : Nat} (hi : i < n) (hj : j < n) {u v : Value} (hu : w.cell? ⟨ga, i, none⟩ = some u) (hv : w.cell? ⟨ga, j, none⟩ = some v) :
 St ((w.setCell ⟨ga, i, none⟩ v).setCell ⟨ga, j, none⟩ u) base ga ca gb cb n m p (swapM A i j) Z := by
 obtain ⟨a, b, c, d, h1, h2, h3, h4, h5, h6⟩ := h
 have hi' : i < (A.map ofL).length := by rw [List.length_map, h5.1]; exact hi
 have hj' : j < (A.map ofL).length := by rw [List.length_map, h5.1]; exact hj
 have e1 := (h1.at_ i hi').1
 have e2 := (h1.at_ j hj').1
 rw [hu] at e1
 rw [hv] at e2
 obtain rfl := Option.some.inj e1
 obtain rfl := Option.some.inj e2
 have hs := h1.swap i j hi' hj'
 rw [map_swap] at hs
 have hz : ∀ (W : World) (q : Nat) (x : Value), Mt W base gb cb c d (Z.map ofL) → (∃ cells, W.heap[ga]? = some (.cells cells 22 (0, 0))) → Mt (W.setCell ⟨ga, q, none⟩ x) base gb cb c d (Z.map ofL) := by
  intro W q x hW ⟨cells, hc⟩
  refine hW.far h4 (fun k hk e => ?_) x
  obtain ⟨cs, hcs⟩ := (hW.rows k hk).typed
  have e' : ga = c k := e
  rw [← e', hc] at hcs
  simp at hcs
 have ht2 : ∃ cells, (w.setCell ⟨ga, i, none⟩ (sl a b (A.map ofL) j)).heap[ga]? = some (.cells cells 22 (0, 0)) := own_typed (h1.outer.stored i _).1 ga rfl
 refine ⟨tw a i j, tw b i j, c, d, hs, hz _ _ _ (hz _ _ _ h2 h1.typed) ht2, fun x y hx hy => ?_, h4, h5.swap hi hj, h6⟩
 unfold tw
 by_cases e : x = j
 ·rw [if_pos e]; exact h3 i y hi hy
 ·rw [if_neg e]
  by_cases e2 : x = i
  ·rw [if_pos e2]; exact h3 j y hj hy
  ·rw [if_neg e2]; exact h3 x y hx hy
theorem St.putA (h : St w base ga ca gb cb n m p A Z) {i : Nat} (hi : i < n) {b c : Nat} (hb : w.cell? ⟨ga, i, none⟩ = some (.slice (some ⟨b, 0, none⟩) m c)) (j : Nat) (x : B) :
 St (w.setCell ⟨b, j, none⟩ (.int .u8 (ofB x))) base ga ca gb cb n m p (A.set i ((row A i).set j x)) Z ∧ base ≤ b ∧ b ≠ ga ∧ b ≠ gb ∧ b < w.heap.size := by
 obtain ⟨a, b', c', d, h1, h2, h3, h4, h5, h6⟩ := h
 have hi' : i < (A.map ofL).length := by rw [List.length_map, h5.1]; exact hi
 have e1 := (h1.at_ i hi').1
 rw [hb] at e1
 have e2 : b = a i := by
  have := Option.some.inj e1
  unfold sl at this
  injection this with t1 t2 t3
  injection t1 with t1
  injection t1 with t1
 subst e2
 have hp := h1.put i hi' j (ofB x)
 have hbg := h2.ne (h1.rows i hi')
 rw [map_getD, ofL_set, map_set] at hp
 refine ⟨⟨a, b', c', d, hp, h2.far hbg (fun k hk => h3 i k hi (by rw [List.length_map, h6.1] at hk; exact hk)) _, h3, h4, h5.set hi (by rw [List.length_set]; exact h5.2 i hi), h6⟩, (h1.rows i hi').base_, h1.ne (h1.rows i hi'), hbg, (h1.rows i hi').lt⟩
theorem St.rowA (h : St w base ga ca gb cb n m p A Z) {i : Nat} (hi : i < n) (hbl : Below w.heap.size w w1) {b c : Nat} {r : List B} (hr : Rw w1 base b c (ofL r)) (hn : w.heap.size ≤ b) (hl : r.length = m) :
 St (w1.setCell ⟨ga, i, none⟩ (.slice (some ⟨b, 0, none⟩) m c)) base ga ca gb cb n m p (A.set i r) Z := by
 obtain ⟨a, b', c', d, h1, h2, h3, h4, h5, h6⟩ := h
 have hi' : i < (A.map ofL).length := by rw [List.length_map, h5.1]; exact hi
 have h1' := h1.below hbl
 have h2' := h2.below hbl
 have hs := h1'.setRow i hi' hr (fun k hk _ => by have := (h1.rows k hk).lt; omega)
 rw [map_set, zG_, hl] at hs
 refine ⟨up a i b, up b' i c, c', d, hs, h2'.far h4 (fun k hk e => ?_) _, fun x y hx hy => ?_, h4, h5.set hi hl, h6⟩
 ·obtain ⟨cs, hcs⟩ := (h2'.rows k hk).typed
  obtain ⟨cs', hcs'⟩ := h1'.typed
  have e' : ga = c' k := e
  rw [← e', hcs'] at hcs
  simp at hcs
 ·unfold up
  by_cases e : x = i
  ·rw [if_pos e]
   have := (h2.rows y (by rw [List.length_map, h6.1]; exact hy)).lt
   omega
  ·rw [if_neg e]; exact h3 x y hx hy
theorem St.cap (h : St w base ga ca gb cb n m p A Z) : n ≤ ca ∧ n ≤ cb := by
 obtain ⟨a, b, c, d, h1, h2, h3, h4, h5, h6⟩ := h
 have e1 := own_le h1.outer
 have e2 := own_le h2.outer
 rw [List.length_map] at e1 e2
 exact ⟨by have := h5.1; omega, by have := h6.1; omega⟩
theorem info22h : (Tryd.prog.info? 22).map (fun i => (i.zero, i.size, i.bytes)) = some (some (.slice none 0 0), 1, 24) := by kernel_rfl
theorem cut_run (g n c d : Nat) (hd : d < n) (hc : n ≤ c) : ∀ W : World, (Instr.slice 26 (.slice (some ⟨g, 0, none⟩) n c) (some (.int .i64 (d : Int))) none none).run Tryd.prog W = .ok (.slice (some ⟨g, d, none⟩) (n - d) (c - d)) W := by
 intro W
 obtain ⟨i0, hi, hz⟩ := Option.map_eq_some_iff.1 info22h
 simp only [Prod.mk.injEq] at hz
 have hel : Tryd.prog.elem 26 = 22 := by simp [Program.elem, Tryd.underlying26]
 have hu : Tryd.prog.underlying 26 = some (.slice (Tryd.prog.elem 26)) := by rw [hel]; exact Tryd.underlying26
 rw [run_slice_l W 26 _ n c hu .i64 (d : Int) (by omega) (by omega), hel]
 have hcd : c ≠ d := by omega
 simp [sizeOf, typeInfo, hi, hz.2.1, sliced, Result.andThen, hcd, Addr.add]
 exact fun e => e.symm
theorem idx_calls (h : St w base ga ca gb cb n m p A Z) {d c : Nat} (hd : d < n) (hn : n ≤ 255) (hc : c < m) {q : Addr} {W : World} (hq : W.cell? q = some (.int .i64 (c : Int))) (hb : Below w.heap.size w W) :
 Calls Tryd.prog 91 #[.slice (some ⟨ga, d, none⟩) (n - d) (ca - d), .func (.func 92) #[] #[.pointer (some q)]] W fun e w' => e = .returned (.int .i64 (pivot A d c)) ∧ Below W.heap.size W w' := by
 have h' := h.below hb
 obtain ⟨a, b, c', d', h1, h2, h3, h4, h5, h6⟩ := h'
 have eg := enters_id Tryd.func92 (by kernel_rfl) rfl
 have hat : ∀ j, j < n - d → d + j < (A.map ofL).length := fun j hj => by rw [List.length_map, h5.1]; omega
 unfold pivot
 rw [h5.1]
 refine indexFunc_calls (fun j => rd (ofL (row A (d + j))) (c : Int) != 0) 92 #[.pointer (some q)] eg (some ⟨ga, d, none⟩) (n - d) (ca - d) (fun j => sl a b (A.map ofL) (d + j)) W (by omega) (fun _ => ⟨⟨ga, d, none⟩, rfl, fun j hj => ?_⟩) (fun j hj => rfl) (fun W2 j hj hb2 => ?_)
 ·have e : (⟨ga, d, none⟩ : Addr).add j = ⟨ga, d + j, none⟩ := by simp [Addr.add]
  rw [e]
  exact (h1.at_ (d + j) (hat j hj)).1
 ·have hr := ((h1.below hb2).rows (d + j) (hat j hj))
  rw [map_getD] at hr
  show Calls Tryd.prog 92 #[sl a b (A.map ofL) (d + j), .pointer (some q)] W2 _
  unfold sl
  rw [map_getD]
  exact (pred_calls (a (d + j)) (b (d + j)) (ofL (row A (d + j))) c q W2 base hr (by rw [zG_, h5.2 _ (by omega)]; exact hc) (zD_ hb2 hq)).mono fun e w' ⟨he, hb3⟩ => ⟨he, zE_ hb2 hb3⟩
/-- The variable that the closure looks at. -/
def Col (w : World) (q kk : Nat) : Prop := (∃ cs, w.heap[q]? = some (.cells cs 3 (0, 0))) ∧ w.cell? ⟨q, 0, none⟩ = some (.int .i64 (kk : Int))
theorem Col.below {q kk : Nat} (h : Col w q kk) (hb : Below w.heap.size w w1) : Col w1 q kk := by
 obtain ⟨⟨cs, hc⟩, h2⟩ := h
 exact ⟨⟨cs, (hb.block q (blk_lt hc)).trans hc⟩, zD_ hb h2⟩
theorem Col.far {q kk b j t : Nat} {cells : Array Value} (h : Col w q kk) (hb : w.heap[b]? = some (.cells cells t (0, 0))) (ht : t ≠ 3) (u : Value) : Col (w.setCell ⟨b, j, none⟩ u) q kk := by
 obtain ⟨⟨cs, hc⟩, h2⟩ := h
 have hne : q ≠ b := by
  rintro rfl
  rw [hc] at hb
  simp at hb
  exact ht hb.2.symm
 have hh := Below.heap_setCell w ⟨b, j, none⟩ u q hne
 exact ⟨⟨cs, hh.trans hc⟩, (World.cell?_of_block (w := w) hh).trans h2⟩
theorem St.types (h : St w base ga ca gb cb n m p A Z) : (∃ cells, w.heap[ga]? = some (.cells cells 22 (0, 0))) ∧ ∃ cells, w.heap[gb]? = some (.cells cells 22 (0, 0)) := by
 obtain ⟨a, b, c, d, h1, h2, h3⟩ := h
 exact ⟨h1.typed, h2.typed⟩
theorem St.drew (h : St w base ga ca gb cb n m p A Z) : St w.drew base ga ca gb cb n m p A Z := h.below (below_drew (Below.refl _ _))
end
theorem typed_set {w : World} {b t : Nat} (h : ∃ cs, w.heap[b]? = some (.cells cs t (0, 0))) (p : Addr) (u : Value) : ∃ cs, (w.setCell p u).heap[b]? = some (.cells cs t (0, 0)) := by
 obtain ⟨cs, hc⟩ := h
 by_cases e : b = p.block
 ·subst e
  simp only [World.setCell, Array.getElem?_modify, if_true, hc]
  exact ⟨_, rfl⟩
 ·exact ⟨cs, (Below.heap_setCell w p u b e).trans hc⟩
theorem cell_far {w : World} {p q : Addr} {v : Value} (h : w.cell? q = some v) (hne : q.block ≠ p.block) (u : Value) : (w.setCell p u).cell? q = some v :=
 (World.cell?_of_block (w := w) (Below.heap_setCell w p u q.block hne)).trans h
section
variable {w0 w w1 : World} {base ga ca gb cb n m p q kk dd : Nat} {A Z : Mat}
theorem Col.drew (h : Col w q kk) : Col w.drew q kk := h.below (below_drew (Below.refl _ _))
theorem St.exch (h : St w base ga ca gb cb n m p A Z) (hB : Below base w0 w) (hC : Col w q kk) {i j : Nat} (hi : i < n) (hj : j < n) {u v : Value} (hu : w.cell? ⟨ga, i, none⟩ = some u) (hv : w.cell? ⟨ga, j, none⟩ = some v) :
 St ((w.setCell ⟨ga, i, none⟩ v).setCell ⟨ga, j, none⟩ u).drew base ga ca gb cb n m p (swapM A i j) Z ∧ Below base w0 ((w.setCell ⟨ga, i, none⟩ v).setCell ⟨ga, j, none⟩ u).drew ∧ Col ((w.setCell ⟨ga, i, none⟩ v).setCell ⟨ga, j, none⟩ u).drew q kk := by
 obtain ⟨_, _, hg, _, _, _⟩ := h.reg
 obtain ⟨cs, hc⟩ := h.types.1
 obtain ⟨cs', hc'⟩ := typed_set h.types.1 ⟨ga, i, none⟩ v
 exact ⟨(h.swapA hi hj hu hv).drew, below_drew ((hB.setCell hg _).setCell hg _), ((hC.far hc (by decide) _).far hc' (by decide) _).drew⟩
/-- Behind the exchange: the two rows at dd are known by their blocks. -/
structure Sc (W w0 : World) (base ga ca gb cb n m p : Nat) (A Z : Mat) (q kk dd bA cA bZ cZ : Nat) : Prop where
 st : St W base ga ca gb cb n m p A Z
 bl : Below base w0 W
 col : Col W q kk
 ra : W.cell? ⟨ga, dd, none⟩ = some (.slice (some ⟨bA, 0, none⟩) m cA)
 rz : W.cell? ⟨gb, dd, none⟩ = some (.slice (some ⟨bZ, 0, none⟩) p cZ)
variable {bA cA bZ cZ : Nat}
theorem Sc.symm (h : Sc w w0 base ga ca gb cb n m p A Z q kk dd bA cA bZ cZ) : Sc w w0 base gb cb ga ca n p m Z A q kk dd bZ cZ bA cA := ⟨h.st.symm, h.bl, h.col, h.rz, h.ra⟩
theorem Sc.below (h : Sc w w0 base ga ca gb cb n m p A Z q kk dd bA cA bZ cZ) (hs : base ≤ w.heap.size) (hb : Below w.heap.size w w1) : Sc w1 w0 base ga ca gb cb n m p A Z q kk dd bA cA bZ cZ :=
 ⟨h.st.below hb, below_then h.bl hs hb, h.col.below hb, zD_ hb h.ra, zD_ hb h.rz⟩
theorem Sc.rw_ (h : Sc w w0 base ga ca gb cb n m p A Z q kk dd bA cA bZ cZ) (hd : dd < n) : Rw w base bA cA (ofL (row A dd)) := by
 obtain ⟨b, c, h1, _, h2⟩ := h.st.read dd hd
 rw [h.ra] at h1
 have := Option.some.inj h1
 injection this with t1 t2 t3
 injection t1 with t1
 injection t1 with t1
 subst t1 t3
 exact h2
theorem Sc.size (h : Sc w w0 base ga ca gb cb n m p A Z q kk dd bA cA bZ cZ) : base ≤ w.heap.size := by
 obtain ⟨_, _, h1, _, h2, _⟩ := h.st.reg
 omega
theorem Sc.put (h : Sc w w0 base ga ca gb cb n m p A Z q kk dd bA cA bZ cZ) (hd : dd < n) (j : Nat) (x : B) :
 Sc (w.setCell ⟨bA, j, none⟩ (.int .u8 (ofB x))) w0 base ga ca gb cb n m p (A.set dd ((row A dd).set j x)) Z q kk dd bA cA bZ cZ := by
 obtain ⟨h1, h2, h3, h4, h5⟩ := h.st.putA hd h.ra j x
 obtain ⟨cs, hc⟩ := (h.rw_ hd).typed
 exact ⟨h1, h.bl.setCell h2 _, h.col.far hc (by decide) _, cell_far h.ra (Ne.symm h3) _, cell_far h.rz (Ne.symm h4) _⟩
/-- The short list of the two rows. -/
def Pr (w : World) (g : Nat) (v : Nat → Value) : Prop := (∃ cs, w.heap[g]? = some (.cells cs 22 (0, 0))) ∧ ∀ i, i < 2 → w.cell? ⟨g, i, none⟩ = some (v i)
theorem Pr.below {g : Nat} {v : Nat → Value} (h : Pr w g v) (hb : Below w.heap.size w w1) : Pr w1 g v := by
 obtain ⟨⟨cs, hc⟩, h2⟩ := h
 exact ⟨⟨cs, (hb.block g (blk_lt hc)).trans hc⟩, fun i hi => zD_ hb (h2 i hi)⟩
theorem Pr.put {g b t j : Nat} {v : Nat → Value} {cells : Array Value} (h : Pr w g v) (hb : w.heap[b]? = some (.cells cells t (0, 0))) (ht : t ≠ 22) (u : Value) : Pr (w.setCell ⟨b, j, none⟩ u) g v := by
 obtain ⟨⟨cs, hc⟩, h2⟩ := h
 have hne : g ≠ b := by
  rintro rfl
  rw [hc] at hb
  simp at hb
  exact ht hb.2.symm
 exact ⟨typed_set ⟨cs, hc⟩ _ _, fun i hi => cell_far (h2 i hi) hne _⟩
/-- Rows exchanged for new ones: the elimination's store. -/
theorem St.sum (h : St w base ga ca gb cb n m p A Z) (hB : Below base w0 w) (hC : Col w q kk) (hs : base ≤ w.heap.size) (hbl : Below w.heap.size w w1) {i : Nat} (hi : i < n) {v : Value} {r : List B} (hr : Kd.R (Kd.int .u8) 5 w1 w.heap.size (fun _ => True) v (ofL r)) (hl : r.length = m) (hm : 0 < m) :
 ∃ b c, v = .slice (some ⟨b, 0, none⟩) m c ∧ St (w1.setCell ⟨ga, i, none⟩ (.slice (some ⟨b, 0, none⟩) m c)) base ga ca gb cb n m p (A.set i r) Z ∧ Below base w0 (w1.setCell ⟨ga, i, none⟩ (.slice (some ⟨b, 0, none⟩) m c)) ∧ Col (w1.setCell ⟨ga, i, none⟩ (.slice (some ⟨b, 0, none⟩) m c)) q kk ∧
  w1.frozen? ⟨ga, i, none⟩ = false ∧ ∃ u, w1.cell? ⟨ga, i, none⟩ = some u := by
 obtain ⟨b, c, e, hR⟩ := Rw.of_R hr (by rw [zG_, hl]; exact hm)
 rw [zG_, hl] at e
 have hS1 := h.below hbl
 obtain ⟨_, _, hg, _⟩ := hS1.reg
 obtain ⟨cs, hc⟩ := hS1.types.1
 obtain ⟨b', c', h1, h2, _⟩ := hS1.read i hi
 have hR' : Rw w1 base b c (ofL r) := own_weaken hR hs
 exact ⟨b, c, e, h.rowA hi hbl hR' hR.base_ hl, (below_then hB hs hbl).setCell hg _, (hC.below hbl).far hc (by decide) _, h2, _, h1⟩
end
theorem set_self (A : Mat) (i : Nat) (hi : i < A.length) : A.set i (row A i) = A := by
 unfold row
 rw [List.getD_eq_getElem?_getD, List.getElem?_eq_getElem hi]
 simp
theorem set_set' (A : Mat) (i : Nat) (r s : List B) : (A.set i r).set i s = A.set i s := by rw [List.set_set]
theorem row_set_self (A : Mat) (i : Nat) (r : List B) (hi : i < A.length) : row (A.set i r) i = r := by rw [row_set _ _ _ _ hi, if_pos rfl]
def vv (u v : Value) (i : Nat) : Value := if i = 0 then u else v
theorem Sc.start {w0 w : World} {base ga ca gb cb n m p q kk dd bA cA bZ cZ : Nat} {A Z : Mat} (h : Sc w w0 base ga ca gb cb n m p A Z q kk dd bA cA bZ cZ) :
 Aside0 (Sc (w.alloc (.cells #[.slice (some ⟨bA, 0, none⟩) m cA, .slice (some ⟨bZ, 0, none⟩) p cZ] 22 (0, 0))).drew w0 base ga ca gb cb n m p A Z q kk dd bA cA bZ cZ) ∧ Aside0 (Pr (w.alloc (.cells #[.slice (some ⟨bA, 0, none⟩) m cA, .slice (some ⟨bZ, 0, none⟩) p cZ] 22 (0, 0))).drew w.heap.size (vv (.slice (some ⟨bA, 0, none⟩) m cA) (.slice (some ⟨bZ, 0, none⟩) p cZ))) := by
 refine ⟨⟨h.below h.size (below_drew ((Below.refl _ _).alloc (Nat.le_refl _) _))⟩, ⟨⟨_, heap_alloc_last w _⟩, fun i hi => ?_⟩⟩
 show (w.alloc _).cell? _ = _
 rw [cell_of_row _ _ i _ 22 (0, 0) (heap_alloc_new w _)]
 rcases (by omega : i = 0 ∨ i = 1) with rfl | rfl <;> rfl
/-- One of the two rows, whichever. -/
theorem Sc.pick {w0 w : World} {base ga ca gb cb n m p q kk dd bA cA bZ cZ : Nat} {A Z A2 Z2 : Mat} {iv : B} (hd : dd < n) (hm : 0 < m) (hp : 0 < p) (hA2 : A2 = A.set dd (scale iv (row A dd))) (hZ2 : Z2 = Z.set dd (scale iv (row Z dd))) (i : Nat) (hi : i < 2)
 (h : Sc w w0 base ga ca gb cb n m p (if 1 ≤ i then A2 else A) (if 2 ≤ i then Z2 else Z) q kk dd bA cA bZ cZ) :
 ∃ gX cX gY cY mX mY X Y bX kX bY kY, vv (.slice (some ⟨bA, 0, none⟩) m cA) (.slice (some ⟨bZ, 0, none⟩) p cZ) i = .slice (some ⟨bX, 0, none⟩) mX kX ∧ 0 < mX ∧ Aside0 (Sc w w0 base gX cX gY cY n mX mY X Y q kk dd bX kX bY kY) ∧
  Aside0 (∀ W, Sc W w0 base gX cX gY cY n mX mY (X.set dd (scale iv (row X dd))) Y q kk dd bX kX bY kY → Sc W w0 base ga ca gb cb n m p (if 1 ≤ i + 1 then A2 else A) (if 2 ≤ i + 1 then Z2 else Z) q kk dd bA cA bZ cZ) := by
 rcases (by omega : i = 0 ∨ i = 1) with rfl | rfl
 ·refine ⟨ga, ca, gb, cb, m, p, A, Z, bA, cA, bZ, cZ, rfl, hm, ⟨by simpa using h⟩, ⟨fun W hW => ?_⟩⟩
  rw [← hA2] at hW
  simpa using hW
 ·refine ⟨gb, cb, ga, ca, p, m, Z, A2, bZ, cZ, bA, cA, rfl, hp, ⟨by simpa using h.symm⟩, ⟨fun W hW => ?_⟩⟩
  rw [← hZ2] at hW
  simpa using hW.symm
theorem St.addm {w0 W : World} {base ga ca gb cb n m p q kk : Nat} {A Z : Mat} (h : St W base ga ca gb cb n m p A Z) (hB : Below base w0 W) (hC : Col W q kk) {i d : Nat} (hi : i < n) (hd : d < n) {bi ci bd cd : Nat} (hci : W.cell? ⟨ga, i, none⟩ = some (.slice (some ⟨bi, 0, none⟩) m ci)) (hcd : W.cell? ⟨ga, d, none⟩ = some (.slice (some ⟨bd, 0, none⟩) m cd)) (hm : 0 < m) (hm2 : m ≤ 255) (x : B) :
 Calls Tryd.prog 71 #[.slice (some ⟨bi, 0, none⟩) m ci, .slice (some ⟨bd, 0, none⟩) m cd, .int .u8 (ofB x)] W fun e w' => ∃ b c, e = .returned (.tuple #[.slice (some ⟨b, 0, none⟩) m c, .bool true]) ∧ w'.frozen? ⟨ga, i, none⟩ = false ∧ (∃ u, w'.cell? ⟨ga, i, none⟩ = some u) ∧
  Aside0 (St (w'.setCell ⟨ga, i, none⟩ (.slice (some ⟨b, 0, none⟩) m c)) base ga ca gb cb n m p (A.set i (am (row A i) (row A d) x (row A i).length)) Z) ∧ Aside0 (Below base w0 (w'.setCell ⟨ga, i, none⟩ (.slice (some ⟨b, 0, none⟩) m c))) ∧ Aside0 (Col (w'.setCell ⟨ga, i, none⟩ (.slice (some ⟨b, 0, none⟩) m c)) q kk) ∧ Below W.heap.size W w' := by
 obtain ⟨hA, _, hg, _, hg2, _⟩ := h.reg
 have hs : base ≤ W.heap.size := by omega
 have look : ∀ (k b c : Nat), k < n → W.cell? ⟨ga, k, none⟩ = some (.slice (some ⟨b, 0, none⟩) m c) → Rw W base b c (ofL (row A k)) := by
  intro k b c hk hc
  obtain ⟨b', c', h1, _, h2⟩ := h.read k hk
  rw [hc] at h1
  have := Option.some.inj h1
  injection this with t1 t2 t3
  injection t1 with t1
  injection t1 with t1
  subst t1 t3
  exact h2
 obtain ⟨r1, r1'⟩ := (look i bi ci hi hci).reads
 obtain ⟨r2, r2'⟩ := (look d bd cd hd hcd).reads
 have l1 : (row A i).length = m := hA.2 i hi
 have l2 : (row A d).length = m := hA.2 d hd
 obtain ⟨k0, hk0⟩ := gfAddMul (row A i) (row A d) x (by omega)
 have hf := hk0 k0 (Nat.le_refl _)
 unfold addMulB at hf
 rw [if_pos (by omega)] at hf
 have hcall := P.gf_AddMul.calls k0 _ ci (ofL (row A i)) _ cd (ofL (row A d)) (ofB x) _ _ W r1 r1' r2 r2' hf
 rw [zG_, zG_, l1, l2] at hcall
 rw [l1]
 refine hcall.mono ?_
 rintro e w' ⟨v, rfl, hR, hb⟩
 obtain ⟨b, c, rfl, s1, s2, s3, s4, s5⟩ := h.sum hB hC hs hb hi hR (by rw [am_length]; exact l1) hm
 exact ⟨b, c, rfl, s4, s5, ⟨s1⟩, ⟨s2⟩, ⟨s3⟩, hb⟩
end Go.Proofs.YtnfgiamdmfkcjaaDoor.H
