/- Words and walks that the claim RebuildChunks leans on (what it does not use is left out). -/
import Derived.Test.YtnfgiamdmfkcjaaDoorMRebuildChunks1
import Derived.Test.YtnfgiamdmfkcjaaDoorMRebuildChunks4
set_option linter.unusedSimpArgs false
set_option linter.unusedVariables false
namespace Go.Proofs.YtnfgiamdmfkcjaaDoor.P
open Go.Proofs.YtnfgiamdmfkcjaaDoor.Leaf
open Go.RowKit Go.Proofs.YtnfgiamdmfkcjaaDoorW.PrintWords Go.Proofs.YtnfgiamdmfkcjaaDoorW.PrintLast Go.Proofs.YtnfgiamdmfkcjaaDoorW.PrintMore
attribute [local go_sem] max2_int min2_int max_two min_two max_three min_three max_four min_four
mutual
def wCa_.j0 : Nat → Int → Int → Bool → Option ((List (List Int)) × Int)
 | 0, _, _, _ => none
 | k + 1, x0, x1, x27 => if x27 = true then (some (([] : List (List Int)), 1)) else ((wId_.f k x0).bind fun t101 => (wCa_.l0 k x0 x1 t101 0))
def wCa_.l0 : Nat → Int → Int → List (List Int) → Int → Option ((List (List Int)) × Int)
 | 0, _, _, _, _ => none
 | k + 1, x0, x1, x6, x7 => if x7 < x1 then (wCa_.l1 k x0 x1 x6 x7 (([] : List Int)) 0) else (some (x6, 0))
def wCa_.l1 : Nat → Int → Int → List (List Int) → Int → List Int → Int → Option ((List (List Int)) × Int)
 | 0, _, _, _, _, _, _ => none
 | k + 1, x0, x1, x6, x7, x8, x9 => if x9 < x0 then ((mooringref01_Inv.f k ((Go.bits .xor .i64 x7 (wrap64 (x1 + x9))) % 256)).bind fun bt107 => (if x8.length < 140737488355328 then (wCa_.l1 k x0 x1 x6 x7 (x8 ++ [bt107.1]) (wrap64 (x9 + 1))) else (none))) else (if x6.length < 5864062014805 then (wCa_.l0 k x0 x1 (x6 ++ [x8]) (wrap64 (x7 + 1))) else (none))
end
def wCa_.f (k : Nat) (a0 : Int) (a1 : Int) : Option ((List (List Int)) × Int) := if a0 < 1 then (wCa_.j0 k a0 a1 true) else (if a1 < 1 then (wCa_.j0 k a0 a1 true) else (if a0 > 254 then (wCa_.j0 k a0 a1 true) else (wCa_.j0 k a0 a1 (decide (a1 > (wrap64 (255 - a0)))))))
theorem wCa_.mono_l : ∀ k, (∀ y0 y1 y2, LeO (wCa_.j0 k y0 y1 y2) (wCa_.j0 (k + 1) y0 y1 y2)) ∧ (∀ y0 y1 y2 y3, LeO (wCa_.l0 k y0 y1 y2 y3) (wCa_.l0 (k + 1) y0 y1 y2 y3)) ∧ (∀ y0 y1 y2 y3 y4 y5, LeO (wCa_.l1 k y0 y1 y2 y3 y4 y5) (wCa_.l1 (k + 1) y0 y1 y2 y3 y4 y5))
 | 0 => ⟨fun _ _ _ r h => by simp [wCa_.j0] at h, fun _ _ _ _ r h => by simp [wCa_.l0] at h, fun _ _ _ _ _ _ r h => by simp [wCa_.l1] at h⟩
 | k + 1 => by
  obtain ⟨ih0, ih1, ih2⟩ := wCa_.mono_l k
  refine ⟨?_, ?_, ?_⟩
  ·intro y0 y1 y2
   unfold wCa_.j0
   repeat' first
   | (with_reducible exact ih0 _ _ _)
   | (with_reducible exact ih1 _ _ _ _)
   | (with_reducible exact ih2 _ _ _ _ _ _)
   | (with_reducible exact mooringref01_Inv.mono _ _)
   | (with_reducible exact wId_.mono _ _)
   | (with_reducible exact LeO.refl _)
   | (with_reducible exact LeO.none _)
   | (with_reducible refine LeO.ite ?_ ?_)
   | (with_reducible refine LeO.bind ?_ (fun _ => ?_))
   | exact ih0 _ _ _
   | exact ih1 _ _ _ _
   | exact ih2 _ _ _ _ _ _
   | exact mooringref01_Inv.mono _ _
   | exact wId_.mono _ _
   | exact LeO.none _
   | refine LeO.ite ?_ ?_
   | refine LeO.bind ?_ (fun _ => ?_)
  ·intro y0 y1 y2 y3
   unfold wCa_.l0
   repeat' first
   | (with_reducible exact ih0 _ _ _)
   | (with_reducible exact ih1 _ _ _ _)
   | (with_reducible exact ih2 _ _ _ _ _ _)
   | (with_reducible exact mooringref01_Inv.mono _ _)
   | (with_reducible exact wId_.mono _ _)
   | (with_reducible exact LeO.refl _)
   | (with_reducible exact LeO.none _)
   | (with_reducible refine LeO.ite ?_ ?_)
   | (with_reducible refine LeO.bind ?_ (fun _ => ?_))
   | exact ih0 _ _ _
   | exact ih1 _ _ _ _
   | exact ih2 _ _ _ _ _ _
   | exact mooringref01_Inv.mono _ _
   | exact wId_.mono _ _
   | exact LeO.none _
   | refine LeO.ite ?_ ?_
   | refine LeO.bind ?_ (fun _ => ?_)
  ·intro y0 y1 y2 y3 y4 y5
   unfold wCa_.l1
   repeat' first
   | (with_reducible exact ih0 _ _ _)
   | (with_reducible exact ih1 _ _ _ _)
   | (with_reducible exact ih2 _ _ _ _ _ _)
   | (with_reducible exact mooringref01_Inv.mono _ _)
   | (with_reducible exact wId_.mono _ _)
   | (with_reducible exact LeO.refl _)
   | (with_reducible exact LeO.none _)
   | (with_reducible refine LeO.ite ?_ ?_)
   | (with_reducible refine LeO.bind ?_ (fun _ => ?_))
   | exact ih0 _ _ _
   | exact ih1 _ _ _ _
   | exact ih2 _ _ _ _ _ _
   | exact mooringref01_Inv.mono _ _
   | exact wId_.mono _ _
   | exact LeO.none _
   | refine LeO.ite ?_ ?_
   | refine LeO.bind ?_ (fun _ => ?_)
theorem wCa_.mono : ∀ a0 a1 k, LeO (wCa_.f k a0 a1) (wCa_.f (k + 1) a0 a1) := by
 intro a0 a1 k
 obtain ⟨ih0, ih1, ih2⟩ := wCa_.mono_l k
 unfold wCa_.f
 repeat' first
  | (with_reducible exact ih0 _ _ _)
  | (with_reducible exact ih1 _ _ _ _)
  | (with_reducible exact ih2 _ _ _ _ _ _)
  | (with_reducible exact mooringref01_Inv.mono _ _)
  | (with_reducible exact wId_.mono _ _)
  | (with_reducible exact LeO.refl _)
  | (with_reducible exact LeO.none _)
  | (with_reducible refine LeO.ite ?_ ?_)
  | (with_reducible refine LeO.bind ?_ (fun _ => ?_))
  | exact ih0 _ _ _
  | exact ih1 _ _ _ _
  | exact ih2 _ _ _ _ _ _
  | exact mooringref01_Inv.mono _ _
  | exact wId_.mono _ _
  | exact LeO.none _
  | refine LeO.ite ?_ ?_
  | refine LeO.bind ?_ (fun _ => ?_)
set_option maxHeartbeats 8000000 in
set_option maxRecDepth 100000 in
theorem wCa_.calls (k : Nat) (a0 : Int) (a1 : Int) (r1 : List (List Int)) (r2 : Int) (w : World) (h : wCa_.f k a0 a1 = some (r1, r2)) :
 Calls Tryd.prog 52 #[.int .i64 a0, .int .i64 a1] w fun e w' => ∃ v0_ : Value, e = .returned (.tuple #[v0_, .int .i64 r2]) ∧ Kd.S (Kd.slice 5 (Kd.int .u8)) 22 w' w.heap.size (fun _ => True) v0_ r1 ∧ Below w.heap.size w w' := by
 have HB := Aside0.mk (Below.refl w.heap.size w)
 have H : (if a0 < 1 then (wCa_.j0 k a0 a1 true) else (if a1 < 1 then (wCa_.j0 k a0 a1 true) else (if a0 > 254 then (wCa_.j0 k a0 a1 true) else (wCa_.j0 k a0 a1 (decide (a1 > (wrap64 (255 - a0)))))))) = some (r1, r2) := h
 clear h
 have HC3 := Aside0.mk H
 clear H
 go_enter Tryd.func52, Tryd.ntmps52
 go_upto_region 1 with (fail)
 go_cut [27] (fun v27 wc => ∃ (kq : Nat) (x27_2 : Bool), v27 = .bool x27_2 ∧ Aside0 (wCa_.j0 kq a0 a1 x27_2 = some (r1, r2)) ∧ Aside0 (kq ≤ k) ∧ Aside0 (Below w.heap.size w wc))
 case first =>
  have H := HC3.out
  clear HC3
  by_cases c4 : a0 < 1
  ·rw [if_pos c4] at H
   have c4b0 : decide (a0 < 1) = true := decide_eq_true c4
   clear c4
   (first | rw [c4b0] | (simp only [i64_w, i32_w]; rw [c4b0]) | skip)
   have H' := Aside0.mk H
   clear H
   go_wp2
   go_meet
   case rel => exact ⟨_, (true), (by first | rfl | (simp; done) | (simp [*]; done)), H', ⟨by first | omega | exact Nat.le_refl _⟩, ⟨by repeat (first | (with_reducible first | exact HB.out | apply zC_ | apply zA_ | apply zB_) | exact HB.out)⟩⟩
  ·rw [if_neg c4] at H
   have c4b0 : decide (a0 < 1) = false := decide_eq_false c4
   clear c4
   (first | rw [c4b0] | (simp only [i64_w, i32_w]; rw [c4b0]) | skip)
   by_cases c5 : a1 < 1
   ·rw [if_pos c5] at H
    have c5b0 : decide (a1 < 1) = true := decide_eq_true c5
    clear c5
    have H' := Aside0.mk H
    clear H
    go_wp2
    go_meet
    case rel => exact ⟨_, (true), (by first | rfl | (simp; done) | (simp [*]; done)), H', ⟨by first | omega | exact Nat.le_refl _⟩, ⟨by repeat (first | (with_reducible first | exact HB.out | apply zC_ | apply zA_ | apply zB_) | exact HB.out)⟩⟩
   ·rw [if_neg c5] at H
    have c5b0 : decide (a1 < 1) = false := decide_eq_false c5
    clear c5
    by_cases c6 : a0 > 254
    ·rw [if_pos c6] at H
     have c6b0 : decide (254 < a0) = true := decide_eq_true c6
     clear c6
     have H' := Aside0.mk H
     clear H
     go_wp2
     go_meet
     case rel => exact ⟨_, (true), (by first | rfl | (simp; done) | (simp [*]; done)), H', ⟨by first | omega | exact Nat.le_refl _⟩, ⟨by repeat (first | (with_reducible first | exact HB.out | apply zC_ | apply zA_ | apply zB_) | exact HB.out)⟩⟩
    ·rw [if_neg c6] at H
     have c6b0 : decide (254 < a0) = false := decide_eq_false c6
     clear c6
     have H' := Aside0.mk H
     clear H
     go_wp2
     go_meet
     case rel => exact ⟨_, (decide (a1 > (wrap64 (255 - a0)))), (by first | rfl | (simp; done) | (simp [*]; done)), H', ⟨by first | omega | exact Nat.le_refl _⟩, ⟨by repeat (first | (with_reducible first | exact HB.out | apply zC_ | apply zA_ | apply zB_) | exact HB.out)⟩⟩
 case rest =>
  clear HC3
  try clear p2
  try clear c4
  try clear c4b0
  try clear c5
  try clear c5b0
  try clear c6
  try clear c6b0
  try clear p6
  obtain ⟨kq, x27_2, rfl, HA, HJ2, HB⟩ := hcut
  cases kq with
  | zero => exact absurd HA.out (by simp [wCa_.j0])
  | succ kj2 =>
   have H := HA.out
   clear HA
   simp only [wCa_.j0] at H
   by_cases c7 : x27_2 = true
   ·subst c7
    have H1 : (some (([] : List (List Int)), 1)) = some (r1, r2) := by rw [if_pos rfl] at H; exact H
    clear H
    have H := H1
    clear H1
    simp only [Option.some.injEq, Prod.mk.injEq] at H
    obtain ⟨rfl, rfl⟩ := H
    go_wp2
    go_ret2
    exact ⟨_, by first | rfl | (simp [errW_none, errW_some] <;> rfl) | (simp [*, errW_none, errW_some] <;> rfl), by first | exact Kd.S_nil _ _ _ _ _ | exact Kd.N_nil _ _ _ _ _ | exact Kd.V_nil _ _ _ _ _ | exact Kd.Q_nil _ _ _ _ _ | exact Kd.R_nil _ _ _ _ _, by repeat (first | (with_reducible first | exact HB.out | apply zC_ | apply zA_ | apply zB_) | exact HB.out)⟩
   ·replace c7 := Bool.eq_false_iff.mpr c7
    subst c7
    have H1 : ((wId_.f kj2 a0).bind fun t101 => (wCa_.l0 kj2 a0 a1 t101 0)) = some (r1, r2) := by rw [if_neg (show ¬ (false = true) by decide)] at H; exact H
    clear H
    have H := H1
    clear H1
    replace H := Option.bind_eq_some_iff.mp H
    obtain ⟨t101, A80, H⟩ := H
    replace H : (wCa_.l0 kj2 a0 a1 t101 0) = some (r1, r2) := H
    have A8 := Aside0.mk A80
    clear A80
    have H' := Aside0.mk H
    clear H
    go_wp2_with (first | ((with_reducible refine gate_callee (f := 82) rfl ?_); refine goesL_ (some 29) rfl rfl Tryd.func82 (by kernel_rfl) rfl #[.int .i64 a0] rfl (by (try simp only [List.map_toArray, List.map_cons, List.map_nil]); first | done | rfl | (simp only [List.length_drop, List.length_take]; rfl)) ?_; (with_reducible refine (wId_.calls kj2 a0 t101 _ A8.out).mono ?_); rintro e w9 ⟨v102, rfl, ho0, hb⟩; refine ⟨_, rfl, ?_⟩; have n0_ := Aside0.mk (Kd.S_lower ho0 (zF_ (by repeat (first | (with_reducible first | exact HB.out | apply zC_ | apply zA_ | apply zB_) | exact HB.out)))); have n1_ := Aside0.mk (zE_ (by repeat (first | (with_reducible first | exact HB.out | apply zC_ | apply zA_ | apply zB_) | exact HB.out)) hb); clear HB; have HO103 := n0_; have HB := n1_; clear n0_ n1_; (try clear hb); (try clear hb2); (try clear hk); (try clear hi); (try clear ho0)))
    go_loopg [6, 7] kj2 (fun kq v6 v7 w' => ∃ (x6_2 : List (List Int)) (x7_2 : Int), v7 = .int .i64 x7_2 ∧ Aside0 (wCa_.l0 kq a0 a1 x6_2 x7_2 = some (r1, r2)) ∧ Aside0 (kq ≤ kj2) ∧ Aside0 (Kd.S (Kd.slice 5 (Kd.int .u8)) 22 w' w.heap.size (fun _ => True) v6 x6_2) ∧ Aside0 (Below w.heap.size w w'))
    case atStart => exact ⟨(t101), (0), (by first | rfl | (simp; done) | (simp [*]; done)), H', ⟨Nat.le_refl _⟩, ⟨by (with_reducible repeat (first | apply Kd.S_alloc | apply Kd.S_drewN | apply Kd.S_drew)); exact HO103.out⟩, ⟨by repeat (first | (with_reducible first | exact HB.out | apply zC_ | apply zA_ | apply zB_) | exact HB.out)⟩⟩
    case round =>
     clear H'
     try clear p2
     try clear c4
     try clear c4b0
     try clear c5
     try clear c5b0
     try clear c6
     try clear c6b0
     try clear p6
     try clear c7
     try clear c8
     try clear p2
     try clear p6
     obtain ⟨x6_2, x7_2, rfl, HA, HK2, HO_6, HB⟩ := hrel
     cases gk with
     | zero => exact absurd HA.out (by simp [wCa_.l0])
     | succ k2 =>
      have H := HA.out
      clear HA
      simp only [wCa_.l0] at H
      by_cases c10 : x7_2 < a1
      ·rw [if_pos c10] at H
       have c10b0 : decide (x7_2 < a1) = true := decide_eq_true c10
       clear c10
       obtain ⟨y104, hy104⟩ : ∃ y_ : List Int, y_ = (([] : List Int)) := ⟨_, rfl⟩
       replace H : (wCa_.l1 k2 a0 a1 x6_2 x7_2 y104 0) = some (r1, r2) := by first | (rw [hy104]; with_reducible exact H) | (have H2_ := (Option.bind_some _ _).symm.trans H; rw [hy104]; with_reducible exact H2_) | (have H2_ := (Option.bind_some _ _).symm.trans H; with_reducible exact H2_) | with_reducible exact H | (rw [hy104]; exact H) | exact H
       have Ny104 := Aside0.mk hy104
       clear hy104
       have H' := Aside0.mk H
       clear H
       go_wp2_with (first | ((with_reducible refine gate_dst (N := 35) rfl ?_); refine Kd.R_lit (Kd.int .u8) _ 5 ?hg (N := 35) ?hd (xs := ([] : List Int)) (inner := []) (ok := fun _ => True) (okp := fun _ => True) ?hr ?hp (fun _ hk => hk) trivial (Below.refl _ _) (Nat.le_refl _) (by simp) ?_; (case hd => rfl); (case hg => rfl); (case hr => first | (go_simp; done) | (go_simp; rfl)); (case hp => exact (Reps.none _ _)); intro v105 w11 ho12 hb hg_ hnew_; clear hg_ hnew_; (first | rw [← Ny104.out] at ho12 | (simp only [Int.reduceToNat] at ho12; rw [← Ny104.out] at ho12)); have n0_ := Aside0.mk (Kd.S_elder' (by (with_reducible repeat (first | apply Kd.S_alloc | apply Kd.S_drewN | apply Kd.S_drew)); exact HO_6.out) (Kd.R_base ho12) hb); have n1_ := Aside0.mk (Kd.R_lower ho12 (zF_ (by repeat (first | (with_reducible first | exact HB.out | apply zC_ | apply zA_ | apply zB_) | exact HB.out)))); have n2_ := Aside0.mk (zE_ (by repeat (first | (with_reducible first | exact HB.out | apply zC_ | apply zA_ | apply zB_) | exact HB.out)) hb); clear HO_6; clear HB; have HO_6 := n0_; have HO106 := n1_; have HB := n2_; clear n0_ n1_ n2_; clear hb ho12))
       go_loopg [8, 9] k2 (fun kq v8 v9 w' => ∃ (x8_3 : List Int) (x9_3 : Int), v9 = .int .i64 x9_3 ∧ Aside0 (wCa_.l1 kq a0 a1 x6_2 x7_2 x8_3 x9_3 = some (r1, r2)) ∧ Aside0 (kq ≤ k2) ∧ Aside0 (Kd.S (Kd.slice 5 (Kd.int .u8)) 22 w' w.heap.size (fun k_ => some k_ ≠ (v8 : Value).ownBlock) u6 x6_2) ∧ Aside0 (Kd.R (Kd.int .u8) 5 w' w.heap.size (fun _ => True) v8 x8_3) ∧ Aside0 (Below w.heap.size w w'))
       case atStart => exact ⟨(y104), (0), (by first | rfl | (simp; done) | (simp [*]; done)), H', ⟨Nat.le_refl _⟩, ⟨by (with_reducible repeat (first | apply Kd.S_alloc | apply Kd.S_drewN | apply Kd.S_drew)); exact Kd.S_mono HO_6.out (fun _ hk => hk.2)⟩, ⟨by (with_reducible repeat (first | apply Kd.R_alloc | apply Kd.R_drewN | apply Kd.R_drew)); exact HO106.out⟩, ⟨by repeat (first | (with_reducible first | exact HB.out | apply zC_ | apply zA_ | apply zB_) | exact HB.out)⟩⟩
       case round =>
        clear H'
        try clear c1
        try clear p2
        try clear c4
        try clear c4b0
        try clear c5
        try clear c5b0
        try clear c6
        try clear c6b0
        try clear p6
        try clear c7
        try clear c8
        try clear c10
        try clear c10b0
        try clear p2
        try clear p6
        obtain ⟨x8_3, x9_3, rfl, HA, HK3, HO_6, HO_8, HB⟩ := hrel
        cases gk with
        | zero => exact absurd HA.out (by simp [wCa_.l1])
        | succ k3 =>
         have H := HA.out
         clear HA
         simp only [wCa_.l1] at H
         by_cases c13 : x9_3 < a0
         ·rw [if_pos c13] at H
          have c13b0 : decide (x9_3 < a0) = true := decide_eq_true c13
          clear c13
          replace H := Option.bind_eq_some_iff.mp H
          obtain ⟨⟨t107, t108⟩, A140, H⟩ := H
          replace H : (if x8_3.length < 140737488355328 then (wCa_.l1 k3 a0 a1 x6_2 x7_2 (x8_3 ++ [t107]) (wrap64 (x9_3 + 1))) else (none)) = some (r1, r2) := H
          have A14 := Aside0.mk A140
          clear A140
          by_cases c15 : x8_3.length < 140737488355328
          ·rw [if_pos c15] at H
           have LMc15 := Aside0.mk c15
           clear c15
           obtain ⟨y109, hy109⟩ : ∃ y_ : List Int, y_ = (x8_3 ++ [t107]) := ⟨_, rfl⟩
           replace H : (wCa_.l1 k3 a0 a1 x6_2 x7_2 y109 (wrap64 (x9_3 + 1))) = some (r1, r2) := by first | (rw [hy109]; with_reducible exact H) | (have H2_ := (Option.bind_some _ _).symm.trans H; rw [hy109]; with_reducible exact H2_) | (have H2_ := (Option.bind_some _ _).symm.trans H; with_reducible exact H2_) | with_reducible exact H | (rw [hy109]; exact H) | exact H
           have Ny109 := Aside0.mk hy109
           clear hy109
           have H' := Aside0.mk H
           clear H
           go_wp2_with (first | ((with_reducible refine gate_callee (f := 83) rfl ?_); refine goesL_ (some 48) rfl rfl Tryd.func83 (by kernel_rfl) rfl #[.int .u8 ((Go.bits .xor .i64 x7_2 (wrap64 (a1 + x9_3))) % 256)] rfl (by (try simp only [List.map_toArray, List.map_cons, List.map_nil]); first | done | rfl | (simp only [List.length_drop, List.length_take]; rfl)) ?_; (with_reducible refine (mooringref01_Inv.calls k3 ((Go.bits .xor .i64 x7_2 (wrap64 (a1 + x9_3))) % 256) t107 t108 _ A14.out).mono ?_); rintro e w' ⟨rfl, ⟨nd, rfl⟩⟩; refine ⟨_, rfl, ?_⟩) | ((with_reducible refine gate_builtin (b := .append) (xs := #[.tmp 51, .tmp 53]) rfl ?_); at_builtin; refine Kd.R_append (Kd.int .u8) (w0 := w) w.heap.size rfl (.tmp 51) (.tmp 53) 22 5 (.int .u8 0) 1 rfl Tryd.underlying22 info5 rfl (by decide) (by omega) u8 x8_3 t107 [.int .u8 t107] (fun _ => True) (fun _ => False) rfl rfl ?aP (fun _ hk => hk.elim) ?aF ?aO ?aB ?aS ?aL ?_; (case aP => exact rfl); (case aB => exact (by repeat (first | (with_reducible first | exact HB.out | apply zC_ | apply zA_ | apply zB_) | exact HB.out))); (case aF => exact (fun _ _ => trivial)); (case aO => exact (by (with_reducible repeat (first | apply Kd.R_alloc | apply Kd.R_drewN | apply Kd.R_drew)); exact HO_8.out)); (case aS => exact (zF_ (by repeat (first | (with_reducible first | exact HB.out | apply zC_ | apply zA_ | apply zB_) | exact HB.out)))); (case aL => have := LMc15.out; omega); intro v110 w16 ho hb hg hat; rw [← Ny109.out] at ho; have n0_ := Aside0.mk (Kd.S_after (ok := (fun _ => True)) (by (with_reducible repeat (first | apply Kd.S_alloc | apply Kd.S_drewN | apply Kd.S_drew)); exact Kd.S_mono HO_6.out (fun _ hk => ⟨trivial, hk⟩)) hg hat); have n1_ := Aside0.mk (hb); have n2_ := Aside0.mk (ho); clear HO_6; clear HB; clear HO_8; have HO_6 := n0_; have HB := n1_; have HO111 := n2_; clear n0_ n1_ n2_; clear ho hb hg hat))
           go_roundg k3
           case measure => have := HJ2.out; have := HK2.out; have := HK3.out; omega
           case rel => exact ⟨(y109), (wrap64 (x9_3 + 1)), (by first | rfl | (simp; done) | (simp [*]; done)), H', ⟨by have := HJ2.out; have := HK2.out; have := HK3.out; omega⟩, ⟨by (with_reducible repeat (first | apply Kd.S_alloc | apply Kd.S_drewN | apply Kd.S_drew)); exact Kd.S_mono HO_6.out (fun _ hk => hk.2)⟩, ⟨by (with_reducible repeat (first | apply Kd.R_alloc | apply Kd.R_drewN | apply Kd.R_drew)); exact HO111.out⟩, ⟨by repeat (first | (with_reducible first | exact HB.out | apply zC_ | apply zA_ | apply zB_) | exact HB.out)⟩⟩
          ·rw [if_neg c15] at H
           exact absurd H (by simp)
         ·rw [if_neg c13] at H
          have c13b0 : decide (x9_3 < a0) = false := decide_eq_false c13
          clear c13
          by_cases c17 : x6_2.length < 5864062014805
          ·rw [if_pos c17] at H
           have LMc17 := Aside0.mk c17
           clear c17
           obtain ⟨y112, hy112⟩ : ∃ y_ : List (List Int), y_ = (x6_2 ++ [x8_3]) := ⟨_, rfl⟩
           replace H : (wCa_.l0 k3 a0 a1 y112 (wrap64 (x7_2 + 1))) = some (r1, r2) := by first | (rw [hy112]; with_reducible exact H) | (have H2_ := (Option.bind_some _ _).symm.trans H; rw [hy112]; with_reducible exact H2_) | (have H2_ := (Option.bind_some _ _).symm.trans H; with_reducible exact H2_) | with_reducible exact H | (rw [hy112]; exact H) | exact H
           have Ny112 := Aside0.mk hy112
           clear hy112
           have H' := Aside0.mk H
           clear H
           obtain ⟨Ao19, co19, eo19⟩ := Kd.R_slice HO_8.out
           subst eo19
           go_wp2_with (first | ((with_reducible refine gate_builtin (b := .append) (xs := #[.tmp 55, .tmp 57]) rfl ?_); at_builtin; refine Kd.S_append (Kd.slice 5 (Kd.int .u8)) (w0 := w) w.heap.size rfl (.tmp 55) (.tmp 57) 26 22 (.slice none 0 0) 24 rfl Tryd.underlying26 info22 rfl (by decide) (by omega) u6 x6_2 x8_3 [.slice Ao19 x8_3.length co19] (fun _ => True) (fun k_ => some k_ = (.slice Ao19 x8_3.length co19 : Value).ownBlock) rfl rfl ?aP (fun k_ hk_ => ((Kd.R_mono (ok' := fun k_ => ((fun _ => True)) k_ ∧ some k_ ≠ (u6 : Value).ownBlock) (Kd.R_apart' (HO_8.out) (Kd.S_typed HO_6.out) (by decide)) (fun k_ hk => ⟨trivial, hk.2⟩))).1 k_ hk_.symm) ?aF ?aO ?aB ?aS ?aL ?_; (case aP => exact Kd.M_row (Kd.R_mono (Kd.R_tight rfl (Kd.R_mono (ok' := fun k_ => ((fun _ => True)) k_ ∧ some k_ ≠ (u6 : Value).ownBlock) (Kd.R_apart' (HO_8.out) (Kd.S_typed HO_6.out) (by decide)) (fun k_ hk => ⟨trivial, hk.2⟩))) (fun _ h_ => h_))); (case aB => exact (by repeat (first | (with_reducible first | exact HB.out | apply zC_ | apply zA_ | apply zB_) | exact HB.out))); (case aF => exact (fun _ _ => trivial)); (case aO => exact (by (with_reducible repeat (first | apply Kd.S_alloc | apply Kd.S_drewN | apply Kd.S_drew)); exact Kd.S_mono HO_6.out (fun k_ hk => ⟨trivial, fun e_ => hk e_⟩))); (case aS => exact (zF_ (by repeat (first | (with_reducible first | exact HB.out | apply zC_ | apply zA_ | apply zB_) | exact HB.out)))); (case aL => have := LMc17.out; omega); intro v113 w18 ho hb hg hat; rw [← Ny112.out] at ho; have n0_ := Aside0.mk (hb); have n1_ := Aside0.mk (ho); clear HB; clear HO_6; clear HO_8; have HB := n0_; have HO114 := n1_; clear n0_ n1_; clear ho hb hg hat))
           go_roundg k3
           case measure => have := HJ2.out; have := HK2.out; have := HK3.out; omega
           case rel => exact ⟨(y112), (wrap64 (x7_2 + 1)), (by first | rfl | (simp; done) | (simp [*]; done)), H', ⟨by have := HJ2.out; have := HK2.out; have := HK3.out; omega⟩, ⟨by (with_reducible repeat (first | apply Kd.S_alloc | apply Kd.S_drewN | apply Kd.S_drew)); exact HO114.out⟩, ⟨by repeat (first | (with_reducible first | exact HB.out | apply zC_ | apply zA_ | apply zB_) | exact HB.out)⟩⟩
          ·rw [if_neg c17] at H
           exact absurd H (by simp)
      ·rw [if_neg c10] at H
       have c10b0 : decide (x7_2 < a1) = false := decide_eq_false c10
       clear c10
       simp only [Option.some.injEq, Prod.mk.injEq] at H
       obtain ⟨rfl, rfl⟩ := H
       go_wp2
       go_ret2
       exact ⟨_, by first | rfl | (simp [errW_none, errW_some] <;> rfl) | (simp [*, errW_none, errW_some] <;> rfl), by (with_reducible repeat (first | apply Kd.S_alloc | apply Kd.S_drewN | apply Kd.S_drew)); exact HO_6.out, by repeat (first | (with_reducible first | exact HB.out | apply zC_ | apply zA_ | apply zB_) | exact HB.out)⟩
end Go.Proofs.YtnfgiamdmfkcjaaDoor.P
namespace Go.Proofs.YtnfgiamdmfkcjaaDoor.Red
open Go.RowKit Go.Proofs.YtnfgiamdmfkcjaaDoorW.PrintWords Go.Proofs.YtnfgiamdmfkcjaaDoor.Leaf Go.Proofs.YtnfgiamdmfkcjaaDoor.Gf Go.Proofs.YtnfgiamdmfkcjaaDoor.H Go.Proofs.YtnfgiamdmfkcjaaDoor.Mx Go.Proofs.YtnfgiamdmfkcjaaDoor.P
def cauM (k m : Nat) : Mat := matF (k + m) k (cau k m)
def cauR (a b : Int) : List (List Int) × Int := if 1 ≤ a ∧ 1 ≤ b ∧ b ≤ 255 - a then (oM (cauM a.toNat b.toNat), 0) else ([], 1)
theorem byte_nat (v : Nat) : ((v : Int) % 256) = ofB (BitVec.ofNat 8 v) := by
 unfold ofB
 rw [BitVec.toNat_ofNat]
 omega
/-- A row of the code's matrix on its way. -/
def caR (k m i j : Nat) : List B := (List.range k).map fun b => if b < j then cau k m (k + i) b else 0#8
theorem caR_set (k m i j : Nat) (hj : j < k) : (caR k m i j).set j (inv (BitVec.ofNat 8 i ^^^ BitVec.ofNat 8 (m + j))) = caR k m i (j + 1) := by
 refine ext0 (by simp [caR]) fun b hb => ?_
 rw [List.length_set] at hb
 have hb' : b < k := by simpa [caR] using hb
 have e : ∀ j', at0 (caR k m i j') b = if b < j' then cau k m (k + i) b else 0#8 := fun j' => at0_map _ _ _ hb'
 rw [at0_set _ _ _ _ (by simpa [caR] using hj), e, e]
 by_cases e1 : j = b
 ·subst e1
  rw [if_pos rfl, if_pos (by omega)]
  unfold cau
  rw [if_neg (by omega), show k + i - k = i by omega]
 ·rw [if_neg e1]
  by_cases e2 : b < j
  ·rw [if_pos e2, if_pos (by omega)]
  ·rw [if_neg e2, if_neg (by omega)]
theorem caR_all (k m i : Nat) : caR k m i k = (List.range k).map (cau k m (k + i)) := List.map_congr_left fun b hb => if_pos (List.mem_range.1 hb)
theorem cau_next (k m i : Nat) : matF (k + i) k (cau k m) ++ [(List.range k).map (cau k m (k + i))] = matF (k + (i + 1)) k (cau k m) := by
 unfold matF; rw [show k + (i + 1) = (k + i) + 1 by omega, List.range_succ, List.map_append]; rfl
theorem cauchy_l1 (k m : Nat) (hk : k + m ≤ 255) (r : List (List Int) × Int) (i : Nat) (hi : i < m) (hnext : Ev (fun f => wMc_.l0 f (k : Int) (m : Int) (oM (matF (k + (i + 1)) k (cau k m))) (m : Int) ((i + 1 : Nat) : Int)) r) (d : Nat) : ∀ j : Nat, j + d = k →
 Ev (fun f => wMc_.l1 f (k : Int) (m : Int) (oM (matF (k + i) k (cau k m))) (i : Int) (ofL (caR k m i j)) (m : Int) (i : Int) (k : Int) (j : Int)) r := by
 induction d with
 | zero =>
  intro j hj
  obtain rfl : j = k := by omega
  refine Ev.step (f := fun f => wMc_.l0 f (j : Int) (m : Int) (oM (matF (j + (i + 1)) j (cau j m))) (m : Int) ((i + 1 : Nat) : Int)) (fun f => ?_) hnext
  simp only [wMc_.l1, oM_length, (matF_reg (j + i) j (cau j m)).1]
  rw [if_neg (by omega), if_pos (by omega), oM_one, oM_append, caR_all, cau_next, w64 _ (by omega) (by omega)]
  rfl
 | succ d ih =>
  intro j hj
  refine Ev.step (f := fun f => wMc_.l1 f (k : Int) (m : Int) (oM (matF (k + i) k (cau k m))) (i : Int) (ofL (caR k m i (j + 1))) (m : Int) (i : Int) (k : Int) ((j + 1 : Nat) : Int)) (fun f => ?_) (ih (j + 1) (by omega))
  have hl : (caR k m i j).length = k := by simp [caR]
  simp only [wMc_.l1, zG_, hl, Int.toNat_natCast]
  rw [if_pos (by omega), w64 ((m : Int) + (j : Int)) (by omega) (by omega), show ((m : Int) + (j : Int)) = ((m + j : Nat) : Int) by omega, byte_nat, byte_nat, xor_ofB, gfInv_eq, Option.bind_some, if_pos (by omega), if_pos (by omega), w64 _ (by omega) (by omega)]
  simp only []
  rw [ofL_set, caR_set k m i j (by omega)]
  rfl
theorem cauchy_l0 (k m : Nat) (hk : k + m ≤ 255) (d : Nat) : ∀ i : Nat, i + d = m → Ev (fun f => wMc_.l0 f (k : Int) (m : Int) (oM (matF (k + i) k (cau k m))) (m : Int) (i : Int)) (oM (cauM k m), 0) := by
 induction d with
 | zero =>
  intro i hi
  obtain rfl : i = m := by omega
  refine Ev.step (f := fun _ => some (oM (cauM k i), 0)) (fun f => ?_) (Ev.now _)
  simp only [wMc_.l0]
  rw [if_neg (by omega)]
  rfl
 | succ d ih =>
  intro i hi
  refine Ev.step (f := fun f => wMc_.l1 f (k : Int) (m : Int) (oM (matF (k + i) k (cau k m))) (i : Int) (ofL (caR k m i 0)) (m : Int) (i : Int) (k : Int) ((0 : Nat) : Int)) (fun f => ?_) (cauchy_l1 k m hk _ i (by omega) (ih (i + 1) (by omega)) k 0 (by omega))
  simp only [wMc_.l0, Int.toNat_natCast]
  have e : List.replicate k (0 : Int) = ofL (caR k m i 0) := by
   rw [ofL_replicate]
   congr 1
   refine List.ext_getElem (by simp [caR]) fun b h1 h2 => ?_
   simp [caR]
  rw [if_pos (by omega), if_pos (by omega), if_pos (by omega), e]
  rfl
theorem cau_id (k m : Nat) : idM k = matF (k + 0) k (cau k m) := by
 rw [idM_eq]
 refine mat_ext (matF_reg k k I) (matF_reg k k _) fun i j hi hj => ?_
 rw [el_matF _ hi hj, show matF (k + 0) k (cau k m) = matF k k (cau k m) from rfl, el_matF (cau k m) hi hj]
 unfold cau
 rw [if_pos hi]
theorem evCauchy (a b : Int) (ha : -9223372036854775808 ≤ a) : Ev (fun f => wMc_.f f a b) (cauR a b) := by
 unfold wMc_.f cauR
 have j1 : Ev (fun f => wMc_.j0 f a b true) ([], 1) := Ev.step (f := fun _ => some ([], 1)) (fun f => by simp only [wMc_.j0, if_true]) (Ev.now _)
 by_cases h1 : a < 1
 ·simp only [show (a < 1) = True from eq_true h1, if_true]
  rw [if_neg (by omega)]
  exact j1
 simp only [show (a < 1) = False from eq_false h1, if_false]
 by_cases h2 : b < 1
 ·simp only [show (b < 1) = True from eq_true h2, if_true]
  rw [if_neg (by omega)]
  exact j1
 simp only [show (b < 1) = False from eq_false h2, if_false]
 by_cases h3 : a > 255
 ·simp only [show (a > 255) = True from eq_true h3, if_true]
  rw [if_neg (by omega)]
  exact j1
 simp only [show (a > 255) = False from eq_false h3, if_false]
 rw [w64 _ (by omega) (by omega)]
 by_cases h4 : b > 255 - a
 ·simp only [show decide (b > 255 - a) = true from decide_eq_true h4]
  rw [if_neg (by omega)]
  exact j1
 simp only [show decide (b > 255 - a) = false from decide_eq_false h4]
 rw [if_pos (by omega)]
 obtain ⟨k, rfl⟩ := Int.eq_ofNat_of_zero_le (show 0 ≤ a by omega)
 obtain ⟨m, rfl⟩ := Int.eq_ofNat_of_zero_le (show 0 ≤ b by omega)
 rw [Int.toNat_natCast, Int.toNat_natCast]
 refine Ev.step (f := fun f => (wMi_.f f (k : Int)).bind fun bt101 => wMc_.l0 f (k : Int) (m : Int) bt101.1 (m : Int) 0) (fun f => by simp only [wMc_.j0, Bool.false_eq_true, if_false]) ?_
 refine Ev.bind (evIdentity (k : Int)) ?_
 unfold idR
 rw [if_pos (by omega), Int.toNat_natCast]
 simp only []
 rw [cau_id k m]
 exact cauchy_l0 k m (by omega) m 0 (by omega)
theorem xor_byte (i n : Nat) : BitVec.ofNat 8 (i ^^^ n) = BitVec.ofNat 8 i ^^^ BitVec.ofNat 8 n := by
 apply BitVec.eq_of_toNat_eq
 rw [BitVec.toNat_xor, BitVec.toNat_ofNat, BitVec.toNat_ofNat, BitVec.toNat_ofNat]
 exact Nat.xor_mod_two_pow
theorem refCauchy_l1 (k m : Nat) (hk : k + m ≤ 255) (r : List (List Int) × Int) (i : Nat) (hi : i < m) (hnext : Ev (fun f => wCa_.l0 f (k : Int) (m : Int) (oM (matF (k + (i + 1)) k (cau k m))) ((i + 1 : Nat) : Int)) r) (d : Nat) : ∀ j : Nat, j + d = k →
 Ev (fun f => wCa_.l1 f (k : Int) (m : Int) (oM (matF (k + i) k (cau k m))) (i : Int) (ofL ((List.range j).map (cau k m (k + i)))) (j : Int)) r := by
 induction d with
 | zero =>
  intro j hj
  obtain rfl : j = k := by omega
  refine Ev.step (f := fun f => wCa_.l0 f (j : Int) (m : Int) (oM (matF (j + (i + 1)) j (cau j m))) ((i + 1 : Nat) : Int)) (fun f => ?_) hnext
  simp only [wCa_.l1, oM_length, (matF_reg (j + i) j (cau j m)).1]
  rw [if_neg (by omega), if_pos (by omega), oM_one, oM_append, cau_next, w64 _ (by omega) (by omega)]
  rfl
 | succ d ih =>
  intro j hj
  refine Ev.step (f := fun f => (mooringref01_Inv.f f (ofB (BitVec.ofNat 8 i ^^^ BitVec.ofNat 8 (m + j)))).bind fun bt107 => wCa_.l1 f (k : Int) (m : Int) (oM (matF (k + i) k (cau k m))) (i : Int) (ofL ((List.range j).map (cau k m (k + i))) ++ [bt107.1]) ((j + 1 : Nat) : Int)) (fun f => ?_) ?_
  ·have hl : ((List.range j).map (cau k m (k + i))).length = j := by simp
   simp only [wCa_.l1, zG_, hl]
   rw [if_pos (by omega), w64 ((m : Int) + (j : Int)) (by omega) (by omega), show ((m : Int) + (j : Int)) = ((m + j : Nat) : Int) by omega, xor_i64_nat _ _ (by omega) (by omega), byte_nat, xor_byte]
   simp only [show (j < 140737488355328) = True from eq_true (by omega), if_true, w64 ((j : Int) + 1) (by omega) (by omega)]
   rfl
  ·refine Ev.bind (refInv _) ?_
   have e : ofL ((List.range j).map (cau k m (k + i))) ++ [ofB (inv (BitVec.ofNat 8 i ^^^ BitVec.ofNat 8 (m + j)))] = ofL ((List.range (j + 1)).map (cau k m (k + i))) := by
    rw [List.range_succ, List.map_append]
    unfold ofL
    rw [List.map_append]
    simp only [List.map_cons, List.map_nil]
    unfold cau
    rw [if_neg (by omega), show k + i - k = i by omega]
   simp only []
   rw [e]
   exact ih (j + 1) (by omega)
theorem refCauchy_l0 (k m : Nat) (hk : k + m ≤ 255) (d : Nat) : ∀ i : Nat, i + d = m → Ev (fun f => wCa_.l0 f (k : Int) (m : Int) (oM (matF (k + i) k (cau k m))) (i : Int)) (oM (cauM k m), 0) := by
 induction d with
 | zero =>
  intro i hi
  obtain rfl : i = m := by omega
  refine Ev.step (f := fun _ => some (oM (cauM k i), 0)) (fun f => ?_) (Ev.now _)
  simp only [wCa_.l0]
  rw [if_neg (by omega)]
  rfl
 | succ d ih =>
  intro i hi
  refine Ev.step (f := fun f => wCa_.l1 f (k : Int) (m : Int) (oM (matF (k + i) k (cau k m))) (i : Int) (ofL ((List.range 0).map (cau k m (k + i)))) ((0 : Nat) : Int)) (fun f => ?_) (refCauchy_l1 k m hk _ i (by omega) (ih (i + 1) (by omega)) k 0 (by omega))
  simp only [wCa_.l0]
  rw [if_pos (by omega)]
  rfl
theorem evRefCauchy (a b : Int) (ha : -9223372036854775808 ≤ a) : Ev (fun f => wCa_.f f a b) (cauR a b) := by
 unfold wCa_.f cauR
 have j1 : Ev (fun f => wCa_.j0 f a b true) ([], 1) := Ev.step (f := fun _ => some ([], 1)) (fun f => by simp only [wCa_.j0, if_true]) (Ev.now _)
 by_cases h1 : a < 1
 ·simp only [show (a < 1) = True from eq_true h1, if_true]
  rw [if_neg (by omega)]
  exact j1
 simp only [show (a < 1) = False from eq_false h1, if_false]
 by_cases h2 : b < 1
 ·simp only [show (b < 1) = True from eq_true h2, if_true]
  rw [if_neg (by omega)]
  exact j1
 simp only [show (b < 1) = False from eq_false h2, if_false]
 by_cases h3 : a > 254
 ·simp only [show (a > 254) = True from eq_true h3, if_true]
  rw [if_neg (by omega)]
  exact j1
 simp only [show (a > 254) = False from eq_false h3, if_false]
 rw [w64 _ (by omega) (by omega)]
 by_cases h4 : b > 255 - a
 ·simp only [show decide (b > 255 - a) = true from decide_eq_true h4]
  rw [if_neg (by omega)]
  exact j1
 simp only [show decide (b > 255 - a) = false from decide_eq_false h4]
 rw [if_pos (by omega)]
 obtain ⟨k, rfl⟩ := Int.eq_ofNat_of_zero_le (show 0 ≤ a by omega)
 obtain ⟨m, rfl⟩ := Int.eq_ofNat_of_zero_le (show 0 ≤ b by omega)
 rw [Int.toNat_natCast, Int.toNat_natCast]
 refine Ev.step (f := fun f => (wId_.f f (k : Int)).bind fun t101 => wCa_.l0 f (k : Int) (m : Int) t101 0) (fun f => by simp only [wCa_.j0, Bool.false_eq_true, if_false]) ?_
 refine Ev.bind (evRefIdentity k (by omega)) ?_
 rw [cau_id k m]
 exact refCauchy_l0 k m (by omega) m 0 (by omega)
theorem cauM_reg (k m : Nat) : Reg (cauM k m) (k + m) k := matF_reg _ _ _
end Go.Proofs.YtnfgiamdmfkcjaaDoor.Red
