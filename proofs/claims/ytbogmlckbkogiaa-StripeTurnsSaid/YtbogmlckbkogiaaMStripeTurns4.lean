/- Words and walks that the claim StripeTurns leans on (what it does not use is left out). -/
import Derived.Test.YtbogmlckbkogiaaMStripeTurns1
import Derived.Test.YtbogmlckbkogiaaMStripeTurns3
import Derived.Test.YtbogmlckbkogiaaMStripeTurns2
import Derived.StillTailTactics
namespace Go.Proofs.Ytbogmlckbkogiaa.P
open Go.Proofs.Ytbogmlckbkogiaa.Leaf
open Go.RowKit Go.Proofs.YtbogmlckbkogiaaW.PrintWords Go.Proofs.YtbogmlckbkogiaaW.PrintLast Go.Proofs.YtbogmlckbkogiaaW.PrintMore
attribute [local go_sem] max2_int min2_int max_two min_two max_three min_three max_four min_four   -- for this text's walks alone
set_option linter.unusedVariables false
set_option linter.unusedSimpArgs false
mutual
def mooringref03_Encode.j0 : Nat → Int → Int → List (List Int) → Bool → Option ((List (List Int)) × Int)
  | 0, _, _, _, _ => none
  | k + 1, x0, x1, x2, x24 => if x24 = true then (some (([] : List (List Int)), 1)) else ((mooringref02_Cauchy.f k x0 x1).bind fun bt103 => (mooringref03_Encode.l0 k x0 x1 x2 bt103.1 (([] : List (List Int))) 0))
def mooringref03_Encode.l0 : Nat → Int → Int → List (List Int) → List (List Int) → List (List Int) → Int → Option ((List (List Int)) × Int)
  | 0, _, _, _, _, _, _ => none
  | k + 1, x0, x1, x2, x8, x10, x11 => if x11 < (wrap64 (x0 + x1)) then (if 0 < (x2.length : Int) then (if 0 ≤ ((rd_L1 x2 0).length : Int) then (if (((rd_L1 x2 0).length : Int) : Int).toNat ≤ 281474976710656 then (mooringref03_Encode.l1 k x0 x1 x2 x8 x10 x11 (List.replicate (((rd_L1 x2 0).length : Int) : Int).toNat 0) 0) else (none)) else (none)) else (none)) else (some (x10, 0))
def mooringref03_Encode.l1 : Nat → Int → Int → List (List Int) → List (List Int) → List (List Int) → Int → List Int → Int → Option ((List (List Int)) × Int)
  | 0, _, _, _, _, _, _, _, _ => none
  | k + 1, x0, x1, x2, x8, x10, x11, x12, x13 => if x13 < (x12.length : Int) then (mooringref03_Encode.l2 k x0 x1 x2 x8 x10 x11 x12 x13 0) else (if x10.length < 5864062014805 then (mooringref03_Encode.l0 k x0 x1 x2 x8 (x10 ++ [x12]) (wrap64 (x11 + 1))) else (none))
def mooringref03_Encode.l2 : Nat → Int → Int → List (List Int) → List (List Int) → List (List Int) → Int → List Int → Int → Int → Option ((List (List Int)) × Int)
  | 0, _, _, _, _, _, _, _, _, _ => none
  | k + 1, x0, x1, x2, x8, x10, x11, x12, x13, x14 => if x14 < x0 then (if 0 ≤ x13 then (if x13 < (x12.length : Int) then (if 0 ≤ x11 then (if x11 < (x8.length : Int) then (if 0 ≤ x14 then (if x14 < ((rd_L1 x8 x11).length : Int) then (if x14 < (x2.length : Int) then (if x13 < ((rd_L1 x2 x14).length : Int) then ((mooringref01_Mul.f k (rd (rd_L1 x8 x11) x14) (rd (rd_L1 x2 x14) x13)).bind fun t122 => (mooringref03_Encode.l2 k x0 x1 x2 x8 x10 x11 (x12.set (x13 : Int).toNat (Go.bits .xor .u8 (rd x12 x13) t122)) x13 (wrap64 (x14 + 1)))) else (none)) else (none)) else (none)) else (none)) else (none)) else (none)) else (none)) else (none)) else (mooringref03_Encode.l1 k x0 x1 x2 x8 x10 x11 x12 (wrap64 (x13 + 1)))
end
def mooringref03_Encode.f (k : Nat) (a0 : Int) (a1 : Int) (l2 : List (List Int)) : Option ((List (List Int)) × Int) := (mooringref03_Code.f a0 a1).bind fun t101 => (if t101 = true then ((mooringref03_even.f k l2 a0).bind fun t102 => (mooringref03_Encode.j0 k a0 a1 l2 (!t102))) else (mooringref03_Encode.j0 k a0 a1 l2 true))
theorem mooringref03_Encode.mono_l : ∀ k, (∀ y0 y1 y2 y3, LeO (mooringref03_Encode.j0 k y0 y1 y2 y3) (mooringref03_Encode.j0 (k + 1) y0 y1 y2 y3)) ∧ (∀ y0 y1 y2 y3 y4 y5, LeO (mooringref03_Encode.l0 k y0 y1 y2 y3 y4 y5) (mooringref03_Encode.l0 (k + 1) y0 y1 y2 y3 y4 y5)) ∧ (∀ y0 y1 y2 y3 y4 y5 y6 y7, LeO (mooringref03_Encode.l1 k y0 y1 y2 y3 y4 y5 y6 y7) (mooringref03_Encode.l1 (k + 1) y0 y1 y2 y3 y4 y5 y6 y7)) ∧ (∀ y0 y1 y2 y3 y4 y5 y6 y7 y8, LeO (mooringref03_Encode.l2 k y0 y1 y2 y3 y4 y5 y6 y7 y8) (mooringref03_Encode.l2 (k + 1) y0 y1 y2 y3 y4 y5 y6 y7 y8))
  | 0 => ⟨fun _ _ _ _ r h => by simp [mooringref03_Encode.j0] at h, fun _ _ _ _ _ _ r h => by simp [mooringref03_Encode.l0] at h, fun _ _ _ _ _ _ _ _ r h => by simp [mooringref03_Encode.l1] at h, fun _ _ _ _ _ _ _ _ _ r h => by simp [mooringref03_Encode.l2] at h⟩
  | k + 1 => by
    obtain ⟨ih0, ih1, ih2, ih3⟩ := mooringref03_Encode.mono_l k
    refine ⟨?_, ?_, ?_, ?_⟩
    · intro y0 y1 y2 y3
      unfold mooringref03_Encode.j0
      repeat' first
      | (with_reducible exact ih0 _ _ _ _)
      | (with_reducible exact ih1 _ _ _ _ _ _)
      | (with_reducible exact ih2 _ _ _ _ _ _ _ _)
      | (with_reducible exact ih3 _ _ _ _ _ _ _ _ _)
      | (with_reducible exact mooringref01_Mul.mono _ _ _)
      | (with_reducible exact mooringref02_Cauchy.mono _ _ _)
      | (with_reducible exact mooringref03_even.mono _ _ _)
      | (with_reducible exact LeO.refl _)
      | (with_reducible exact LeO.none _)
      | (with_reducible refine LeO.ite ?_ ?_)
      | (with_reducible refine LeO.bind ?_ (fun _ => ?_))
      | exact ih0 _ _ _ _
      | exact ih1 _ _ _ _ _ _
      | exact ih2 _ _ _ _ _ _ _ _
      | exact ih3 _ _ _ _ _ _ _ _ _
      | exact mooringref01_Mul.mono _ _ _
      | exact mooringref02_Cauchy.mono _ _ _
      | exact mooringref03_even.mono _ _ _
      | exact LeO.none _
      | refine LeO.ite ?_ ?_
      | refine LeO.bind ?_ (fun _ => ?_)
    · intro y0 y1 y2 y3 y4 y5
      unfold mooringref03_Encode.l0
      repeat' first
      | (with_reducible exact ih0 _ _ _ _)
      | (with_reducible exact ih1 _ _ _ _ _ _)
      | (with_reducible exact ih2 _ _ _ _ _ _ _ _)
      | (with_reducible exact ih3 _ _ _ _ _ _ _ _ _)
      | (with_reducible exact mooringref01_Mul.mono _ _ _)
      | (with_reducible exact mooringref02_Cauchy.mono _ _ _)
      | (with_reducible exact mooringref03_even.mono _ _ _)
      | (with_reducible exact LeO.refl _)
      | (with_reducible exact LeO.none _)
      | (with_reducible refine LeO.ite ?_ ?_)
      | (with_reducible refine LeO.bind ?_ (fun _ => ?_))
      | exact ih0 _ _ _ _
      | exact ih1 _ _ _ _ _ _
      | exact ih2 _ _ _ _ _ _ _ _
      | exact ih3 _ _ _ _ _ _ _ _ _
      | exact mooringref01_Mul.mono _ _ _
      | exact mooringref02_Cauchy.mono _ _ _
      | exact mooringref03_even.mono _ _ _
      | exact LeO.none _
      | refine LeO.ite ?_ ?_
      | refine LeO.bind ?_ (fun _ => ?_)
    · intro y0 y1 y2 y3 y4 y5 y6 y7
      unfold mooringref03_Encode.l1
      repeat' first
      | (with_reducible exact ih0 _ _ _ _)
      | (with_reducible exact ih1 _ _ _ _ _ _)
      | (with_reducible exact ih2 _ _ _ _ _ _ _ _)
      | (with_reducible exact ih3 _ _ _ _ _ _ _ _ _)
      | (with_reducible exact mooringref01_Mul.mono _ _ _)
      | (with_reducible exact mooringref02_Cauchy.mono _ _ _)
      | (with_reducible exact mooringref03_even.mono _ _ _)
      | (with_reducible exact LeO.refl _)
      | (with_reducible exact LeO.none _)
      | (with_reducible refine LeO.ite ?_ ?_)
      | (with_reducible refine LeO.bind ?_ (fun _ => ?_))
      | exact ih0 _ _ _ _
      | exact ih1 _ _ _ _ _ _
      | exact ih2 _ _ _ _ _ _ _ _
      | exact ih3 _ _ _ _ _ _ _ _ _
      | exact mooringref01_Mul.mono _ _ _
      | exact mooringref02_Cauchy.mono _ _ _
      | exact mooringref03_even.mono _ _ _
      | exact LeO.none _
      | refine LeO.ite ?_ ?_
      | refine LeO.bind ?_ (fun _ => ?_)
    · intro y0 y1 y2 y3 y4 y5 y6 y7 y8
      unfold mooringref03_Encode.l2
      repeat' first
      | (with_reducible exact ih0 _ _ _ _)
      | (with_reducible exact ih1 _ _ _ _ _ _)
      | (with_reducible exact ih2 _ _ _ _ _ _ _ _)
      | (with_reducible exact ih3 _ _ _ _ _ _ _ _ _)
      | (with_reducible exact mooringref01_Mul.mono _ _ _)
      | (with_reducible exact mooringref02_Cauchy.mono _ _ _)
      | (with_reducible exact mooringref03_even.mono _ _ _)
      | (with_reducible exact LeO.refl _)
      | (with_reducible exact LeO.none _)
      | (with_reducible refine LeO.ite ?_ ?_)
      | (with_reducible refine LeO.bind ?_ (fun _ => ?_))
      | exact ih0 _ _ _ _
      | exact ih1 _ _ _ _ _ _
      | exact ih2 _ _ _ _ _ _ _ _
      | exact ih3 _ _ _ _ _ _ _ _ _
      | exact mooringref01_Mul.mono _ _ _
      | exact mooringref02_Cauchy.mono _ _ _
      | exact mooringref03_even.mono _ _ _
      | exact LeO.none _
      | refine LeO.ite ?_ ?_
      | refine LeO.bind ?_ (fun _ => ?_)
theorem mooringref03_Encode.mono : ∀ a0 a1 a2 k, LeO (mooringref03_Encode.f k a0 a1 a2) (mooringref03_Encode.f (k + 1) a0 a1 a2) := by
  intro a0 a1 a2 k
  obtain ⟨ih0, ih1, ih2, ih3⟩ := mooringref03_Encode.mono_l k
  unfold mooringref03_Encode.f
  repeat' first
      | (with_reducible exact ih0 _ _ _ _)
      | (with_reducible exact ih1 _ _ _ _ _ _)
      | (with_reducible exact ih2 _ _ _ _ _ _ _ _)
      | (with_reducible exact ih3 _ _ _ _ _ _ _ _ _)
      | (with_reducible exact mooringref01_Mul.mono _ _ _)
      | (with_reducible exact mooringref02_Cauchy.mono _ _ _)
      | (with_reducible exact mooringref03_even.mono _ _ _)
      | (with_reducible exact LeO.refl _)
      | (with_reducible exact LeO.none _)
      | (with_reducible refine LeO.ite ?_ ?_)
      | (with_reducible refine LeO.bind ?_ (fun _ => ?_))
      | exact ih0 _ _ _ _
      | exact ih1 _ _ _ _ _ _
      | exact ih2 _ _ _ _ _ _ _ _
      | exact ih3 _ _ _ _ _ _ _ _ _
      | exact mooringref01_Mul.mono _ _ _
      | exact mooringref02_Cauchy.mono _ _ _
      | exact mooringref03_even.mono _ _ _
      | exact LeO.none _
      | refine LeO.ite ?_ ?_
      | refine LeO.bind ?_ (fun _ => ?_)
def mooringref03_Encode.T15 : Bool × List (List Nat × List Nat) := (true, [([], []), ([], []), ([], []), ([], []), ([2, 3], [2, 3]), ([4], [4]), ([], []), ([], []), ([6, 7], [6, 7]), ([8], [8]), ([], []), ([9, 10], [9, 10]), ([11], [11]), ([], []), ([], []), ([13, 14], [13, 14]), ([15], [15]), ([], []), ([16, 17], [16, 17]), ([18], [18]), ([12, 19], [12, 19]), ([5, 20], [5, 20]), ([0, 1, 0, 1, 2, 3, 4, 5, 6, 7, 8, 9, 10, 11, 12, 13, 14, 15, 16, 17, 18, 19, 20, 21], [0, 1]), ([22, 21, 20, 0, 1, 2, 3, 4, 5, 6, 7, 8, 9, 10, 11, 12, 13, 14, 15, 16, 17, 18, 19, 20, 21], [21, 22])])
def mooringref03_Encode.B15 : List Nat := [0, 0, 0, 0, 12, 28, 0, 0, 192, 448, 0, 1984, 4032, 0, 0, 24576, 57344, 0, 253952, 516096, 1048512, 2097148, 4194303, 8388607]
theorem mooringref03_Encode.tab15 : rtab .any (opsOf Try.f76 15) = mooringref03_Encode.T15 := by kernel_rfl
theorem mooringref03_Encode.bits15 : waitsOk mooringref03_Encode.T15.2 mooringref03_Encode.B15 = true := by kernel_rfl
set_option maxHeartbeats 8000000 in
set_option maxRecDepth 100000 in
theorem mooringref03_Encode.calls (k : Nat) (a0 : Int) (a1 : Int) (A2 : Option Addr) (c2 : Nat) (l2 : List (List Int)) (r1 : List (List Int)) (r2 : Int) (w : World) (hr2 : Kd.C (Kd.slice 5 (Kd.int .u8)) w A2 l2.length l2) (hc2 : l2.length ≤ c2) (h : mooringref03_Encode.f k a0 a1 l2 = some (r1, r2)) :
    Calls Try.prog 76 #[.int .i64 a0, .int .i64 a1, .slice A2 l2.length c2] w fun e w' => ∃ v0_ : Value, e = .returned (.tuple #[v0_, .int .i64 r2]) ∧ Kd.S (Kd.slice 5 (Kd.int .u8)) 22 w' w.heap.size (fun _ => True) v0_ r1 ∧ Below w.heap.size w w' := by
  have HR2 := Aside0.mk hr2
  have HC2 := Aside0.mk hc2
  clear hr2 hc2
  have HB := Aside0.mk (Below.refl w.heap.size w)
  have H : ((mooringref03_Code.f a0 a1).bind fun t101 => (if t101 = true then ((mooringref03_even.f k l2 a0).bind fun t102 => (mooringref03_Encode.j0 k a0 a1 l2 (!t102))) else (mooringref03_Encode.j0 k a0 a1 l2 true))) = some (r1, r2) := h
  clear h
  have HC4 := Aside0.mk H
  clear H
  go_enter Try.func76, Try.ntmps76
  go_upto_region 1 with (fail)
  go_cut [24] (fun v24 wc => ∃ (kq : Nat) (x24_3 : Bool), v24 = .bool x24_3 ∧ Aside0 (mooringref03_Encode.j0 kq a0 a1 l2 x24_3 = some (r1, r2)) ∧ Aside0 (kq ≤ k) ∧ Aside0 (Below w.heap.size w wc))
  case first =>
    have H := HC4.out
    clear HC4
    replace H := Option.bind_eq_some_iff.mp H
    obtain ⟨t101, A50, H⟩ := H
    replace H : (if t101 = true then ((mooringref03_even.f k l2 a0).bind fun t102 => (mooringref03_Encode.j0 k a0 a1 l2 (!t102))) else (mooringref03_Encode.j0 k a0 a1 l2 true)) = some (r1, r2) := H
    have A5 := Aside0.mk A50
    clear A50
    by_cases c6 : t101 = true
    · subst c6
      have H1 : ((mooringref03_even.f k l2 a0).bind fun t102 => (mooringref03_Encode.j0 k a0 a1 l2 (!t102))) = some (r1, r2) := by rw [if_pos rfl] at H; exact H
      clear H
      have H := H1
      clear H1
      replace H := Option.bind_eq_some_iff.mp H
      obtain ⟨t102, A70, H⟩ := H
      replace H : (mooringref03_Encode.j0 k a0 a1 l2 (!t102)) = some (r1, r2) := H
      have A7 := Aside0.mk A70
      clear A70
      have H' := Aside0.mk H
      clear H
      go_wp2_with (first | ((with_reducible refine gate_callee (f := 79) rfl ?_); refine goesL_ (some 17) rfl rfl Try.func79 (by kernel_rfl) rfl #[.int .i64 a0, .int .i64 a1] rfl (by (try simp only [List.map_toArray, List.map_cons, List.map_nil]); first | done | rfl | (simp only [List.length_drop, List.length_take]; rfl)) ?_; (with_reducible refine (mooringref03_Code.calls a0 a1 true _ A5.out).mono ?_); rintro e w' ⟨rfl, ⟨nd, rfl⟩⟩; refine ⟨_, rfl, ?_⟩) | (go_at_call 97; (with_reducible refine (mooringref03_even.calls k _ _ l2 a0 t102 _ ?side1 ?side2 A7.out).mono ?_); (case side1 => repeat (first | exact (Kd.C_below HR2.out (by repeat (first | (with_reducible first | exact HB.out | apply below_alloc | apply pw_below_drewN | apply below_drew1) | exact HB.out))) | (with_reducible refine Kd.C_alloc ?_ _) | (with_reducible refine Kd.C_drewN ?_ _) | (with_reducible refine Kd.C_drew ?_))); (case side2 => exact HC2.out); rintro e w' ⟨rfl, ⟨nd, rfl⟩⟩))
      go_meet
      case rel => exact ⟨_, (!t102), (by first | rfl | (simp; done) | (simp [*]; done)), H', ⟨by first | omega | exact Nat.le_refl _⟩, ⟨by repeat (first | (with_reducible first | exact HB.out | apply below_alloc | apply pw_below_drewN | apply below_drew1) | exact HB.out)⟩⟩
    · replace c6 := Bool.eq_false_iff.mpr c6
      subst c6
      have H1 : (mooringref03_Encode.j0 k a0 a1 l2 true) = some (r1, r2) := by rw [if_neg (show ¬ (false = true) by decide)] at H; exact H
      clear H
      have H := H1
      clear H1
      have H' := Aside0.mk H
      clear H
      go_wp2_with (first | ((with_reducible refine gate_callee (f := 79) rfl ?_); refine goesL_ (some 17) rfl rfl Try.func79 (by kernel_rfl) rfl #[.int .i64 a0, .int .i64 a1] rfl (by (try simp only [List.map_toArray, List.map_cons, List.map_nil]); first | done | rfl | (simp only [List.length_drop, List.length_take]; rfl)) ?_; (with_reducible refine (mooringref03_Code.calls a0 a1 false _ A5.out).mono ?_); rintro e w' ⟨rfl, ⟨nd, rfl⟩⟩; refine ⟨_, rfl, ?_⟩))
      go_meet
      case rel => exact ⟨_, (true), (by first | rfl | (simp; done) | (simp [*]; done)), H', ⟨by first | omega | exact Nat.le_refl _⟩, ⟨by repeat (first | (with_reducible first | exact HB.out | apply below_alloc | apply pw_below_drewN | apply below_drew1) | exact HB.out)⟩⟩
  case rest =>
    clear HC4
    try clear c2
    try clear p2
    try clear c6
    try clear c7
    obtain ⟨kq, x24_3, rfl, HA, HJ3, HB⟩ := hcut
    cases kq with
    | zero => exact absurd HA.out (by simp [mooringref03_Encode.j0])
    | succ kj3 =>
      have H := HA.out
      clear HA
      simp only [mooringref03_Encode.j0] at H
      by_cases c8 : x24_3 = true
      · subst c8
        have H1 : (some (([] : List (List Int)), 1)) = some (r1, r2) := by rw [if_pos rfl] at H; exact H
        clear H
        have H := H1
        clear H1
        simp only [Option.some.injEq, Prod.mk.injEq] at H
        obtain ⟨rfl, rfl⟩ := H
        go_wp2
        go_ret2
        exact ⟨_, by first | rfl | (simp [errW_none, errW_some] <;> rfl) | (simp [*, errW_none, errW_some] <;> rfl), by first | exact Kd.S_nil _ _ _ _ _ | exact Kd.N_nil _ _ _ _ _ | exact Kd.V_nil _ _ _ _ _ | exact Kd.Q_nil _ _ _ _ _ | exact Kd.R_nil _ _ _ _ _, by repeat (first | (with_reducible first | exact HB.out | apply below_alloc | apply pw_below_drewN | apply below_drew1) | exact HB.out)⟩
      · replace c8 := Bool.eq_false_iff.mpr c8
        subst c8
        have H1 : ((mooringref02_Cauchy.f kj3 a0 a1).bind fun bt103 => (mooringref03_Encode.l0 kj3 a0 a1 l2 bt103.1 (([] : List (List Int))) 0)) = some (r1, r2) := by rw [if_neg (show ¬ (false = true) by decide)] at H; exact H
        clear H
        have H := H1
        clear H1
        replace H := Option.bind_eq_some_iff.mp H
        obtain ⟨⟨t103, t104⟩, A90, H⟩ := H
        replace H : (mooringref03_Encode.l0 kj3 a0 a1 l2 t103 (([] : List (List Int))) 0) = some (r1, r2) := H
        have A9 := Aside0.mk A90
        clear A90
        obtain ⟨y107, hy107⟩ : ∃ y_ : List (List Int), y_ = (([] : List (List Int))) := ⟨_, rfl⟩
        replace H : (mooringref03_Encode.l0 kj3 a0 a1 l2 t103 y107 0) = some (r1, r2) := by first | (rw [hy107]; with_reducible exact H) | (have H2_ := (Option.bind_some _ _).symm.trans H; rw [hy107]; with_reducible exact H2_) | (have H2_ := (Option.bind_some _ _).symm.trans H; with_reducible exact H2_) | with_reducible exact H | (rw [hy107]; exact H) | exact H
        have Ny107 := Aside0.mk hy107
        clear hy107
        have H' := Aside0.mk H
        clear H
        go_wp2_with (first | ((with_reducible refine gate_callee (f := 72) rfl ?_); refine goesL_ (some 28) rfl rfl Try.func72 (by kernel_rfl) rfl #[.int .i64 a0, .int .i64 a1] rfl (by (try simp only [List.map_toArray, List.map_cons, List.map_nil]); first | done | rfl | (simp only [List.length_drop, List.length_take]; rfl)) ?_; (with_reducible refine (mooringref02_Cauchy.calls kj3 a0 a1 t103 t104 _ A9.out).mono ?_); rintro e w10 ⟨v105, rfl, ho0, hb⟩; refine ⟨_, rfl, ?_⟩; have n0_ := Aside0.mk (Kd.S_lower ho0 (below_size (by repeat (first | (with_reducible first | exact HB.out | apply below_alloc | apply pw_below_drewN | apply below_drew1) | exact HB.out)))); have n1_ := Aside0.mk (below_step (by repeat (first | (with_reducible first | exact HB.out | apply below_alloc | apply pw_below_drewN | apply below_drew1) | exact HB.out)) hb); clear HB; have HO106 := n0_; have HB := n1_; clear n0_ n1_; (try clear hb); (try clear hb2); (try clear hk); (try clear hi); (try clear ho0)) | ((with_reducible refine gate_dst (N := 31) rfl ?_); refine Kd.S_lit (Kd.slice 5 (Kd.int .u8)) _ 22 ?hg (N := 31) ?hd (xs := ([] : List (List Int))) (inner := []) (ok := fun _ => True) (okp := fun _ => True) ?hr ?hp (fun _ hk => hk) trivial (Below.refl _ _) (Nat.le_refl _) (by simp) ?_; (case hd => rfl); (case hg => rfl); (case hr => first | (go_simp; done) | (go_simp; rfl)); (case hp => exact (Reps.none _ _)); intro v108 w11 ho12 hb hg_ hnew_; clear hg_ hnew_; (first | rw [← Ny107.out] at ho12 | (simp only [Int.reduceToNat] at ho12; rw [← Ny107.out] at ho12)); have n0_ := Aside0.mk (Kd.S_elder' (by (with_reducible repeat (first | apply Kd.S_alloc | apply Kd.S_drewN | apply Kd.S_drew)); exact HO106.out) (Kd.S_base ho12) hb); have n1_ := Aside0.mk (Kd.S_lower (Kd.S_new' ho12 (Kd.S_lt (by (with_reducible repeat (first | apply Kd.S_alloc | apply Kd.S_drewN | apply Kd.S_drew)); exact HO106.out))) (below_size (by repeat (first | (with_reducible first | exact HB.out | apply below_alloc | apply pw_below_drewN | apply below_drew1) | exact HB.out)))); have n2_ := Aside0.mk (below_step (by repeat (first | (with_reducible first | exact HB.out | apply below_alloc | apply pw_below_drewN | apply below_drew1) | exact HB.out)) hb); clear HO106; clear HB; have HO106 := n0_; have HO109 := n1_; have HB := n2_; clear n0_ n1_ n2_; clear hb ho12))
        go_loopg [10, 11] kj3 (fun kq v10 v11 w' => ∃ (x10_2 : List (List Int)) (x11_2 : Int), v11 = .int .i64 x11_2 ∧ Aside0 (mooringref03_Encode.l0 kq a0 a1 l2 t103 x10_2 x11_2 = some (r1, r2)) ∧ Aside0 (kq ≤ kj3) ∧ Aside0 (Kd.S (Kd.slice 5 (Kd.int .u8)) 22 w' w.heap.size (fun k_ => some k_ ≠ (v10 : Value).ownBlock) v105 t103) ∧ Aside0 (Kd.S (Kd.slice 5 (Kd.int .u8)) 22 w' w.heap.size (fun k_ => some k_ ≠ (v105 : Value).ownBlock) v10 x10_2) ∧ Aside0 (Below w.heap.size w w'))
        case atStart => exact ⟨(y107), (0), (by first | rfl | (simp; done) | (simp [*]; done)), H', ⟨Nat.le_refl _⟩, ⟨by (with_reducible repeat (first | apply Kd.S_alloc | apply Kd.S_drewN | apply Kd.S_drew)); exact Kd.S_mono HO106.out (fun _ hk => hk.2)⟩, ⟨by (with_reducible repeat (first | apply Kd.S_alloc | apply Kd.S_drewN | apply Kd.S_drew)); exact Kd.S_mono HO109.out (fun _ hk => hk.2)⟩, ⟨by repeat (first | (with_reducible first | exact HB.out | apply below_alloc | apply pw_below_drewN | apply below_drew1) | exact HB.out)⟩⟩
        case round =>
          clear H'
          try clear c2
          try clear p2
          try clear c6
          try clear c7
          try clear c8
          try clear p2
          obtain ⟨x10_2, x11_2, rfl, HA, HK2, HO_8, HO_10, HB⟩ := hrel
          cases gk with
          | zero => exact absurd HA.out (by simp [mooringref03_Encode.l0])
          | succ k2 =>
            have H := HA.out
            clear HA
            simp only [mooringref03_Encode.l0] at H
            by_cases c13 : x11_2 < (wrap64 (a0 + a1))
            · rw [if_pos c13] at H
              have c13b0 : decide (x11_2 < (wrap64 (a0 + a1))) = true := decide_eq_true c13
              clear c13
              by_cases c14 : 0 < (l2.length : Int)
              · rw [if_pos c14] at H
                have c14b0 : decide (0 < (l2.length : Int)) = true := decide_eq_true c14
                have c14b1 : decide (0 < l2.length) = true := decide_eq_true (by omega)
                clear c14
                by_cases c15 : 0 ≤ ((rd_L1 l2 0).length : Int)
                · rw [if_pos c15] at H
                  have c15b0 := eq_true c15
                  have c15b1 : decide (0 ≤ ((rd_L1 l2 0).length : Int)) = true := decide_eq_true c15
                  clear c15
                  by_cases c16 : (((rd_L1 l2 0).length : Int) : Int).toNat ≤ 281474976710656
                  · rw [if_pos c16] at H
                    have c16b0 := eq_true c16
                    have c16b1 : decide ((((rd_L1 l2 0).length : Int) : Int).toNat ≤ 281474976710656) = true := decide_eq_true c16
                    clear c16
                    obtain ⟨y111, hy111⟩ : ∃ y_ : List Int, y_ = (List.replicate (((rd_L1 l2 0).length : Int) : Int).toNat 0) := ⟨_, rfl⟩
                    replace H : (mooringref03_Encode.l1 k2 a0 a1 l2 t103 x10_2 x11_2 y111 0) = some (r1, r2) := by first | (rw [hy111]; with_reducible exact H) | (have H2_ := (Option.bind_some _ _).symm.trans H; rw [hy111]; with_reducible exact H2_) | (have H2_ := (Option.bind_some _ _).symm.trans H; with_reducible exact H2_) | with_reducible exact H | (rw [hy111]; exact H) | exact H
                    have Ny111 := Aside0.mk hy111
                    clear hy111
                    have H' := Aside0.mk H
                    clear H
                    have p110 : 0 ≤ (0 : Int) := (by omega)
                    have q110 : 0 < (l2.length : Int) := of_decide_eq_true (by first | (with_reducible assumption) | assumption)
                    obtain ⟨ad110, A110_0, c110_0, e110, hx110_0, hl110_0, hi110_0⟩ := at_L1 HR2.out 0 p110 q110
                    cases e110
                    have qi110 : (0 < l2.length) = True := eq_true (by omega)
                    (try rw [show ((0 : Int)).toNat = 0 from rfl] at hx110_0)
                    (try rw [Addr.add_zero'] at hx110_0)
                    replace hx110_0 := (HB.out.cell (World.block_lt_of_cell? w _ hx110_0)).trans hx110_0
                    have HR110_0 := Aside0.mk hi110_0
                    have HC110_0 := Aside0.mk hl110_0
                    clear hi110_0 hl110_0
                    replace p110 := eq_true p110
                    replace q110 := eq_true q110
                    go_wp2_with (first | ((with_reducible refine gate_dst (N := 43) rfl ?_); refine Kd.R_make (Kd.int .u8) _ 5 rfl (N := 43) rfl 22 _ _ rfl ((rd_L1 l2 0).length : Int) rfl rfl Try.underlying22 (.int .u8 0) 1 info5 rfl (by decide) (by omega) 0 (ok := fun _ => True) (okp := fun _ => True) rfl (fun _ hk => hk) trivial (of_decide_eq_true (by first | (with_reducible assumption) | assumption)) (Nat.le_trans (Nat.mul_le_mul_right _ (of_decide_eq_true (by first | (with_reducible assumption) | assumption) : ((rd_L1 l2 0).length : Int).toNat ≤ 281474976710656)) (by omega)) (Below.refl _ _) (Nat.le_refl _) ?_; intro v112 w17 ho18 hb hg_ hnew_; clear hg_ hnew_; (first | rw [← Ny111.out] at ho18 | (simp only [Int.reduceToNat] at ho18; rw [← Ny111.out] at ho18)); have n0_ := Aside0.mk (Kd.S_elder' (by (with_reducible repeat (first | apply Kd.S_alloc | apply Kd.S_drewN | apply Kd.S_drew)); exact HO_8.out) (Kd.R_base ho18) hb); have n1_ := Aside0.mk (Kd.S_elder' (by (with_reducible repeat (first | apply Kd.S_alloc | apply Kd.S_drewN | apply Kd.S_drew)); exact HO_10.out) (Kd.R_base ho18) hb); have n2_ := Aside0.mk (Kd.R_lower ho18 (below_size (by repeat (first | (with_reducible first | exact HB.out | apply below_alloc | apply pw_below_drewN | apply below_drew1) | exact HB.out)))); have n3_ := Aside0.mk (below_step (by repeat (first | (with_reducible first | exact HB.out | apply below_alloc | apply pw_below_drewN | apply below_drew1) | exact HB.out)) hb); clear HO_8; clear HO_10; clear HB; have HO_8 := n0_; have HO_10 := n1_; have HO113 := n2_; have HB := n3_; clear n0_ n1_ n2_ n3_; clear hb ho18))
                    go_loopg [13] k2 (fun kq v13 w' => ∃ (x12_3 : List Int) (x13_3 : Int), v13 = .int .i64 x13_3 ∧ Aside0 (mooringref03_Encode.l1 kq a0 a1 l2 t103 x10_2 x11_2 x12_3 x13_3 = some (r1, r2)) ∧ Aside0 (kq ≤ k2) ∧ Aside0 (Kd.S (Kd.slice 5 (Kd.int .u8)) 22 w' w.heap.size (fun k_ => some k_ ≠ (u10 : Value).ownBlock ∧ some k_ ≠ (v112 : Value).ownBlock) v105 t103) ∧ Aside0 (Kd.S (Kd.slice 5 (Kd.int .u8)) 22 w' w.heap.size (fun k_ => some k_ ≠ (v105 : Value).ownBlock ∧ some k_ ≠ (v112 : Value).ownBlock) u10 x10_2) ∧ Aside0 (Kd.R (Kd.int .u8) 5 w' w.heap.size (fun _ => True) v112 x12_3) ∧ Aside0 (Below w.heap.size w w'))
                    case atStart => exact ⟨(y111), (0), (by first | rfl | (simp; done) | (simp [*]; done)), H', ⟨Nat.le_refl _⟩, ⟨by (with_reducible repeat (first | apply Kd.S_alloc | apply Kd.S_drewN | apply Kd.S_drew)); exact HO_8.out⟩, ⟨by (with_reducible repeat (first | apply Kd.S_alloc | apply Kd.S_drewN | apply Kd.S_drew)); exact HO_10.out⟩, ⟨by (with_reducible repeat (first | apply Kd.R_alloc | apply Kd.R_drewN | apply Kd.R_drew)); exact HO113.out⟩, ⟨by repeat (first | (with_reducible first | exact HB.out | apply below_alloc | apply pw_below_drewN | apply below_drew1) | exact HB.out)⟩⟩
                    case round =>
                      clear H'
                      try clear c1
                      try clear p1
                      try clear q1
                      try clear hx1
                      try clear qi1
                      try clear c2
                      try clear p2
                      try clear c6
                      try clear p6
                      try clear c7
                      try clear c8
                      try clear c11
                      try clear p11
                      try clear q11
                      try clear hx11
                      try clear qi11
                      try clear c13
                      try clear c13b0
                      try clear c14
                      try clear c14b0
                      try clear c14b1
                      try clear c15
                      try clear c15b0
                      try clear c15b1
                      try clear c16
                      try clear c16b0
                      try clear c16b1
                      try clear hx110_0
                      try clear p110
                      try clear p2
                      try clear q110
                      obtain ⟨x12_3, x13_3, rfl, HA, HK3, HO_8, HO_10, HO_12, HB⟩ := hrel
                      cases gk with
                      | zero => exact absurd HA.out (by simp [mooringref03_Encode.l1])
                      | succ k3 =>
                        have H := HA.out
                        clear HA
                        simp only [mooringref03_Encode.l1] at H
                        by_cases c19 : x13_3 < (x12_3.length : Int)
                        · rw [if_pos c19] at H
                          have c19b0 : decide (x13_3 < (x12_3.length : Int)) = true := decide_eq_true c19
                          clear c19
                          have H' := Aside0.mk H
                          clear H
                          obtain ⟨Ao20, co20, eo20⟩ := Kd.R_slice HO_12.out
                          subst eo20
                          go_wp2
                          go_loopg [14] k3 (fun kq v14 w' => ∃ (x12_4 : List Int) (x14_4 : Int), v14 = .int .i64 x14_4 ∧ Aside0 (mooringref03_Encode.l2 kq a0 a1 l2 t103 x10_2 x11_2 x12_4 x13_3 x14_4 = some (r1, r2)) ∧ Aside0 (kq ≤ k3) ∧ Aside0 (Kd.S (Kd.slice 5 (Kd.int .u8)) 22 w' w.heap.size (fun k_ => some k_ ≠ (u10 : Value).ownBlock ∧ some k_ ≠ ((.slice Ao20 x12_3.length co20) : Value).ownBlock) v105 t103) ∧ Aside0 (Kd.S (Kd.slice 5 (Kd.int .u8)) 22 w' w.heap.size (fun k_ => some k_ ≠ (v105 : Value).ownBlock ∧ some k_ ≠ ((.slice Ao20 x12_3.length co20) : Value).ownBlock) u10 x10_2) ∧ Aside0 (Kd.R (Kd.int .u8) 5 w' w.heap.size (fun _ => True) (.slice Ao20 x12_3.length co20) x12_4) ∧ Aside0 (Below w.heap.size w w'))
                          case atStart => exact ⟨(x12_3), (0), (by first | rfl | (simp; done) | (simp [*]; done)), H', ⟨Nat.le_refl _⟩, ⟨by (with_reducible repeat (first | apply Kd.S_alloc | apply Kd.S_drewN | apply Kd.S_drew)); exact HO_8.out⟩, ⟨by (with_reducible repeat (first | apply Kd.S_alloc | apply Kd.S_drewN | apply Kd.S_drew)); exact HO_10.out⟩, ⟨by (with_reducible repeat (first | apply Kd.R_alloc | apply Kd.R_drewN | apply Kd.R_drew)); exact HO_12.out⟩, ⟨by repeat (first | (with_reducible first | exact HB.out | apply below_alloc | apply pw_below_drewN | apply below_drew1) | exact HB.out)⟩⟩
                          case round =>
                            clear H'
                            try clear c1
                            try clear p1
                            try clear q1
                            try clear hx1
                            try clear qi1
                            try clear c2
                            try clear p2
                            try clear c6
                            try clear p6
                            try clear c7
                            try clear c8
                            try clear c11
                            try clear p11
                            try clear q11
                            try clear hx11
                            try clear qi11
                            try clear c13
                            try clear c13b0
                            try clear c14
                            try clear c14b0
                            try clear c14b1
                            try clear c15
                            try clear c15b0
                            try clear c15b1
                            try clear c16
                            try clear c16b0
                            try clear c16b1
                            try clear c19
                            try clear c19b0
                            try clear hx110_0
                            try clear p1
                            try clear p11
                            try clear p110
                            try clear p2
                            try clear p6
                            try clear q1
                            try clear q11
                            try clear q110
                            obtain ⟨x12_4, x14_4, rfl, HA, HK4, HO_8, HO_10, HO_12, HB⟩ := hrel
                            have hl12_4 := (Kd.R_reads' HO_12.out).1
                            rw [hl12_4] at HO_12
                            (try simp only [hl12_4])
                            (try simp only [hl12_4] at HO_8)
                            (try simp only [hl12_4] at HO_10)
                            cases gk with
                            | zero => exact absurd HA.out (by simp [mooringref03_Encode.l2])
                            | succ k4 =>
                              have H := HA.out
                              clear HA
                              simp only [mooringref03_Encode.l2] at H
                              by_cases c21 : x14_4 < a0
                              · rw [if_pos c21] at H
                                have c21b0 : decide (x14_4 < a0) = true := decide_eq_true c21
                                (try simp only [hl12_4] at c21b0)
                                clear c21
                                by_cases c22 : 0 ≤ x13_3
                                · rw [if_pos c22] at H
                                  have c22b0 : decide (0 ≤ x13_3) = true := decide_eq_true c22
                                  (try simp only [hl12_4] at c22b0)
                                  clear c22
                                  by_cases c23 : x13_3 < (x12_4.length : Int)
                                  · rw [if_pos c23] at H
                                    have c23b0 : decide (x13_3 < (x12_4.length : Int)) = true := decide_eq_true c23
                                    (try simp only [hl12_4] at c23b0)
                                    clear c23
                                    by_cases c24 : 0 ≤ x11_2
                                    · rw [if_pos c24] at H
                                      have c24b0 : decide (0 ≤ x11_2) = true := decide_eq_true c24
                                      (try simp only [hl12_4] at c24b0)
                                      clear c24
                                      by_cases c25 : x11_2 < (t103.length : Int)
                                      · rw [if_pos c25] at H
                                        have c25b0 : decide (x11_2 < (t103.length : Int)) = true := decide_eq_true c25
                                        (try simp only [hl12_4] at c25b0)
                                        clear c25
                                        by_cases c26 : 0 ≤ x14_4
                                        · rw [if_pos c26] at H
                                          have c26b0 : decide (0 ≤ x14_4) = true := decide_eq_true c26
                                          (try simp only [hl12_4] at c26b0)
                                          clear c26
                                          by_cases c27 : x14_4 < ((rd_L1 t103 x11_2).length : Int)
                                          · rw [if_pos c27] at H
                                            have c27b0 : decide (x14_4 < ((rd_L1 t103 x11_2).length : Int)) = true := decide_eq_true c27
                                            (try simp only [hl12_4] at c27b0)
                                            clear c27
                                            by_cases c28 : x14_4 < (l2.length : Int)
                                            · rw [if_pos c28] at H
                                              have c28b0 : decide (x14_4 < (l2.length : Int)) = true := decide_eq_true c28
                                              (try simp only [hl12_4] at c28b0)
                                              clear c28
                                              by_cases c29 : x13_3 < ((rd_L1 l2 x14_4).length : Int)
                                              · rw [if_pos c29] at H
                                                have c29b0 : decide (x13_3 < ((rd_L1 l2 x14_4).length : Int)) = true := decide_eq_true c29
                                                (try simp only [hl12_4] at c29b0)
                                                clear c29
                                                replace H := Option.bind_eq_some_iff.mp H
                                                obtain ⟨t122, A300, H⟩ := H
                                                replace H : (mooringref03_Encode.l2 k4 a0 a1 l2 t103 x10_2 x11_2 (x12_4.set (x13_3 : Int).toNat (Go.bits .xor .u8 (rd x12_4 x13_3) t122)) x13_3 (wrap64 (x14_4 + 1))) = some (r1, r2) := H
                                                have A30 := Aside0.mk A300
                                                clear A300
                                                obtain ⟨y123, hy123⟩ : ∃ y_ : List Int, y_ = (x12_4.set (x13_3 : Int).toNat (Go.bits .xor .u8 (rd x12_4 x13_3) t122)) := ⟨_, rfl⟩
                                                replace H : (mooringref03_Encode.l2 k4 a0 a1 l2 t103 x10_2 x11_2 y123 x13_3 (wrap64 (x14_4 + 1))) = some (r1, r2) := by first | (rw [hy123]; with_reducible exact H) | (have H2_ := (Option.bind_some _ _).symm.trans H; rw [hy123]; with_reducible exact H2_) | (have H2_ := (Option.bind_some _ _).symm.trans H; with_reducible exact H2_) | with_reducible exact H | (rw [hy123]; exact H) | exact H
                                                have Ny123 := Aside0.mk hy123
                                                clear hy123
                                                have H' := Aside0.mk H
                                                clear H
                                                try go_wp2
                                                have n0_ := Aside0.mk (Kd.S_drew HO_8.out)
                                                have n1_ := Aside0.mk (Kd.S_drew HO_10.out)
                                                have n2_ := Aside0.mk (Kd.R_drew HO_12.out)
                                                have n3_ := Aside0.mk (below_drew1 HB.out)
                                                clear HO_8
                                                clear HO_10
                                                clear HO_12
                                                clear HB
                                                have HO_8 := n0_
                                                have HO_10 := n1_
                                                have HO_12 := n2_
                                                have HB := n3_
                                                clear n0_ n1_ n2_ n3_
                                                have p117 : 0 ≤ (x13_3 : Int) := of_decide_eq_true (by first | (with_reducible assumption) | assumption)
                                                have q117 : x13_3 < (x12_4.length : Int) := of_decide_eq_true (by first | (with_reducible assumption) | assumption)
                                                obtain ⟨ad117, e117, hx117_0⟩ := Kd.at_int (Kd.R_reads' HO_12.out).2.2 x13_3 p117 q117
                                                cases e117
                                                replace p117 := eq_true p117
                                                replace q117 := eq_true q117
                                                obtain ⟨Ao33, co33, eo33⟩ := Kd.S_slice HO_8.out
                                                (first | subst eo33 | (injection eo33 with f1_ f2_ f3_; have f4_ := f1_.symm; have f5_ := f3_.symm; clear f1_ f2_ f3_; subst f4_; subst f5_))
                                                have p118 : 0 ≤ (x11_2 : Int) := of_decide_eq_true (by first | (with_reducible assumption) | assumption)
                                                have q118 : x11_2 < (t103.length : Int) := of_decide_eq_true (by first | (with_reducible assumption) | assumption)
                                                obtain ⟨ad118, A118_0, c118_0, e118, hx118_0, hl118_0, hi118_0⟩ := at_L1 (Kd.S_reads' HO_8.out).2.2 x11_2 p118 q118
                                                cases e118
                                                obtain ⟨ce118, hce118, hMe118, hcc118⟩ := Kd.S_get HO_8.out [] x11_2 p118 (by first | exact q118 | exact of_decide_eq_true (by first | (with_reducible assumption) | assumption) | (have e_ := (Kd.S_reads' HO_8.out).1; omega))
                                                obtain ⟨ve118_0, rfl, ge118_0⟩ := hMe118
                                                have hv118_0 := hcc118 0 _ rfl
                                                rw [Nat.add_zero, show ((Kd.slice 5 (Kd.int .u8))).sz = 1 from rfl, Nat.mul_one] at hv118_0
                                                replace hv118_0 := Option.some.inj (hv118_0.symm.trans hx118_0)
                                                rw [hv118_0] at ge118_0
                                                have HL118_0 := Aside0.mk (show Kd.R (Kd.int .u8) 5 _ _ _ _ (rd_L1 t103 x11_2) from ge118_0)
                                                clear hv118_0 ge118_0
                                                clear hcc118 hce118
                                                have HR118_0 := Aside0.mk hi118_0
                                                have HC118_0 := Aside0.mk hl118_0
                                                clear hi118_0 hl118_0
                                                replace p118 := eq_true p118
                                                replace q118 := eq_true q118
                                                have p119 : 0 ≤ (x14_4 : Int) := of_decide_eq_true (by first | (with_reducible assumption) | assumption)
                                                have q119 : x14_4 < ((rd_L1 t103 x11_2).length : Int) := of_decide_eq_true (by first | (with_reducible assumption) | assumption)
                                                obtain ⟨ad119, e119, hx119_0⟩ := Kd.at_int (by repeat (first | (with_reducible exact HR118_0.out) | (with_reducible refine Kd.C_alloc ?_ _) | (with_reducible refine Kd.C_drewN ?_ _) | (with_reducible refine Kd.C_drew ?_) | exact HR118_0.out)) x14_4 p119 q119
                                                cases e119
                                                replace p119 := eq_true p119
                                                replace q119 := eq_true q119
                                                have p120 : 0 ≤ (x14_4 : Int) := of_decide_eq_true (by first | (with_reducible assumption) | assumption)
                                                have q120 : x14_4 < (l2.length : Int) := of_decide_eq_true (by first | (with_reducible assumption) | assumption)
                                                obtain ⟨ad120, A120_0, c120_0, e120, hx120_0, hl120_0, hi120_0⟩ := at_L1 HR2.out x14_4 p120 q120
                                                have hw120_0 := hx120_0
                                                obtain rfl : ad110 = ad120 := (by injection e120)
                                                replace hx120_0 := (HB.out.cell (World.block_lt_of_cell? w _ hx120_0)).trans hx120_0
                                                have HR120_0 := Aside0.mk hi120_0
                                                have HC120_0 := Aside0.mk hl120_0
                                                clear hi120_0 hl120_0
                                                replace p120 := eq_true p120
                                                replace q120 := eq_true q120
                                                have p121 : 0 ≤ (x13_3 : Int) := of_decide_eq_true (by first | (with_reducible assumption) | assumption)
                                                have q121 : x13_3 < ((rd_L1 l2 x14_4).length : Int) := of_decide_eq_true (by first | (with_reducible assumption) | assumption)
                                                obtain ⟨ad121, e121, hx121_0⟩ := Kd.at_int HR120_0.out x13_3 p121 q121
                                                have hw121_0 := hx121_0
                                                cases e121
                                                replace hx121_0 := (HB.out.cell (World.block_lt_of_cell? w _ hx121_0)).trans hx121_0
                                                replace p121 := eq_true p121
                                                replace q121 := eq_true q121
                                                refine start_ (n := 24) (S := fun w' => w'.cell? (ad117.add (x13_3).toNat) = some (.int .u8 (rd x12_4 x13_3)) ∧ w'.cell? (ad118.add (x11_2).toNat) = some (.slice (some ad119) (rd_L1 t103 x11_2).length c118_0) ∧ w'.cell? (ad119.add (x14_4).toNat) = some (.int .u8 (rd (rd_L1 t103 x11_2) x14_4)) ∧ w'.cell? (ad110.add (x14_4).toNat) = some (.slice (some ad121) (rd_L1 l2 x14_4).length c120_0) ∧ w'.cell? (ad121.add (x13_3).toNat) = some (.int .u8 (rd (rd_L1 l2 x14_4) x13_3))) (ds := [23]) #[false, false, false, false, false, false, false, false, false, false, false, false, false, false, false, false, false, false, false, false, false, false, false, false] (by kernel_rfl) rfl rfl ⟨hx117_0, hx118_0, hx119_0, ((HB.out.cell (World.block_lt_of_cell? w _ hw120_0)).trans hw120_0), ((HB.out.cell (World.block_lt_of_cell? w _ hw121_0)).trans hw121_0)⟩ (fun hHeld => ?_); refine with_tabW mooringref03_Encode.tab15 mooringref03_Encode.bits15 (fun HT_ HW_ => ?_)
                                                generalize wr.drew = w32 at HO_8 HO_10 HO_12 HB HL118_0 HR118_0 HR120_0 hx117_0 hx118_0 hx119_0 hx120_0 hx121_0 hHeld ⊢
                                                refine pure_ (i := 0) (N := some 55) (v := ?_) (a' := ?_) #[true, false, false, false, false, false, false, false, false, false, false, false, false, false, false, false, false, false, false, false, false, false, false, false] rfl rfl (any_of HT_.out (by kernel_rfl)) (fun _ _ _ h => h) (Or.inl ⟨by rfl, ?_⟩) ?_ ?_
                                                rotate_left
                                                · intro w'
                                                  go_simp
                                                  with_reducible rfl
                                                rotate_left
                                                · simp only [Act.put, List.setIfInBounds_toArray, List.set_cons_zero, List.set_cons_succ, i64_w, i32_w]
                                                  rfl
                                                refine pure_ (i := 1) (N := some 56) (v := ?_) (a' := ?_) #[true, true, false, false, false, false, false, false, false, false, false, false, false, false, false, false, false, false, false, false, false, false, false, false] rfl rfl (any_of HT_.out (by kernel_rfl)) (fun _ _ _ h => h) (Or.inl ⟨by rfl, ?_⟩) ?_ ?_
                                                rotate_left
                                                · intro w'
                                                  go_simp
                                                  with_reducible rfl
                                                rotate_left
                                                · simp only [Act.put, List.setIfInBounds_toArray, List.set_cons_zero, List.set_cons_succ, i64_w, i32_w]
                                                  rfl
                                                refine pure_ (i := 2) (N := some 57) (v := ?_) (a' := ?_) #[true, true, true, false, false, false, false, false, false, false, false, false, false, false, false, false, false, false, false, false, false, false, false, false] rfl rfl (any_of HT_.out (by kernel_rfl)) (fun _ _ _ h => h) (Or.inl ⟨by rfl, ?_⟩) ?_ ?_
                                                rotate_left
                                                · intro w'
                                                  go_simp
                                                  with_reducible rfl
                                                rotate_left
                                                · simp only [Act.put, List.setIfInBounds_toArray, List.set_cons_zero, List.set_cons_succ, i64_w, i32_w]
                                                  rfl
                                                refine pure_ (i := 3) (N := some 58) (v := ?_) (a' := ?_) #[true, true, true, true, false, false, false, false, false, false, false, false, false, false, false, false, false, false, false, false, false, false, false, false] rfl rfl (any_of HT_.out (by kernel_rfl)) (fun _ _ _ h => h) (Or.inl ⟨by rfl, ?_⟩) ?_ ?_
                                                rotate_left
                                                · intro w'
                                                  go_simp
                                                  with_reducible rfl
                                                rotate_left
                                                · simp only [Act.put, List.setIfInBounds_toArray, List.set_cons_zero, List.set_cons_succ, i64_w, i32_w]
                                                  rfl
                                                refine pure_ (i := 4) (N := some 59) (v := ?_) (a' := ?_) #[true, true, true, true, true, false, false, false, false, false, false, false, false, false, false, false, false, false, false, false, false, false, false, false] rfl rfl (any_of HT_.out (by kernel_rfl)) (fun _ _ _ h => h) (Or.inl ⟨by rfl, ?_⟩) ?_ ?_
                                                rotate_left
                                                · intro w'
                                                  go_simp
                                                  with_reducible rfl
                                                rotate_left
                                                · simp only [Act.put, List.setIfInBounds_toArray, List.set_cons_zero, List.set_cons_succ, i64_w, i32_w]
                                                  rfl
                                                refine pure_ (i := 6) (N := some 61) (v := ?_) (a' := ?_) #[true, true, true, true, true, false, true, false, false, false, false, false, false, false, false, false, false, false, false, false, false, false, false, false] rfl rfl (any_of HT_.out (by kernel_rfl)) (fun _ _ _ h => h) (Or.inl ⟨by rfl, ?_⟩) ?_ ?_
                                                rotate_left
                                                · intro w'
                                                  go_simp
                                                  with_reducible rfl
                                                rotate_left
                                                · simp only [Act.put, List.setIfInBounds_toArray, List.set_cons_zero, List.set_cons_succ, i64_w, i32_w]
                                                  rfl
                                                refine pure_ (i := 7) (N := some 62) (v := ?_) (a' := ?_) #[true, true, true, true, true, false, true, true, false, false, false, false, false, false, false, false, false, false, false, false, false, false, false, false] rfl rfl (any_of HT_.out (by kernel_rfl)) (fun _ _ _ h => h) (Or.inl ⟨by rfl, ?_⟩) ?_ ?_
                                                rotate_left
                                                · intro w'
                                                  go_simp
                                                  with_reducible rfl
                                                rotate_left
                                                · simp only [Act.put, List.setIfInBounds_toArray, List.set_cons_zero, List.set_cons_succ, i64_w, i32_w]
                                                  rfl
                                                refine pure_ (i := 8) (N := some 63) (v := ?_) (a' := ?_) #[true, true, true, true, true, false, true, true, true, false, false, false, false, false, false, false, false, false, false, false, false, false, false, false] rfl rfl (any_of HT_.out (by kernel_rfl)) (fun _ _ _ h => h) (Or.inl ⟨by rfl, ?_⟩) ?_ ?_
                                                rotate_left
                                                · intro w'
                                                  go_simp
                                                  with_reducible rfl
                                                rotate_left
                                                · simp only [Act.put, List.setIfInBounds_toArray, List.set_cons_zero, List.set_cons_succ, i64_w, i32_w]
                                                  rfl
                                                refine pure_ (i := 10) (N := some 65) (v := ?_) (a' := ?_) #[true, true, true, true, true, false, true, true, true, false, true, false, false, false, false, false, false, false, false, false, false, false, false, false] rfl rfl (any_of HT_.out (by kernel_rfl)) (fun _ _ _ h => h) (Or.inl ⟨by rfl, ?_⟩) ?_ ?_
                                                rotate_left
                                                · intro w'
                                                  go_simp
                                                  with_reducible rfl
                                                rotate_left
                                                · simp only [Act.put, List.setIfInBounds_toArray, List.set_cons_zero, List.set_cons_succ, i64_w, i32_w]
                                                  rfl
                                                refine pure_ (i := 13) (N := some 68) (v := ?_) (a' := ?_) #[true, true, true, true, true, false, true, true, true, false, true, false, false, true, false, false, false, false, false, false, false, false, false, false] rfl rfl (any_of HT_.out (by kernel_rfl)) (fun _ _ _ h => h) (Or.inl ⟨by rfl, ?_⟩) ?_ ?_
                                                rotate_left
                                                · intro w'
                                                  go_simp
                                                  with_reducible rfl
                                                rotate_left
                                                · simp only [Act.put, List.setIfInBounds_toArray, List.set_cons_zero, List.set_cons_succ, i64_w, i32_w]
                                                  rfl
                                                refine pure_ (i := 14) (N := some 69) (v := ?_) (a' := ?_) #[true, true, true, true, true, false, true, true, true, false, true, false, false, true, true, false, false, false, false, false, false, false, false, false] rfl rfl (any_of HT_.out (by kernel_rfl)) (fun _ _ _ h => h) (Or.inl ⟨by rfl, ?_⟩) ?_ ?_
                                                rotate_left
                                                · intro w'
                                                  go_simp
                                                  with_reducible rfl
                                                rotate_left
                                                · simp only [Act.put, List.setIfInBounds_toArray, List.set_cons_zero, List.set_cons_succ, i64_w, i32_w]
                                                  rfl
                                                refine pure_ (i := 15) (N := some 70) (v := ?_) (a' := ?_) #[true, true, true, true, true, false, true, true, true, false, true, false, false, true, true, true, false, false, false, false, false, false, false, false] rfl rfl (any_of HT_.out (by kernel_rfl)) (fun _ _ _ h => h) (Or.inl ⟨by rfl, ?_⟩) ?_ ?_
                                                rotate_left
                                                · intro w'
                                                  go_simp
                                                  with_reducible rfl
                                                rotate_left
                                                · simp only [Act.put, List.setIfInBounds_toArray, List.set_cons_zero, List.set_cons_succ, i64_w, i32_w]
                                                  rfl
                                                refine pure_ (i := 17) (N := some 72) (v := ?_) (a' := ?_) #[true, true, true, true, true, false, true, true, true, false, true, false, false, true, true, true, false, true, false, false, false, false, false, false] rfl rfl (any_of HT_.out (by kernel_rfl)) (fun _ _ _ h => h) (Or.inl ⟨by rfl, ?_⟩) ?_ ?_
                                                rotate_left
                                                · intro w'
                                                  go_simp
                                                  with_reducible rfl
                                                rotate_left
                                                · simp only [Act.put, List.setIfInBounds_toArray, List.set_cons_zero, List.set_cons_succ, i64_w, i32_w]
                                                  rfl
                                                refine take_ (i := 5) (N := some 60) (v := ?_) (a' := ?_) #[true, true, true, true, true, true, true, true, true, false, true, false, false, true, true, true, false, true, false, false, false, false, false, false] rfl rfl (take_ofW HT_.out HW_.out (by kernel_rfl)) (fun _ _ _ h => h) (Or.inl ⟨by rfl, ?_⟩) hHeld ?_ ?_
                                                rotate_left
                                                · rintro w' ⟨s0, s1, s2, s3, s4⟩
                                                  go_simp
                                                  with_reducible rfl
                                                rotate_left
                                                · simp only [Act.put, List.setIfInBounds_toArray, List.set_cons_zero, List.set_cons_succ, i64_w, i32_w]
                                                  rfl
                                                refine take_ (i := 9) (N := some 64) (v := ?_) (a' := ?_) #[true, true, true, true, true, true, true, true, true, true, true, false, false, true, true, true, false, true, false, false, false, false, false, false] rfl rfl (take_ofW HT_.out HW_.out (by kernel_rfl)) (fun _ _ _ h => h) (Or.inl ⟨by rfl, ?_⟩) hHeld ?_ ?_
                                                rotate_left
                                                · rintro w' ⟨s0, s1, s2, s3, s4⟩
                                                  go_simp
                                                  with_reducible rfl
                                                rotate_left
                                                · simp only [Act.put, List.setIfInBounds_toArray, List.set_cons_zero, List.set_cons_succ, i64_w, i32_w]
                                                  rfl
                                                refine pure_ (i := 11) (N := some 66) (v := ?_) (a' := ?_) #[true, true, true, true, true, true, true, true, true, true, true, true, false, true, true, true, false, true, false, false, false, false, false, false] rfl rfl (any_of HT_.out (by kernel_rfl)) (fun _ _ _ h => h) (Or.inl ⟨by rfl, ?_⟩) ?_ ?_
                                                rotate_left
                                                · intro w'
                                                  go_simp
                                                  with_reducible rfl
                                                rotate_left
                                                · simp only [Act.put, List.setIfInBounds_toArray, List.set_cons_zero, List.set_cons_succ, i64_w, i32_w]
                                                  rfl
                                                refine take_ (i := 12) (N := some 67) (v := ?_) (a' := ?_) #[true, true, true, true, true, true, true, true, true, true, true, true, true, true, true, true, false, true, false, false, false, false, false, false] rfl rfl (take_ofW HT_.out HW_.out (by kernel_rfl)) (fun _ _ _ h => h) (Or.inl ⟨by rfl, ?_⟩) hHeld ?_ ?_
                                                rotate_left
                                                · rintro w' ⟨s0, s1, s2, s3, s4⟩
                                                  go_simp
                                                  with_reducible rfl
                                                rotate_left
                                                · simp only [Act.put, List.setIfInBounds_toArray, List.set_cons_zero, List.set_cons_succ, i64_w, i32_w]
                                                  rfl
                                                refine take_ (i := 16) (N := some 71) (v := ?_) (a' := ?_) #[true, true, true, true, true, true, true, true, true, true, true, true, true, true, true, true, true, true, false, false, false, false, false, false] rfl rfl (take_ofW HT_.out HW_.out (by kernel_rfl)) (fun _ _ _ h => h) (Or.inl ⟨by rfl, ?_⟩) hHeld ?_ ?_
                                                rotate_left
                                                · rintro w' ⟨s0, s1, s2, s3, s4⟩
                                                  go_simp
                                                  with_reducible rfl
                                                rotate_left
                                                · simp only [Act.put, List.setIfInBounds_toArray, List.set_cons_zero, List.set_cons_succ, i64_w, i32_w]
                                                  rfl
                                                refine pure_ (i := 18) (N := some 73) (v := ?_) (a' := ?_) #[true, true, true, true, true, true, true, true, true, true, true, true, true, true, true, true, true, true, true, false, false, false, false, false] rfl rfl (any_of HT_.out (by kernel_rfl)) (fun _ _ _ h => h) (Or.inl ⟨by rfl, ?_⟩) ?_ ?_
                                                rotate_left
                                                · intro w'
                                                  go_simp
                                                  with_reducible rfl
                                                rotate_left
                                                · simp only [Act.put, List.setIfInBounds_toArray, List.set_cons_zero, List.set_cons_succ, i64_w, i32_w]
                                                  rfl
                                                refine take_ (i := 19) (N := some 74) (v := ?_) (a' := ?_) #[true, true, true, true, true, true, true, true, true, true, true, true, true, true, true, true, true, true, true, true, false, false, false, false] rfl rfl (take_ofW HT_.out HW_.out (by kernel_rfl)) (fun _ _ _ h => h) (Or.inl ⟨by rfl, ?_⟩) hHeld ?_ ?_
                                                rotate_left
                                                · rintro w' ⟨s0, s1, s2, s3, s4⟩
                                                  go_simp
                                                  with_reducible rfl
                                                rotate_left
                                                · simp only [Act.put, List.setIfInBounds_toArray, List.set_cons_zero, List.set_cons_succ, i64_w, i32_w]
                                                  rfl
                                                refine one_ (i := 20) (N := some 75) #[true, true, true, true, true, true, true, true, true, true, true, true, true, true, true, true, true, true, true, true, true, false, false, false] rfl rfl (one_of HT_.out (by kernel_rfl)) (by decide) (fun K hK => ?_)
                                                refine goes_ Try.func38 (by kernel_rfl) rfl #[.int .u8 (rd (rd_L1 t103 x11_2) x14_4), .int .u8 (rd (rd_L1 l2 x14_4) x13_3)] (by rfl) rfl rfl (by (try simp only [List.map_toArray, List.map_cons, List.map_nil]); first | done | rfl | (simp only [List.length_drop, List.length_take]; rfl)) ?_
                                                with_reducible refine (mooringref01_Mul.calls k4 (rd (rd_L1 t103 x11_2) x14_4) (rd (rd_L1 l2 x14_4) x13_3) t122 _ A30.out).mono ?_
                                                rintro e w' ⟨rfl, ⟨nd, rfl⟩⟩
                                                refine ⟨_, rfl, ?_⟩
                                                have p31 : 0 ≤ (x13_3 : Int) := of_decide_eq_true (by first | (with_reducible assumption) | assumption)
                                                have q31 : (x13_3 : Int) < ((x12_4.length : Int) : Int) := of_decide_eq_true (by first | (with_reducible assumption) | assumption)
                                                obtain ⟨go31, co31, eo31, gb31, gl31, cl31, HG31⟩ := Kd.R_form HO_12.out (by omega)
                                                (first | cases eo31 | (injection eo31 with ea_ en_ ec_; (first | subst ea_ | (injection ea_ with ea_; subst ea_)); subst ec_; clear en_))
                                                have GB31 := Aside0.mk gb31
                                                have GG31 := Aside0.mk HG31
                                                clear gb31 gl31 HG31
                                                (first | simp only [add_plain] at hx117_0 | skip)
                                                obtain ⟨hx31_0, hf31_0⟩ := Kd.R_celln 0 HO_12.out (x13_3 : Int) p31 q31
                                                replace p31 := eq_true p31
                                                replace q31 := eq_true q31
                                                have HP34 := Kd.R_putn HO_12.out (x13_3 : Int) (Go.bits .xor .u8 (rd x12_4 x13_3) t122)
                                                rw [← Ny123.out] at HP34
                                                have HQ34 := Aside0.mk HP34
                                                clear HP34
                                                refine hK.out _ _ ⟨hHeld.1, hHeld.2.1, hHeld.2.2.1, ((HB.out.cell (World.block_lt_of_cell? w _ hw120_0)).trans hw120_0), ((HB.out.cell (World.block_lt_of_cell? w _ hw121_0)).trans hw121_0)⟩ (fun hHeld => ?_)
                                                clear hK K
                                                refine norm_ (a' := ?_) ?_ ?_
                                                rotate_left
                                                · show Act.put _ (some 75) _ = _
                                                  simp only [Act.put, List.setIfInBounds_toArray, List.set_cons_zero, List.set_cons_succ, i64_w, i32_w]
                                                  rfl
                                                refine pure_ (i := 21) (N := some 76) (v := ?_) (a' := ?_) #[true, true, true, true, true, true, true, true, true, true, true, true, true, true, true, true, true, true, true, true, true, true, false, false] rfl rfl (any_of HT_.out (by kernel_rfl)) (fun _ _ _ h => h) (Or.inl ⟨by rfl, ?_⟩) ?_ ?_
                                                rotate_left
                                                · intro w'
                                                  go_simp
                                                  with_reducible rfl
                                                rotate_left
                                                · simp only [Act.put, List.setIfInBounds_toArray, List.set_cons_zero, List.set_cons_succ, i64_w, i32_w]
                                                  rfl
                                                refine pure_ (i := 22) (N := some 77) (v := ?_) (a' := ?_) #[true, true, true, true, true, true, true, true, true, true, true, true, true, true, true, true, true, true, true, true, true, true, true, false] rfl rfl (any_of HT_.out (by kernel_rfl)) (fun _ _ _ h => h) (Or.inl ⟨by rfl, ?_⟩) ?_ ?_
                                                rotate_left
                                                · intro w'
                                                  go_simp
                                                  with_reducible rfl
                                                rotate_left
                                                · simp only [Act.put, List.setIfInBounds_toArray, List.set_cons_zero, List.set_cons_succ, i64_w, i32_w]
                                                  rfl
                                                refine last_ (i := 23) (N := none) #[true, true, true, true, true, true, true, true, true, true, true, true, true, true, true, true, true, true, true, true, true, true, true, true] rfl rfl (one_of HT_.out (by kernel_rfl)) (by decide) (fun K hK => ?_)
                                                refine skip_ (w1 := ?_) (by rfl) rfl ?_ ?_
                                                rotate_left
                                                · go_simp
                                                  rfl
                                                refine hK.out _ _ ?_
                                                clear hK K
                                                refine done_ (done_of HT_.out (by kernel_rfl)) ?_
                                                try go_wp2
                                                (try simp only [← hl12_4])
                                                go_roundg k4
                                                case measure => have := HJ3.out; have := HK2.out; have := HK3.out; have := HK4.out; omega
                                                case rel => exact ⟨(y123), (wrap64 (x14_4 + 1)), (by first | rfl | (simp; done) | (simp [*]; done)), H', ⟨by have := HJ3.out; have := HK2.out; have := HK3.out; have := HK4.out; omega⟩, ⟨by (try simp only [hl12_4]); (with_reducible repeat (first | apply Kd.S_alloc | apply Kd.S_drewN | apply Kd.S_drew)); exact Kd.S_mono (Kd.S_far (p := ⟨go31, (x13_3 : Int).toNat, none⟩) (Kd.S_mono HO_8.out (fun k_ hk => (⟨hk, fun e_ => hk.2 (by rw [e_]; rfl)⟩ : _ ∧ k_ ≠ go31))) (fun _ hk => hk.2) (.int .u8 (Go.bits .xor .u8 (rd x12_4 x13_3) t122))) (fun _ hk => ⟨hk.1.1, hk.1.2⟩)⟩, ⟨by (try simp only [hl12_4]); (with_reducible repeat (first | apply Kd.S_alloc | apply Kd.S_drewN | apply Kd.S_drew)); exact Kd.S_mono (Kd.S_far (p := ⟨go31, (x13_3 : Int).toNat, none⟩) (Kd.S_mono HO_10.out (fun k_ hk => (⟨hk, fun e_ => hk.2 (by rw [e_]; rfl)⟩ : _ ∧ k_ ≠ go31))) (fun _ hk => hk.2) (.int .u8 (Go.bits .xor .u8 (rd x12_4 x13_3) t122))) (fun _ hk => ⟨hk.1.1, hk.1.2⟩)⟩, ⟨by (try simp only [hl12_4]); (with_reducible repeat (first | apply Kd.R_alloc | apply Kd.R_drewN | apply Kd.R_drew)); exact HQ34.out⟩, ⟨by repeat (first | (with_reducible first | exact HB.out | apply below_alloc | apply pw_below_drewN | apply below_drew1 | refine below_set ?_ GB31.out) | exact HB.out)⟩⟩
                                              · rw [if_neg c29] at H
                                                exact absurd H (by simp)
                                            · rw [if_neg c28] at H
                                              exact absurd H (by simp)
                                          · rw [if_neg c27] at H
                                            exact absurd H (by simp)
                                        · rw [if_neg c26] at H
                                          exact absurd H (by simp)
                                      · rw [if_neg c25] at H
                                        exact absurd H (by simp)
                                    · rw [if_neg c24] at H
                                      exact absurd H (by simp)
                                  · rw [if_neg c23] at H
                                    exact absurd H (by simp)
                                · rw [if_neg c22] at H
                                  exact absurd H (by simp)
                              · rw [if_neg c21] at H
                                have c21b0 : decide (x14_4 < a0) = false := decide_eq_false c21
                                (try simp only [hl12_4] at c21b0)
                                clear c21
                                have H' := Aside0.mk H
                                clear H
                                go_wp2
                                (try simp only [← hl12_4])
                                go_roundg k4
                                case measure => have := HJ3.out; have := HK2.out; have := HK3.out; have := HK4.out; omega
                                case rel => exact ⟨(x12_4), (wrap64 (x13_3 + 1)), (by first | rfl | (simp; done) | (simp [*]; done)), H', ⟨by have := HJ3.out; have := HK2.out; have := HK3.out; have := HK4.out; omega⟩, ⟨by (try simp only [hl12_4]); (with_reducible repeat (first | apply Kd.S_alloc | apply Kd.S_drewN | apply Kd.S_drew)); exact HO_8.out⟩, ⟨by (try simp only [hl12_4]); (with_reducible repeat (first | apply Kd.S_alloc | apply Kd.S_drewN | apply Kd.S_drew)); exact HO_10.out⟩, ⟨by (try simp only [hl12_4]); (with_reducible repeat (first | apply Kd.R_alloc | apply Kd.R_drewN | apply Kd.R_drew)); exact HO_12.out⟩, ⟨by repeat (first | (with_reducible first | exact HB.out | apply below_alloc | apply pw_below_drewN | apply below_drew1) | exact HB.out)⟩⟩
                        · rw [if_neg c19] at H
                          have c19b0 : decide (x13_3 < (x12_3.length : Int)) = false := decide_eq_false c19
                          clear c19
                          by_cases c35 : x10_2.length < 5864062014805
                          · rw [if_pos c35] at H
                            have LMc35 := Aside0.mk c35
                            clear c35
                            obtain ⟨y114, hy114⟩ : ∃ y_ : List (List Int), y_ = (x10_2 ++ [x12_3]) := ⟨_, rfl⟩
                            replace H : (mooringref03_Encode.l0 k3 a0 a1 l2 t103 y114 (wrap64 (x11_2 + 1))) = some (r1, r2) := by first | (rw [hy114]; with_reducible exact H) | (have H2_ := (Option.bind_some _ _).symm.trans H; rw [hy114]; with_reducible exact H2_) | (have H2_ := (Option.bind_some _ _).symm.trans H; with_reducible exact H2_) | with_reducible exact H | (rw [hy114]; exact H) | exact H
                            have Ny114 := Aside0.mk hy114
                            clear hy114
                            have H' := Aside0.mk H
                            clear H
                            obtain ⟨Ao36, co36, eo36⟩ := Kd.R_slice HO_12.out
                            subst eo36
                            go_wp2_with (first | ((with_reducible refine gate_builtin (b := .append) (xs := #[.tmp 78, .tmp 80]) rfl ?_); at_builtin; refine Kd.S_append (Kd.slice 5 (Kd.int .u8)) (w0 := w) w.heap.size rfl (.tmp 78) (.tmp 80) 51 22 (.slice none 0 0) 24 rfl Try.underlying51 info22 rfl (by decide) (by omega) u10 x10_2 x12_3 [.slice Ao36 x12_3.length co36] (fun k_ => some k_ ≠ (v105 : Value).ownBlock) (fun k_ => some k_ = (.slice Ao36 x12_3.length co36 : Value).ownBlock) rfl rfl ?aP (fun k_ hk_ => ((Kd.R_mono (ok' := fun k_ => ((fun k_ => some k_ ≠ (v105 : Value).ownBlock)) k_ ∧ some k_ ≠ (u10 : Value).ownBlock) (Kd.R_apart' (Kd.R_apart' (HO_12.out) (Kd.S_typed HO_8.out) (by decide)) (Kd.S_typed HO_10.out) (by decide)) (fun k_ hk => by exact ⟨hk.1.2, hk.2⟩))).1 k_ hk_.symm) ?aF ?aO ?aB ?aS ?aL ?_; (case aP => exact Kd.M_row (Kd.R_mono (Kd.R_tight rfl (Kd.R_mono (ok' := fun k_ => ((fun k_ => some k_ ≠ (v105 : Value).ownBlock)) k_ ∧ some k_ ≠ (u10 : Value).ownBlock) (Kd.R_apart' (Kd.R_apart' (HO_12.out) (Kd.S_typed HO_8.out) (by decide)) (Kd.S_typed HO_10.out) (by decide)) (fun k_ hk => by exact ⟨hk.1.2, hk.2⟩))) (fun _ h_ => h_))); (case aB => exact (by repeat (first | (with_reducible first | exact HB.out | apply below_alloc | apply pw_below_drewN | apply below_drew1) | exact HB.out))); (case aF => exact (fun k_ hk => Kd.fresh' (Kd.S_lt (by (with_reducible repeat (first | apply Kd.S_alloc | apply Kd.S_drewN | apply Kd.S_drew)); exact HO_8.out)) k_ hk)); (case aO => exact (by (with_reducible repeat (first | apply Kd.S_alloc | apply Kd.S_drewN | apply Kd.S_drew)); exact Kd.S_mono HO_10.out (fun k_ hk => by exact ⟨hk.1, fun e_ => hk.2 e_⟩))); (case aS => exact (below_size (by repeat (first | (with_reducible first | exact HB.out | apply below_alloc | apply pw_below_drewN | apply below_drew1) | exact HB.out)))); (case aL => have := LMc35.out; omega); intro v115 w37 ho hb hg hat; rw [← Ny114.out] at ho; have n0_ := Aside0.mk (Kd.S_after (ok := (fun k_ => some k_ ≠ (.slice Ao36 x12_3.length co36 : Value).ownBlock)) (by (with_reducible repeat (first | apply Kd.S_alloc | apply Kd.S_drewN | apply Kd.S_drew)); exact Kd.S_mono HO_8.out (fun _ hk => ⟨hk.2, hk.1⟩)) hg hat); have n1_ := Aside0.mk (hb); have n2_ := Aside0.mk (ho); clear HO_8; clear HB; clear HO_10; clear HO_12; have HO_8 := n0_; have HB := n1_; have HO116 := n2_; clear n0_ n1_ n2_; clear ho hb hg hat))
                            go_roundg k3
                            case measure => have := HJ3.out; have := HK2.out; have := HK3.out; omega
                            case rel => exact ⟨(y114), (wrap64 (x11_2 + 1)), (by first | rfl | (simp; done) | (simp [*]; done)), H', ⟨by have := HJ3.out; have := HK2.out; have := HK3.out; omega⟩, ⟨by (with_reducible repeat (first | apply Kd.S_alloc | apply Kd.S_drewN | apply Kd.S_drew)); exact Kd.S_mono HO_8.out (fun _ hk => hk.2)⟩, ⟨by (with_reducible repeat (first | apply Kd.S_alloc | apply Kd.S_drewN | apply Kd.S_drew)); exact HO116.out⟩, ⟨by repeat (first | (with_reducible first | exact HB.out | apply below_alloc | apply pw_below_drewN | apply below_drew1) | exact HB.out)⟩⟩
                          · rw [if_neg c35] at H
                            exact absurd H (by simp)
                  · rw [if_neg c16] at H
                    exact absurd H (by simp)
                · rw [if_neg c15] at H
                  exact absurd H (by simp)
              · rw [if_neg c14] at H
                exact absurd H (by simp)
            · rw [if_neg c13] at H
              have c13b0 : decide (x11_2 < (wrap64 (a0 + a1))) = false := decide_eq_false c13
              clear c13
              simp only [Option.some.injEq, Prod.mk.injEq] at H
              obtain ⟨rfl, rfl⟩ := H
              go_wp2
              go_ret2
              exact ⟨_, by first | rfl | (simp [errW_none, errW_some] <;> rfl) | (simp [*, errW_none, errW_some] <;> rfl), by (with_reducible repeat (first | apply Kd.S_alloc | apply Kd.S_drewN | apply Kd.S_drew)); exact Kd.S_mono HO_10.out (fun _ hk => trivial), by repeat (first | (with_reducible first | exact HB.out | apply below_alloc | apply pw_below_drewN | apply below_drew1) | exact HB.out)⟩
end Go.Proofs.Ytbogmlckbkogiaa.P
namespace Go.Proofs.Ytbogmlckbkogiaa.Red
open Go.RowKit Go.Proofs.YtbogmlckbkogiaaW.PrintWords Go.Proofs.Ytbogmlckbkogiaa.Leaf Go.Proofs.Ytbogmlckbkogiaa.Gf Go.Proofs.Ytbogmlckbkogiaa.H Go.Proofs.Ytbogmlckbkogiaa.Mx Go.Proofs.Ytbogmlckbkogiaa.P
set_option linter.unusedVariables false
set_option linter.unusedSimpArgs false
/-- A product on its way, row by row. -/
def stC (n m p : Nat) (A C : Mat) (i : Nat) (r : List B) : Mat := (List.range n).map fun a => if a < i then (List.range p).map (mm m (el A) (el C) a) else if a = i then r else []
def rwC (m p : Nat) (A C : Mat) (i k : Nat) : List B := (List.range p).map fun b => sm k (fun l => mul (el A i l) (el C l b))
theorem stC_length (n m p : Nat) (A C : Mat) (i : Nat) (r : List B) : (stC n m p A C i r).length = n := by simp [stC]
theorem row_stC (n m p : Nat) (A C : Mat) (i : Nat) (r : List B) (hi : i < n) : row (stC n m p A C i r) i = r := by
  unfold stC
  rw [row_map _ _ _ hi, if_neg (by omega), if_pos rfl]
theorem stC_set (n m p : Nat) (A C : Mat) (i : Nat) (r s : List B) (hi : i < n) : (stC n m p A C i r).set i s = stC n m p A C i s := by
  refine List.ext_getElem (by simp [stC]) fun a h1 h2 => ?_
  simp only [stC, List.getElem_set, List.getElem_map, List.getElem_range]
  by_cases e : i = a
  · subst e; simp
  · by_cases e2 : a < i
    · simp [e, e2]
    · simp [e, e2, Ne.symm e]
theorem stC_next (n m p : Nat) (A C : Mat) (i : Nat) : stC n m p A C i (rwC m p A C i m) = stC n m p A C (i + 1) [] := by
  refine List.ext_getElem (by simp [stC]) fun a h1 h2 => ?_
  simp only [stC, List.getElem_map, List.getElem_range]
  by_cases e : a < i
  · rw [if_pos e, if_pos (by omega)]
  · rw [if_neg e]
    by_cases e2 : a = i
    · rw [if_pos e2, if_pos (by omega), e2]; rfl
    · rw [if_neg e2, if_neg (by omega)]
      by_cases e3 : a = i + 1
      · rw [if_pos e3]
      · rw [if_neg e3]
theorem stC_all (n m p : Nat) (A C : Mat) : stC n m p A C n [] = matF n p (mm m (el A) (el C)) := by
  unfold stC matF
  exact List.map_congr_left fun a ha => if_pos (List.mem_range.1 ha)
theorem rwC_step (m p : Nat) (A C : Mat) (hC : Reg C m p) (i k : Nat) (hk : k < m) : am (rwC m p A C i k) (row C k) (el A i k) (rwC m p A C i k).length = rwC m p A C i (k + 1) := by
  refine ext0 (by rw [am_length]; simp [rwC]) fun b hb => ?_
  rw [am_length] at hb
  have hb' : b < p := by simpa [rwC] using hb
  rw [am_at _ _ _ _ hb]
  unfold rwC
  rw [at0_map _ _ _ hb', at0_map _ _ _ hb']
  simp only [sm]
  rw [mul_comm (el A i k)]
  rfl
theorem comb_l1 {n m p : Nat} {A C : Mat} (hA : Reg A n m) (hC : Reg C m p) (hn : n ≤ 255) (hm : m ≤ 255) (hp : p ≤ 140737488355327) (r : List (List Int)) (i : Nat) (hi : i < n)
    (hnext : Ev (fun k => code_combine.l0 k (oM C) (oM (stC n m p A C (i + 1) [])) (oM A) (n : Int) ((i + 1 : Nat) : Int)) r) (d : Nat) : ∀ k : Nat, k + d = m →
    Ev (fun f => code_combine.l1 f (oM C) (oM (stC n m p A C i (rwC m p A C i k))) (i : Int) (oM A) (n : Int) (i : Int) (ofL (row A i)) (m : Int) (k : Int)) r := by
  induction d with
  | zero =>
    intro k hk
    obtain rfl : k = m := by omega
    refine Ev.step (f := fun f => code_combine.l0 f (oM C) (oM (stC n k p A C (i + 1) [])) (oM A) (n : Int) ((i + 1 : Nat) : Int)) (fun f => ?_) hnext
    simp only [code_combine.l1]
    rw [if_neg (by omega), stC_next, w64 _ (by omega) (by omega)]
    rfl
  | succ d ih =>
    intro k hk
    have hl : (rwC m p A C i k).length = p := by simp [rwC]
    refine Ev.step (f := fun f => (gf_AddMul.f f (ofL (rwC m p A C i k)) (ofL (row C k)) (ofB (el A i k))).bind fun bt112 => code_combine.l1 f (oM C) ((oM (stC n m p A C i (rwC m p A C i k))).set i bt112.1) (i : Int) (oM A) (n : Int) (i : Int) (ofL (row A i)) (m : Int) ((k + 1 : Nat) : Int)) (fun f => ?_) ?_
    · simp only [code_combine.l1, ofL_length, oM_length, rd_oM, rd_ofL, hA.2 i hi, stC_length, hC.1, Int.toNat_natCast, row_stC _ _ _ _ _ _ _ hi]
      rw [if_pos (by omega), if_pos (by omega), if_pos (by omega), if_pos (by omega), if_pos (by omega), if_pos (by omega), w64 _ (by omega) (by omega)]
      rfl
    · refine Ev.bind (gfAddMul _ _ _ (by rw [hl]; omega)) ?_
      unfold addMulB
      rw [if_pos (by rw [hl, hC.2 k (by omega)])]
      simp only []
      rw [oM_set, stC_set _ _ _ _ _ _ _ _ hi, rwC_step m p A C hC i k (by omega)]
      exact ih (k + 1) (by omega)
theorem comb_l0 {n m p : Nat} {A C : Mat} (hA : Reg A n m) (hC : Reg C m p) (hn : n ≤ 255) (hm0 : 0 < m) (hm : m ≤ 255) (hp : p ≤ 140737488355327) (d : Nat) : ∀ i : Nat, i + d = n →
    Ev (fun k => code_combine.l0 k (oM C) (oM (stC n m p A C i [])) (oM A) (n : Int) (i : Int)) (oM (matF n p (mm m (el A) (el C)))) := by
  induction d with
  | zero =>
    intro i hi
    obtain rfl : i = n := by omega
    refine Ev.step (f := fun _ => some (oM (matF i p (mm m (el A) (el C))))) (fun k => ?_) (Ev.now _)
    simp only [code_combine.l0]
    rw [if_neg (by omega), stC_all]
  | succ d ih =>
    intro i hi
    refine Ev.step (f := fun f => code_combine.l1 f (oM C) (oM (stC n m p A C i (rwC m p A C i 0))) (i : Int) (oM A) (n : Int) (i : Int) (ofL (row A i)) (m : Int) ((0 : Nat) : Int)) (fun f => ?_) (comb_l1 hA hC hn hm hp _ i (by omega) (ih (i + 1) (by omega)) m 0 (by omega))
    simp only [code_combine.l0, oM_length, rd_oM, rd_oM0, ofL_length, hA.1, hA.2 i (by omega), hC.1, hC.2 0 hm0, stC_length, Int.toNat_natCast]
    have e : List.replicate p (0 : Int) = ofL (rwC m p A C i 0) := by
      rw [ofL_replicate]
      congr 1
      refine List.ext_getElem (by simp [rwC]) fun b h1 h2 => ?_
      simp [rwC, sm]
    rw [if_pos (by omega), if_pos (by omega), if_pos (by omega), if_pos (by omega), if_pos (by omega), if_pos (by omega), if_pos (by omega), e, oM_set, stC_set _ _ _ _ _ _ _ _ (by omega)]
    rfl
theorem evCombine {n m p : Nat} {A C : Mat} (hA : Reg A n m) (hC : Reg C m p) (hn : n ≤ 255) (hm0 : 0 < m) (hm : m ≤ 255) (hp : p ≤ 140737488355327) : Ev (fun k => code_combine.f k (oM A) (oM C)) (oM (mulM A C)) := by
  unfold code_combine.f
  simp only [oM_length, hA.1, Int.toNat_natCast, show ((0 : Int) ≤ (n : Int)) = True from eq_true (by omega), if_true, show (n ≤ 11728124029610) = True from eq_true (by omega)]
  have e : List.replicate n ([] : List Int) = oM (stC n m p A C 0 []) := by
    unfold oM
    refine List.ext_getElem (by simp [stC]) fun a h1 h2 => ?_
    simp [stC]
    rfl
  rw [e]
  have e2 : mulM A C = matF n p (mm m (el A) (el C)) := by unfold mulM; rw [hA.1, hC.1, hC.2 0 hm0]
  rw [e2]
  exact comb_l0 hA hC hn hm0 hm hp n 0 (by omega)
def evenB (D : Mat) (n : Int) : Bool := ((D.length : Int) == n) && (List.range D.length).all fun i => (row D i).length == (row D 0).length
theorem evenB_iff (D : Mat) (k : Nat) : evenB D (k : Int) = true ↔ Reg D k (row D 0).length := by
  unfold evenB Reg
  simp only [Bool.and_eq_true, beq_iff_eq, List.all_eq_true, List.mem_range]
  constructor
  · rintro ⟨h1, h2⟩
    have e : D.length = k := by omega
    exact ⟨e, fun i hi => h2 i (by omega)⟩
  · rintro ⟨h1, h2⟩
    exact ⟨by omega, fun i hi => h2 i (by omega)⟩
theorem code_even_eq (D : Mat) (n : Int) (hn : 0 < n) : code_even.f (oM D) n = some (evenB D n) := by
  unfold code_even.f evenB
  rw [oM_length, decide_eq_true hn, Bool.and_true]
  congr 1
  congr 1
  rw [List.not_any_eq_all_not]
  refine List.all_congr rfl ?_
  intro i
  unfold unevenAt
  have e : ∀ j, (oM D).getD j [] = ofL (row D j) := fun j => map_getD D j
  rw [e, e, ofL_length, ofL_length, Bool.eq_iff_iff]
  simp only [Bool.not_eq_true', bne_eq_false_iff_eq, beq_iff_eq]
  omega
theorem even_ok (D : Mat) (hs : D.length ≤ 9223372036854775807) (h : ∀ j, j < D.length → (row D j).length = (row D 0).length) (n : Nat) : ∀ i : Nat, i + n = D.length → Ev (fun k => mooringref03_even.l0 k (oM D) (i : Int)) true := by
  induction n with
  | zero =>
    intro i hi
    refine Ev.step (f := fun _ => some true) (fun k => ?_) (Ev.now _)
    simp only [mooringref03_even.l0, oM_length]
    rw [if_neg (by omega)]
  | succ n ih =>
    intro i hi
    have hi' := h i (by omega)
    refine Ev.step (f := fun k => mooringref03_even.l0 k (oM D) ((i + 1 : Nat) : Int)) (fun k => ?_) (ih (i + 1) (by omega))
    simp only [mooringref03_even.l0, oM_length, rd_oM, rd_oM0, ofL_length]
    rw [if_pos (by omega), if_pos (by omega), if_pos (by omega), if_pos (by omega), w64 _ (by omega) (by omega)]
    rfl
theorem even_bad (D : Mat) (hs : D.length ≤ 9223372036854775807) (j : Nat) (hj : j < D.length) (hne : (row D j).length ≠ (row D 0).length) (n : Nat) : ∀ i : Nat, i + n = j → Ev (fun k => mooringref03_even.l0 k (oM D) (i : Int)) false := by
  induction n with
  | zero =>
    intro i hi
    obtain rfl : i = j := by omega
    refine Ev.step (f := fun _ => some false) (fun k => ?_) (Ev.now _)
    simp only [mooringref03_even.l0, oM_length, rd_oM, rd_oM0, ofL_length]
    rw [if_pos (by omega), if_pos (by omega), if_pos (by omega), if_neg (by omega)]
  | succ n ih =>
    intro i hi
    by_cases he : (row D i).length = (row D 0).length
    · refine Ev.step (f := fun k => mooringref03_even.l0 k (oM D) ((i + 1 : Nat) : Int)) (fun k => ?_) (ih (i + 1) (by omega))
      simp only [mooringref03_even.l0, oM_length, rd_oM, rd_oM0, ofL_length]
      rw [if_pos (by omega), if_pos (by omega), if_pos (by omega), if_pos (by omega), w64 _ (by omega) (by omega)]
      rfl
    · refine Ev.step (f := fun _ => some false) (fun k => ?_) (Ev.now _)
      simp only [mooringref03_even.l0, oM_length, rd_oM, rd_oM0, ofL_length]
      rw [if_pos (by omega), if_pos (by omega), if_pos (by omega), if_neg (by omega)]
theorem evRefEven (D : Mat) (hs : D.length ≤ 9223372036854775807) (n : Int) : Ev (fun k => mooringref03_even.f k (oM D) n) (evenB D n) := by
  unfold mooringref03_even.f evenB
  simp only [oM_length]
  by_cases h1 : (D.length : Int) = n
  · simp only [h1, if_true, beq_self_eq_true, Bool.true_and]
    by_cases h2 : ∀ j, j < D.length → (row D j).length = (row D 0).length
    · rw [show ((List.range D.length).all fun i => (row D i).length == (row D 0).length) = true by simpa [List.all_eq_true] using h2]
      exact even_ok D hs h2 D.length 0 (by omega)
    · obtain ⟨j, hj, hne⟩ := uneven h2
      rw [show ((List.range D.length).all fun i => (row D i).length == (row D 0).length) = false by
        rw [List.all_eq_false]
        exact ⟨j, List.mem_range.2 hj, by simpa using hne⟩]
      exact even_bad D hs j hj hne j 0 (by omega)
  · simp only [h1, if_false]
    rw [beq_eq_false_iff_ne.2 h1, Bool.false_and]
    exact Ev.now _
def codeB (a b : Int) : Bool := decide (1 ≤ a) && decide (1 ≤ b) && decide (b ≤ 255 - a)
theorem code_eq (a b : Int) (ha : -9223372036854775808 ≤ a) : mooringref03_Code.f a b = some (codeB a b) := by
  unfold mooringref03_Code.f codeB
  by_cases h1 : a ≥ 1
  · rw [if_pos h1, decide_eq_true (show 1 ≤ a from h1)]
    by_cases h2 : b ≥ 1
    · rw [if_pos h2, decide_eq_true (show 1 ≤ b from h2)]
      by_cases h3 : a ≤ 254
      · rw [if_pos h3, w64 _ (by omega) (by omega)]; simp
      · rw [if_neg h3, decide_eq_false (by omega)]; rfl
    · rw [if_neg h2, decide_eq_false (show ¬ 1 ≤ b by omega)]; rw [Bool.and_false, Bool.false_and]
  · rw [if_neg h1, decide_eq_false (show ¬ 1 ≤ a by omega), Bool.false_and, Bool.false_and]
theorem codeB_form (a b : Int) : (codeB a b = true ∧ ∃ k m : Nat, a = (k : Int) ∧ b = (m : Int) ∧ 1 ≤ k ∧ 1 ≤ m ∧ k + m ≤ 255 ∧ cauR a b = (oM (cauM k m), 0)) ∨ (codeB a b = false ∧ cauR a b = (oM [], 1)) := by
  unfold codeB cauR
  by_cases h : 1 ≤ a ∧ 1 ≤ b ∧ b ≤ 255 - a
  · rw [if_pos h]
    exact .inl ⟨by simp [h], a.toNat, b.toNat, by omega, by omega, by omega, by omega, by omega, rfl⟩
  · rw [if_neg h]
    refine .inr ⟨?_, rfl⟩
    rw [← Bool.not_eq_true]
    simpa [and_assoc] using h
def encR (a b : Int) (D : Mat) : List (List Int) × Int := if codeB a b = true ∧ evenB D a = true then (oM (mulM (cauM a.toNat b.toNat) D), 0) else ([], 1)
theorem evEncode (a b : Int) (ha : -9223372036854775808 ≤ a) (D : Mat) (hr : ∀ i, i < D.length → (row D i).length ≤ 140737488355327) : Ev (fun k => code_Encode.f k a b (oM D)) (encR a b D) := by
  unfold code_Encode.f encR
  refine Ev.bind (evCauchy a b ha) ?_
  rcases codeB_form a b with ⟨h1, k, m, rfl, rfl, hk, hm, h, e⟩ | ⟨h1, e⟩
  · rw [e]
    simp only [if_true, h1, true_and, code_even_eq D (k : Int) (by omega), Option.bind_some]
    by_cases h2 : evenB D (k : Int) = true
    · simp only [h2, if_true, Int.toNat_natCast]
      have hD := (evenB_iff D k).1 h2
      refine Ev.bind (evCombine (cauM_reg k m) hD h (by omega) (by omega) (by have := hr 0 (by rw [hD.1]; omega); omega)) ?_
      exact Ev.now _
    · simp only [h2, if_false]
      exact Ev.now _
  · rw [e]
    simp only [h1, show ((1 : Int) = 0) = False from eq_false (by decide), if_false, Bool.false_eq_true, false_and]
    exact Ev.now _
theorem enc_l2 {n k p : Nat} {A D : Mat} (hA : Reg A n k) (hD : Reg D k p) (hk : k ≤ 255) (hp : p ≤ 140737488355327) (a0 a1 : Int) (ha : a0 = (k : Int)) (r : List (List Int) × Int) (X : List (List Int)) (i : Nat) (hi : i < n) (R : List B) (at_ : Nat) (hat : at_ < p) (hR : R.length = p)
    (hnext : Ev (fun f => mooringref03_Encode.l1 f a0 a1 (oM D) (oM A) X (i : Int) (ofL (R.set at_ (mm k (el A) (el D) i at_))) ((at_ + 1 : Nat) : Int)) r) (d : Nat) : ∀ j : Nat, j + d = k →
    Ev (fun f => mooringref03_Encode.l2 f a0 a1 (oM D) (oM A) X (i : Int) (ofL (R.set at_ (sm j (fun l => mul (el A i l) (el D l at_))))) (at_ : Int) (j : Int)) r := by
  induction d with
  | zero =>
    intro j hj
    obtain rfl : j = k := by omega
    refine Ev.step (f := fun f => mooringref03_Encode.l1 f a0 a1 (oM D) (oM A) X (i : Int) (ofL (R.set at_ (mm j (el A) (el D) i at_))) ((at_ + 1 : Nat) : Int)) (fun f => ?_) hnext
    simp only [mooringref03_Encode.l2, ha]
    rw [if_neg (by omega), w64 _ (by omega) (by omega)]
    rfl
  | succ d ih =>
    intro j hj
    refine Ev.step (f := fun f => (mooringref01_Mul.f f (ofB (el A i j)) (ofB (el D j at_))).bind fun t122 => mooringref03_Encode.l2 f a0 a1 (oM D) (oM A) X (i : Int) ((ofL (R.set at_ (sm j (fun l => mul (el A i l) (el D l at_))))).set at_ (Go.bits .xor .u8 (ofB (sm j (fun l => mul (el A i l) (el D l at_)))) t122)) (at_ : Int) ((j + 1 : Nat) : Int)) (fun f => ?_) ?_
    · have e : at0 (R.set at_ (sm j (fun l => mul (el A i l) (el D l at_)))) at_ = sm j (fun l => mul (el A i l) (el D l at_)) := by rw [at0_set _ _ _ _ (by omega), if_pos rfl]
      simp only [mooringref03_Encode.l2, oM_length, hA.1, hD.1, rd_oM, rd_ofL, ofL_length, List.length_set, hA.2 i hi, hD.2 j (by omega), hR, Int.toNat_natCast, e, ha]
      rw [if_pos (by omega), if_pos (by omega), if_pos (by omega), if_pos (by omega), if_pos (by omega), if_pos (by omega), if_pos (by omega), if_pos (by omega), if_pos (by omega), w64 _ (by omega) (by omega)]
      rfl
    · refine Ev.bind (refMul _ _) ?_
      rw [xor_ofB, ofL_set, List.set_set]
      exact ih (j + 1) (by omega)
def rwE (k p : Nat) (A D : Mat) (i at_ : Nat) : List B := (List.range p).map fun b => if b < at_ then mm k (el A) (el D) i b else 0#8
theorem rwE_set (k p : Nat) (A D : Mat) (i at_ : Nat) (h : at_ < p) : (rwE k p A D i at_).set at_ (mm k (el A) (el D) i at_) = rwE k p A D i (at_ + 1) := by
  refine ext0 (by simp [rwE]) fun b hb => ?_
  rw [List.length_set] at hb
  have hb' : b < p := by simpa [rwE] using hb
  have e : ∀ c, at0 (rwE k p A D i c) b = if b < c then mm k (el A) (el D) i b else 0#8 := fun c => at0_map _ _ _ hb'
  rw [at0_set _ _ _ _ (by simpa [rwE] using h), e, e]
  by_cases e1 : at_ = b
  · subst e1
    rw [if_pos rfl, if_pos (by omega)]
  · rw [if_neg e1]
    by_cases e2 : b < at_
    · rw [if_pos e2, if_pos (by omega)]
    · rw [if_neg e2, if_neg (by omega)]
theorem rwE_zero (k p : Nat) (A D : Mat) (i at_ : Nat) (h : at_ < p) : (rwE k p A D i at_).set at_ 0#8 = rwE k p A D i at_ := by
  refine ext0 (by simp [rwE]) fun b hb => ?_
  rw [List.length_set] at hb
  have hb' : b < p := by simpa [rwE] using hb
  have e : ∀ c, at0 (rwE k p A D i c) b = if b < c then mm k (el A) (el D) i b else 0#8 := fun c => at0_map _ _ _ hb'
  rw [at0_set _ _ _ _ (by simpa [rwE] using h), e]
  by_cases e1 : at_ = b
  · rw [if_pos e1, if_neg (by omega)]
  · rw [if_neg e1]
theorem enc_l1 {n k p : Nat} {A D : Mat} (hA : Reg A n k) (hD : Reg D k p) (hn : n ≤ 255) (hk : k ≤ 255) (hp : p ≤ 140737488355327) (a0 a1 : Int) (ha : a0 = (k : Int)) (r : List (List Int) × Int) (i : Nat) (hi : i < n)
    (hnext : Ev (fun f => mooringref03_Encode.l0 f a0 a1 (oM D) (oM A) (oM (matF (i + 1) p (mm k (el A) (el D)))) ((i + 1 : Nat) : Int)) r) (d : Nat) : ∀ at_ : Nat, at_ + d = p →
    Ev (fun f => mooringref03_Encode.l1 f a0 a1 (oM D) (oM A) (oM (matF i p (mm k (el A) (el D)))) (i : Int) (ofL (rwE k p A D i at_)) (at_ : Int)) r := by
  induction d with
  | zero =>
    intro at_ hat
    obtain rfl : at_ = p := by omega
    refine Ev.step (f := fun f => mooringref03_Encode.l0 f a0 a1 (oM D) (oM A) (oM (matF (i + 1) at_ (mm k (el A) (el D)))) ((i + 1 : Nat) : Int)) (fun f => ?_) hnext
    have hl : (rwE k at_ A D i at_).length = at_ := by simp [rwE]
    have e : rwE k at_ A D i at_ = (List.range at_).map (mm k (el A) (el D) i) := List.map_congr_left fun b hb => if_pos (List.mem_range.1 hb)
    have e2 : matF i at_ (mm k (el A) (el D)) ++ [(List.range at_).map (mm k (el A) (el D) i)] = matF (i + 1) at_ (mm k (el A) (el D)) := by unfold matF; rw [List.range_succ, List.map_append]; rfl
    simp only [mooringref03_Encode.l1, ofL_length, hl, oM_length, (matF_reg i at_ (mm k (el A) (el D))).1]
    rw [if_neg (by omega), if_pos (by omega), oM_one, oM_append, e, e2, w64 _ (by omega) (by omega)]
    rfl
  | succ d ih =>
    intro at_ hat
    have hl : (rwE k p A D i at_).length = p := by simp [rwE]
    refine Ev.step (f := fun f => mooringref03_Encode.l2 f a0 a1 (oM D) (oM A) (oM (matF i p (mm k (el A) (el D)))) (i : Int) (ofL ((rwE k p A D i at_).set at_ (sm 0 (fun l => mul (el A i l) (el D l at_))))) (at_ : Int) ((0 : Nat) : Int)) (fun f => ?_) (enc_l2 hA hD hk hp a0 a1 ha r _ i hi _ at_ (by omega) hl ?_ k 0 (by omega))
    · simp only [mooringref03_Encode.l1, ofL_length, hl, sm, rwE_zero k p A D i at_ (by omega)]
      rw [if_pos (by omega)]
      rfl
    · rw [rwE_set k p A D i at_ (by omega)]
      exact ih (at_ + 1) (by omega)
theorem enc_l0 {n k p : Nat} {A D : Mat} (hA : Reg A n k) (hD : Reg D k p) (hn : n ≤ 255) (hk0 : 0 < k) (hk : k ≤ 255) (hp : p ≤ 140737488355327) (a0 a1 : Int) (ha : a0 = (k : Int)) (hw : wrap64 (a0 + a1) = (n : Int)) (d : Nat) : ∀ i : Nat, i + d = n →
    Ev (fun f => mooringref03_Encode.l0 f a0 a1 (oM D) (oM A) (oM (matF i p (mm k (el A) (el D)))) (i : Int)) (oM (matF n p (mm k (el A) (el D))), 0) := by
  induction d with
  | zero =>
    intro i hi
    obtain rfl : i = n := by omega
    refine Ev.step (f := fun _ => some (oM (matF i p (mm k (el A) (el D))), 0)) (fun f => ?_) (Ev.now _)
    simp only [mooringref03_Encode.l0, hw]
    rw [if_neg (by omega)]
  | succ d ih =>
    intro i hi
    refine Ev.step (f := fun f => mooringref03_Encode.l1 f a0 a1 (oM D) (oM A) (oM (matF i p (mm k (el A) (el D)))) (i : Int) (ofL (rwE k p A D i 0)) ((0 : Nat) : Int)) (fun f => ?_) (enc_l1 hA hD hn hk hp a0 a1 ha _ i (by omega) (ih (i + 1) (by omega)) p 0 (by omega))
    have e : List.replicate p (0 : Int) = ofL (rwE k p A D i 0) := by
      rw [ofL_replicate]
      congr 1
      refine List.ext_getElem (by simp [rwE]) fun b h1 h2 => ?_
      simp [rwE]
    simp only [mooringref03_Encode.l0, hw, oM_length, hD.1, rd_oM0, ofL_length, hD.2 0 hk0, Int.toNat_natCast]
    rw [if_pos (by omega), if_pos (by omega), if_pos (by omega), if_pos (by omega), e]
    rfl
theorem evRefEncode (a b : Int) (ha : -9223372036854775808 ≤ a) (D : Mat) (hs : D.length ≤ 9223372036854775807) (hr : ∀ i, i < D.length → (row D i).length ≤ 140737488355327) : Ev (fun k => mooringref03_Encode.f k a b (oM D)) (encR a b D) := by
  have j1 : Ev (fun f => mooringref03_Encode.j0 f a b (oM D) true) ([], 1) := Ev.step (f := fun _ => some ([], 1)) (fun f => by simp only [mooringref03_Encode.j0, if_true]) (Ev.now _)
  unfold mooringref03_Encode.f encR
  simp only [code_eq a b ha, Option.bind_some]
  rcases codeB_form a b with ⟨h1, k, m, rfl, rfl, hk, hm, h, e⟩ | ⟨h1, e⟩
  · simp only [h1, if_true, true_and]
    refine Ev.bind (evRefEven D hs (k : Int)) ?_
    by_cases h2 : evenB D (k : Int) = true
    · simp only [h2, if_true, Bool.not_true, Int.toNat_natCast]
      have hD := (evenB_iff D k).1 h2
      refine Ev.step (f := fun f => (mooringref02_Cauchy.f f (k : Int) (m : Int)).bind fun bt103 => mooringref03_Encode.l0 f (k : Int) (m : Int) (oM D) bt103.1 [] 0) (fun f => by simp only [mooringref03_Encode.j0, Bool.false_eq_true, if_false]) ?_
      refine Ev.bind (evRefCauchy (k : Int) (m : Int) (by omega)) ?_
      rw [e]
      simp only []
      have e2 : mulM (cauM k m) D = matF (k + m) (row D 0).length (mm k (el (cauM k m)) (el D)) := by unfold mulM; rw [(cauM_reg k m).1, hD.1]
      rw [e2]
      exact enc_l0 (cauM_reg k m) hD h (by omega) (by omega) (by have := hr 0 (by rw [hD.1]; omega); omega) (k : Int) (m : Int) rfl (by rw [w64 _ (by omega) (by omega)]; omega) (k + m) 0 (by omega)
    · simp only [h2, Bool.false_eq_true, if_false, Bool.not_false]
      exact j1
  · simp only [h1, Bool.false_eq_true, if_false, false_and]
    exact j1
end Go.Proofs.Ytbogmlckbkogiaa.Red
namespace Go.Proofs.Ytbogmlckbkogiaa.P
open Go.Proofs.Ytbogmlckbkogiaa.Leaf
open Go.RowKit Go.Proofs.YtbogmlckbkogiaaW.PrintWords Go.Proofs.YtbogmlckbkogiaaW.PrintLast Go.Proofs.YtbogmlckbkogiaaW.PrintMore
attribute [local go_sem] max2_int min2_int max_two min_two max_three min_three max_four min_four   -- for this text's walks alone
set_option linter.unusedVariables false
set_option linter.unusedSimpArgs false
def stripe_is.f (a0 : Int) (a1 : Int) : Option (Bool) := if a0 ≥ 1 then (if a1 ≥ 1 then (if a0 ≤ 254 then (some (decide (a1 ≤ (wrap64 (255 - a0))))) else (some false)) else (some false)) else (some false)
set_option maxHeartbeats 8000000 in
set_option maxRecDepth 100000 in
theorem stripe_is.calls (a0 : Int) (a1 : Int) (r : Bool) (w : World) (h : stripe_is.f a0 a1 = some r) :
    Calls Try.prog 93 #[.int .i64 a0, .int .i64 a1] w fun e w' => e = .returned (.bool r) ∧ Drawn0 w w' := by
  have H : (if a0 ≥ 1 then (if a1 ≥ 1 then (if a0 ≤ 254 then (some (decide (a1 ≤ (wrap64 (255 - a0))))) else (some false)) else (some false)) else (some false)) = some r := h
  clear h
  by_cases c3 : a0 ≥ 1
  · rw [if_pos c3] at H
    have c3b0 : decide (1 ≤ a0) = true := decide_eq_true c3
    clear c3
    by_cases c4 : a1 ≥ 1
    · rw [if_pos c4] at H
      have c4b0 : decide (1 ≤ a1) = true := decide_eq_true c4
      clear c4
      by_cases c5 : a0 ≤ 254
      · rw [if_pos c5] at H
        have c5b0 : decide (a0 ≤ 254) = true := decide_eq_true c5
        clear c5
        obtain rfl := Option.some.inj H
        go_enter Try.func93, Try.ntmps93
        go_wp2
        go_ret
        exact ⟨by first | rfl | (simp; done) | (simp [*]; done), by repeat (first | exact Drawn0.refl _ | apply Drawn0.step)⟩
      · rw [if_neg c5] at H
        have c5b0 : decide (a0 ≤ 254) = false := decide_eq_false c5
        clear c5
        obtain rfl := Option.some.inj H
        go_enter Try.func93, Try.ntmps93
        go_wp2
        go_ret
        exact ⟨by first | rfl | (simp; done) | (simp [*]; done), by repeat (first | exact Drawn0.refl _ | apply Drawn0.step)⟩
    · rw [if_neg c4] at H
      have c4b0 : decide (1 ≤ a1) = false := decide_eq_false c4
      clear c4
      obtain rfl := Option.some.inj H
      go_enter Try.func93, Try.ntmps93
      go_wp2
      go_ret
      exact ⟨by first | rfl | (simp; done) | (simp [*]; done), by repeat (first | exact Drawn0.refl _ | apply Drawn0.step)⟩
  · rw [if_neg c3] at H
    have c3b0 : decide (1 ≤ a0) = false := decide_eq_false c3
    clear c3
    obtain rfl := Option.some.inj H
    go_enter Try.func93, Try.ntmps93
    go_wp2
    go_ret
    exact ⟨by first | rfl | (simp; done) | (simp [*]; done), by repeat (first | exact Drawn0.refl _ | apply Drawn0.step)⟩
end Go.Proofs.Ytbogmlckbkogiaa.P
namespace Go.Proofs.Ytbogmlckbkogiaa.P
open Go.Proofs.Ytbogmlckbkogiaa.Leaf
open Go.RowKit Go.Proofs.YtbogmlckbkogiaaW.PrintWords Go.Proofs.YtbogmlckbkogiaaW.PrintLast Go.Proofs.YtbogmlckbkogiaaW.PrintMore
attribute [local go_sem] max2_int min2_int max_two min_two max_three min_three max_four min_four   -- for this text's walks alone
set_option linter.unusedVariables false
set_option linter.unusedSimpArgs false
mutual
def mooringref20_Length.j0 : Nat → Int → Int → Bool → Option (Int × Int)
  | 0, _, _, _ => none
  | k + 1, x0, x1, x16 => if x16 = true then (some (0, 1)) else (if x1 > 4096 then (some (0, 3)) else (mooringref20_Length.l0 k x0 x1 0))
def mooringref20_Length.l0 : Nat → Int → Int → Int → Option (Int × Int)
  | 0, _, _, _ => none
  | k + 1, x0, x1, x6 => if (wrap64 ((wrap64 (x6 * x0)) * 16)) < x1 then (mooringref20_Length.l0 k x0 x1 (wrap64 (x6 + 1))) else (some (wrap64 (x6 * 16), 0))
end
def mooringref20_Length.f (k : Nat) (a0 : Int) (a1 : Int) : Option (Int × Int) := if a0 < 1 then (mooringref20_Length.j0 k a0 a1 true) else (if a0 > 254 then (mooringref20_Length.j0 k a0 a1 true) else (mooringref20_Length.j0 k a0 a1 (decide (a1 < 0))))
theorem mooringref20_Length.mono_l : ∀ k, (∀ y0 y1 y2, LeO (mooringref20_Length.j0 k y0 y1 y2) (mooringref20_Length.j0 (k + 1) y0 y1 y2)) ∧ (∀ y0 y1 y2, LeO (mooringref20_Length.l0 k y0 y1 y2) (mooringref20_Length.l0 (k + 1) y0 y1 y2))
  | 0 => ⟨fun _ _ _ r h => by simp [mooringref20_Length.j0] at h, fun _ _ _ r h => by simp [mooringref20_Length.l0] at h⟩
  | k + 1 => by
    obtain ⟨ih0, ih1⟩ := mooringref20_Length.mono_l k
    refine ⟨?_, ?_⟩
    · intro y0 y1 y2
      unfold mooringref20_Length.j0
      repeat' first
      | (with_reducible exact ih0 _ _ _)
      | (with_reducible exact ih1 _ _ _)
      | (with_reducible exact LeO.refl _)
      | (with_reducible exact LeO.none _)
      | (with_reducible refine LeO.ite ?_ ?_)
      | (with_reducible refine LeO.bind ?_ (fun _ => ?_))
      | exact ih0 _ _ _
      | exact ih1 _ _ _
      | exact LeO.none _
      | refine LeO.ite ?_ ?_
      | refine LeO.bind ?_ (fun _ => ?_)
    · intro y0 y1 y2
      unfold mooringref20_Length.l0
      repeat' first
      | (with_reducible exact ih0 _ _ _)
      | (with_reducible exact ih1 _ _ _)
      | (with_reducible exact LeO.refl _)
      | (with_reducible exact LeO.none _)
      | (with_reducible refine LeO.ite ?_ ?_)
      | (with_reducible refine LeO.bind ?_ (fun _ => ?_))
      | exact ih0 _ _ _
      | exact ih1 _ _ _
      | exact LeO.none _
      | refine LeO.ite ?_ ?_
      | refine LeO.bind ?_ (fun _ => ?_)
theorem mooringref20_Length.mono : ∀ a0 a1 k, LeO (mooringref20_Length.f k a0 a1) (mooringref20_Length.f (k + 1) a0 a1) := by
  intro a0 a1 k
  obtain ⟨ih0, ih1⟩ := mooringref20_Length.mono_l k
  unfold mooringref20_Length.f
  repeat' first
      | (with_reducible exact ih0 _ _ _)
      | (with_reducible exact ih1 _ _ _)
      | (with_reducible exact LeO.refl _)
      | (with_reducible exact LeO.none _)
      | (with_reducible refine LeO.ite ?_ ?_)
      | (with_reducible refine LeO.bind ?_ (fun _ => ?_))
      | exact ih0 _ _ _
      | exact ih1 _ _ _
      | exact LeO.none _
      | refine LeO.ite ?_ ?_
      | refine LeO.bind ?_ (fun _ => ?_)
set_option maxHeartbeats 8000000 in
set_option maxRecDepth 100000 in
theorem mooringref20_Length.calls (k : Nat) (a0 : Int) (a1 : Int) (r1 : Int) (r2 : Int) (w : World) (h : mooringref20_Length.f k a0 a1 = some (r1, r2)) :
    Calls Try.prog 59 #[.int .i64 a0, .int .i64 a1] w fun e w' => e = .returned (.tuple #[.int .i64 r1, .int .i64 r2]) ∧ Drawn0 w w' := by
  have H : (if a0 < 1 then (mooringref20_Length.j0 k a0 a1 true) else (if a0 > 254 then (mooringref20_Length.j0 k a0 a1 true) else (mooringref20_Length.j0 k a0 a1 (decide (a1 < 0))))) = some (r1, r2) := h
  clear h
  have HC3 := Aside0.mk H
  clear H
  go_enter Try.func59, Try.ntmps59
  go_upto_region 1 with (fail)
  go_cut [16] (fun v16 wc => ∃ (kq : Nat) (x16_2 : Bool), v16 = .bool x16_2 ∧ Aside0 (mooringref20_Length.j0 kq a0 a1 x16_2 = some (r1, r2)) ∧ Aside0 (kq ≤ k) ∧ Drawn0 w wc)
  case first =>
    have H := HC3.out
    clear HC3
    by_cases c4 : a0 < 1
    · rw [if_pos c4] at H
      have c4b0 : decide (a0 < 1) = true := decide_eq_true c4
      clear c4
      (first | rw [c4b0] | (simp only [i64_w, i32_w]; rw [c4b0]) | skip)
      have H' := Aside0.mk H
      clear H
      go_wp2
      go_meet
      case rel => exact ⟨_, (true), (by first | rfl | (simp; done) | (simp [*]; done)), H', ⟨by first | omega | exact Nat.le_refl _⟩, by repeat (first | exact Drawn0.refl _ | apply Drawn0.step)⟩
    · rw [if_neg c4] at H
      have c4b0 : decide (a0 < 1) = false := decide_eq_false c4
      clear c4
      (first | rw [c4b0] | (simp only [i64_w, i32_w]; rw [c4b0]) | skip)
      by_cases c5 : a0 > 254
      · rw [if_pos c5] at H
        have c5b0 : decide (254 < a0) = true := decide_eq_true c5
        clear c5
        have H' := Aside0.mk H
        clear H
        go_wp2
        go_meet
        case rel => exact ⟨_, (true), (by first | rfl | (simp; done) | (simp [*]; done)), H', ⟨by first | omega | exact Nat.le_refl _⟩, by repeat (first | exact Drawn0.refl _ | apply Drawn0.step)⟩
      · rw [if_neg c5] at H
        have c5b0 : decide (254 < a0) = false := decide_eq_false c5
        clear c5
        have H' := Aside0.mk H
        clear H
        go_wp2
        go_meet
        case rel => exact ⟨_, (decide (a1 < 0)), (by first | rfl | (simp; done) | (simp [*]; done)), H', ⟨by first | omega | exact Nat.le_refl _⟩, by repeat (first | exact Drawn0.refl _ | apply Drawn0.step)⟩
  case rest =>
    clear HC3
    try clear p2
    try clear c4
    try clear c4b0
    try clear c5
    try clear c5b0
    obtain ⟨kq, x16_2, rfl, HA, HJ2, ⟨mc2, rfl⟩⟩ := hcut
    cases kq with
    | zero => exact absurd HA.out (by simp [mooringref20_Length.j0])
    | succ kj2 =>
      have H := HA.out
      clear HA
      simp only [mooringref20_Length.j0] at H
      by_cases c6 : x16_2 = true
      · subst c6
        have H1 : (some (0, 1)) = some (r1, r2) := by rw [if_pos rfl] at H; exact H
        clear H
        have H := H1
        clear H1
        simp only [Option.some.injEq, Prod.mk.injEq] at H
        obtain ⟨rfl, rfl⟩ := H
        go_wp2
        go_ret2
        exact ⟨by first | rfl | (simp; done) | (simp [*]; done), by repeat (first | exact Drawn0.refl _ | apply Drawn0.step)⟩
      · replace c6 := Bool.eq_false_iff.mpr c6
        subst c6
        have H1 : (if a1 > 4096 then (some (0, 3)) else (mooringref20_Length.l0 kj2 a0 a1 0)) = some (r1, r2) := by rw [if_neg (show ¬ (false = true) by decide)] at H; exact H
        clear H
        have H := H1
        clear H1
        by_cases c7 : a1 > 4096
        · rw [if_pos c7] at H
          have c7b0 : decide (4096 < a1) = true := decide_eq_true c7
          clear c7
          simp only [Option.some.injEq, Prod.mk.injEq] at H
          obtain ⟨rfl, rfl⟩ := H
          go_wp2
          go_ret2
          exact ⟨by first | rfl | (simp; done) | (simp [*]; done), by repeat (first | exact Drawn0.refl _ | apply Drawn0.step)⟩
        · rw [if_neg c7] at H
          have c7b0 : decide (4096 < a1) = false := decide_eq_false c7
          clear c7
          have H' := Aside0.mk H
          clear H
          go_wp2
          go_loopg [6] kj2 (fun kq v6 w' => ∃ (x6_2 : Int), v6 = .int .i64 x6_2 ∧ Aside0 (mooringref20_Length.l0 kq a0 a1 x6_2 = some (r1, r2)) ∧ Aside0 (kq ≤ kj2) ∧ Drawn0 w w')
          case atStart => exact ⟨(0), (by first | rfl | (simp; done) | (simp [*]; done)), H', ⟨Nat.le_refl _⟩, by repeat (first | exact Drawn0.refl _ | apply Drawn0.step)⟩
          case round =>
            clear H'
            try clear c2
            try clear p2
            try clear c4
            try clear c4b0
            try clear c5
            try clear c5b0
            try clear c6
            try clear c7
            try clear c7b0
            try clear p2
            obtain ⟨x6_2, rfl, HA, HK2, ⟨m2, rfl⟩⟩ := hrel
            cases gk with
            | zero => exact absurd HA.out (by simp [mooringref20_Length.l0])
            | succ k2 =>
              have H := HA.out
              clear HA
              simp only [mooringref20_Length.l0] at H
              by_cases c8 : (wrap64 ((wrap64 (x6_2 * a0)) * 16)) < a1
              · rw [if_pos c8] at H
                have c8b0 : decide ((wrap64 ((wrap64 (x6_2 * a0)) * 16)) < a1) = true := decide_eq_true c8
                clear c8
                have H' := Aside0.mk H
                clear H
                go_wp2
                go_roundg k2
                case measure => have := HJ2.out; have := HK2.out; omega
                case rel => exact ⟨(wrap64 (x6_2 + 1)), (by first | rfl | (simp; done) | (simp [*]; done)), H', ⟨by have := HJ2.out; have := HK2.out; omega⟩, by repeat (first | exact Drawn0.refl _ | apply Drawn0.step)⟩
              · rw [if_neg c8] at H
                have c8b0 : decide ((wrap64 ((wrap64 (x6_2 * a0)) * 16)) < a1) = false := decide_eq_false c8
                clear c8
                simp only [Option.some.injEq, Prod.mk.injEq] at H
                obtain ⟨rfl, rfl⟩ := H
                go_wp2
                go_ret2
                exact ⟨by first | rfl | (simp; done) | (simp [*]; done), by repeat (first | exact Drawn0.refl _ | apply Drawn0.step)⟩
end Go.Proofs.Ytbogmlckbkogiaa.P
namespace Go.Proofs.Ytbogmlckbkogiaa.Red
open Go.RowKit Go.Proofs.YtbogmlckbkogiaaW.PrintWords Go.Proofs.Ytbogmlckbkogiaa.Leaf Go.Proofs.Ytbogmlckbkogiaa.Gf Go.Proofs.Ytbogmlckbkogiaa.H Go.Proofs.Ytbogmlckbkogiaa.Mx Go.Proofs.Ytbogmlckbkogiaa.P
set_option linter.unusedVariables false
set_option linter.unusedSimpArgs false
/-- How many stripes. -/
def nS (k n : Nat) : Nat := (n + k * 16 - 1) / (k * 16)
def lenS (k n : Nat) : Nat := nS k n * 16
theorem nS_spec (k n : Nat) (hk : 0 < k) : n ≤ nS k n * (k * 16) ∧ ∀ s, s < nS k n → s * (k * 16) < n := by
  unfold nS
  have hp : 0 < k * 16 := by omega
  constructor
  · have h1 := Nat.div_add_mod (n + k * 16 - 1) (k * 16)
    have h2 := Nat.mod_lt (n + k * 16 - 1) hp
    rw [Nat.mul_comm] at h1
    omega
  · intro s hs
    have h1 : (s + 1) * (k * 16) ≤ n + k * 16 - 1 := Nat.le_trans (Nat.mul_le_mul_right _ hs) (Nat.div_mul_le_self _ _)
    rw [Nat.add_mul, Nat.one_mul] at h1
    omega
theorem nS_le (k n : Nat) (hk : 0 < k) : nS k n ≤ n := by
  apply Classical.byContradiction
  intro h
  have h1 := (nS_spec k n hk).2 n (by omega)
  have h2 : n * 1 ≤ n * (k * 16) := Nat.mul_le_mul_left _ (by omega)
  omega
def lenR (a b : Int) : Int × Int := if 1 ≤ a ∧ a ≤ 254 ∧ 0 ≤ b then (if b > 4096 then (0, 3) else ((lenS a.toNat b.toNat : Nat), 0)) else (0, 1)
theorem evLength (a b : Int) : Ev (fun f => stripe_Length.f f a b) (lenR a b) := by
  have j1 : Ev (fun f => stripe_Length.j0 f a b true) (0, 1) := Ev.step (f := fun _ => some (0, 1)) (fun f => by simp only [stripe_Length.j0, if_true]) (Ev.now _)
  unfold stripe_Length.f lenR
  by_cases h1 : a < 1
  · simp only [show (a < 1) = True from eq_true h1, if_true]
    rw [if_neg (by omega)]
    exact j1
  simp only [show (a < 1) = False from eq_false h1, if_false]
  by_cases h2 : a > 254
  · simp only [show (a > 254) = True from eq_true h2, if_true]
    rw [if_neg (by omega)]
    exact j1
  simp only [show (a > 254) = False from eq_false h2, if_false]
  by_cases h3 : b < 0
  · simp only [show decide (b < 0) = true from decide_eq_true h3]
    rw [if_neg (by omega)]
    exact j1
  simp only [show decide (b < 0) = false from decide_eq_false h3]
  rw [if_pos (by omega)]
  by_cases h4 : b > 4096
  · rw [if_pos h4]
    exact Ev.step (f := fun _ => some (0, 3)) (fun f => by simp only [stripe_Length.j0, Bool.false_eq_true, if_false]; rw [if_pos h4]) (Ev.now _)
  · rw [if_neg h4]
    obtain ⟨k, rfl⟩ := Int.eq_ofNat_of_zero_le (show 0 ≤ a by omega)
    obtain ⟨n, rfl⟩ := Int.eq_ofNat_of_zero_le (show 0 ≤ b by omega)
    rw [Int.toNat_natCast, Int.toNat_natCast]
    refine Ev.step (f := fun _ => some (((lenS k n : Nat) : Int), 0)) (fun f => ?_) (Ev.now _)
    simp only [stripe_Length.j0, Bool.false_eq_true, if_false, stripe_stripes.f]
    rw [if_neg h4, w64 ((k : Int) * 16) (by omega) (by omega), if_neg (by omega), Option.bind_some, w64 ((n : Int) + (k : Int) * 16) (by omega) (by omega), w64 ((n : Int) + (k : Int) * 16 - 1) (by omega) (by omega), Int.tdiv_eq_ediv_of_nonneg (by omega)]
    have hq : ((n : Int) + (k : Int) * 16 - 1) / ((k : Int) * 16) = ((nS k n : Nat) : Int) := by
      unfold nS
      rw [Int.natCast_ediv]
      congr 1
      omega
    have hle := nS_le k n (by omega)
    rw [hq, w64 (nS k n : Int) (by omega) (by omega), w64 _ (by omega) (by omega)]
    unfold lenS
    rw [Int.natCast_mul]
    rfl
theorem is_eq (a b : Int) : stripe_is.f a b = some (codeB a b) := by
  unfold stripe_is.f codeB
  by_cases h1 : a ≥ 1
  · rw [if_pos h1, decide_eq_true (show 1 ≤ a from h1)]
    by_cases h2 : b ≥ 1
    · rw [if_pos h2, decide_eq_true (show 1 ≤ b from h2)]
      by_cases h3 : a ≤ 254
      · rw [if_pos h3, w64 _ (by omega) (by omega)]; simp
      · rw [if_neg h3, decide_eq_false (by omega)]; rfl
    · rw [if_neg h2, decide_eq_false (show ¬ 1 ≤ b by omega)]; rw [Bool.and_false, Bool.false_and]
  · rw [if_neg h1, decide_eq_false (show ¬ 1 ≤ a by omega), Bool.false_and, Bool.false_and]
theorem refLen_l0 (k n : Nat) (hk : 0 < k) (hk2 : k ≤ 254) (hn : n ≤ 4096) (d : Nat) : ∀ s : Nat, s + d = nS k n → Ev (fun f => mooringref20_Length.l0 f (k : Int) (n : Int) (s : Int)) (((lenS k n : Nat) : Int), 0) := by
  have hle := nS_le k n hk
  have hmul : ∀ s : Nat, s ≤ 4096 → wrap64 ((wrap64 ((s : Int) * (k : Int))) * 16) = ((s * (k * 16) : Nat) : Int) := by
    intro s hs
    have h1 : s * k ≤ 4096 * 254 := Nat.mul_le_mul hs hk2
    rw [show ((s : Int) * (k : Int)) = ((s * k : Nat) : Int) by rw [Int.natCast_mul], w64 ((s * k : Nat) : Int) (by omega) (by omega), w64 _ (by omega) (by omega), ← Nat.mul_assoc, Int.natCast_mul (s * k) 16]
    rfl
  induction d with
  | zero =>
    intro s hs
    obtain rfl : s = nS k n := by omega
    refine Ev.step (f := fun _ => some (((lenS k n : Nat) : Int), 0)) (fun f => ?_) (Ev.now _)
    simp only [mooringref20_Length.l0]
    rw [hmul _ (by omega), if_neg (by have := (nS_spec k n hk).1; omega), w64 _ (by omega) (by omega)]
    unfold lenS
    rw [Int.natCast_mul]
    rfl
  | succ d ih =>
    intro s hs
    refine Ev.step (f := fun f => mooringref20_Length.l0 f (k : Int) (n : Int) ((s + 1 : Nat) : Int)) (fun f => ?_) (ih (s + 1) (by omega))
    simp only [mooringref20_Length.l0]
    rw [hmul _ (by omega), if_pos (by have := (nS_spec k n hk).2 s (by omega); omega), w64 _ (by omega) (by omega)]
    rfl
theorem evRefLength (a b : Int) : Ev (fun f => mooringref20_Length.f f a b) (lenR a b) := by
  have j1 : Ev (fun f => mooringref20_Length.j0 f a b true) (0, 1) := Ev.step (f := fun _ => some (0, 1)) (fun f => by simp only [mooringref20_Length.j0, if_true]) (Ev.now _)
  unfold mooringref20_Length.f lenR
  by_cases h1 : a < 1
  · simp only [show (a < 1) = True from eq_true h1, if_true]
    rw [if_neg (by omega)]
    exact j1
  simp only [show (a < 1) = False from eq_false h1, if_false]
  by_cases h2 : a > 254
  · simp only [show (a > 254) = True from eq_true h2, if_true]
    rw [if_neg (by omega)]
    exact j1
  simp only [show (a > 254) = False from eq_false h2, if_false]
  by_cases h3 : b < 0
  · simp only [show decide (b < 0) = true from decide_eq_true h3]
    rw [if_neg (by omega)]
    exact j1
  simp only [show decide (b < 0) = false from decide_eq_false h3]
  rw [if_pos (by omega)]
  by_cases h4 : b > 4096
  · rw [if_pos h4]
    exact Ev.step (f := fun _ => some (0, 3)) (fun f => by simp only [mooringref20_Length.j0, Bool.false_eq_true, if_false]; rw [if_pos h4]) (Ev.now _)
  · rw [if_neg h4]
    obtain ⟨k, rfl⟩ := Int.eq_ofNat_of_zero_le (show 0 ≤ a by omega)
    obtain ⟨n, rfl⟩ := Int.eq_ofNat_of_zero_le (show 0 ≤ b by omega)
    rw [Int.toNat_natCast, Int.toNat_natCast]
    exact Ev.step (f := fun f => mooringref20_Length.l0 f (k : Int) (n : Int) ((0 : Nat) : Int)) (fun f => by simp only [mooringref20_Length.j0, Bool.false_eq_true, if_false]; rw [if_neg h4]; rfl) (refLen_l0 k n (by omega) (by omega) (by omega) (nS k n) 0 (by omega))
end Go.Proofs.Ytbogmlckbkogiaa.Red
namespace Go.Proofs.Ytbogmlckbkogiaa.H
open Go.RowKit Go.Proofs.YtbogmlckbkogiaaW.PrintWords Go.Proofs.Ytbogmlckbkogiaa.Leaf Go.Proofs.Ytbogmlckbkogiaa.Gf
set_option linter.unusedVariables false
set_option linter.unusedSimpArgs false
def byteRow (l : List Int) : Bool := l.all fun x => decide (0 ≤ x) && decide (x < 256)
theorem byteRow_ofL (L : List B) : byteRow (ofL L) = true := by
  unfold byteRow ofL
  simp only [List.all_map, List.all_eq_true, Function.comp, Bool.and_eq_true, decide_eq_true_eq]
  exact fun x _ => ofB_range x
theorem ofL_toB (l : List Int) (h : byteRow l = true) : ofL (l.map toB) = l := by
  unfold ofL
  rw [List.map_map]
  refine (List.map_congr_left fun x hx => ?_).trans (List.map_id' l)
  have := List.all_eq_true.1 h x hx
  simp only [Bool.and_eq_true, decide_eq_true_eq] at this
  exact ofB_toB x this.1 this.2
end Go.Proofs.Ytbogmlckbkogiaa.H
namespace Go.Proofs.Ytbogmlckbkogiaa.H
open Go.RowKit Go.Proofs.YtbogmlckbkogiaaW.PrintWords Go.Proofs.YtbogmlckbkogiaaW.PrintLast Go.Proofs.Ytbogmlckbkogiaa.Leaf Go.Proofs.Ytbogmlckbkogiaa.Gf Go.Proofs.Ytbogmlckbkogiaa.Red Go.Proofs.Ytbogmlckbkogiaa.P
set_option linter.unusedVariables false
set_option linter.unusedSimpArgs false
def splR (a b : Int) (L : List B) : List (List Int) × Int := if codeB a b = true then (if L.length > 4096 then ([], 3) else encR a b (spM a.toNat (lenS a.toNat L.length) L)) else ([], 1)
def stripe_Split.f (a0 : Int) (a1 : Int) (l2 : List Int) : Option (List (List Int) × Int) := if -9223372036854775808 ≤ a0 ∧ byteRow l2 = true then some (splR a0 a1 (l2.map toB)) else none
theorem stripe_Split.f_ofL (a b : Int) (ha : -9223372036854775808 ≤ a) (L : List B) : stripe_Split.f a b (ofL L) = some (splR a b L) := by
  unfold stripe_Split.f
  rw [if_pos ⟨ha, byteRow_ofL L⟩]
  congr 2
  unfold ofL
  rw [List.map_map]
  exact (List.map_congr_left fun x _ => toB_ofB x).trans (List.map_id' L)
theorem Mp.fresh {W : World} {base k : Nat} (hb : base ≤ W.heap.size) (hk : k ≤ 255) : Mp (W.alloc (.cells (madeCells #[.slice none 0 0] k) 22 (0, 0))) base W.heap.size k k (fun _ => 0) (fun _ => 0) [] := by
  have h := own_made_of (enc := fun v : Value => v) (d := .slice none 0 0) W base 22 k hb (by omega)
  refine ⟨⟨fun _ => .slice none 0 0, ?_⟩, fun i hi => absurd hi (Nat.not_lt_zero _), fun i j hi => absurd hi (Nat.not_lt_zero _), Nat.zero_le _⟩
  have e : encs (fun j => if j < ([] : List (List Int)).length then sl (fun _ => 0) (fun _ => 0) [] j else (.slice none 0 0 : Value)) (List.range k) = encs (fun v : Value => v) (List.replicate k (.slice none 0 0)) := by
    unfold encs
    refine List.ext_getElem (by simp) fun j h1 h2 => ?_
    simp
  rw [e]
  exact h
theorem Rw.fresh {W : World} {base n : Nat} (hb : base ≤ W.heap.size) (hn : n ≤ 9223372036854775807) : Rw (W.alloc (.cells (madeCells #[.int .u8 0] n) 5 (0, 0))) base W.heap.size n (ofL (List.replicate n 0#8)) := by
  have h := own_made_of (enc := Value.int .u8) (d := (0 : Int)) W base 5 n hb hn
  unfold Rw
  rw [ofL_length, List.length_replicate, ← ofL_replicate]
  exact h
theorem code_form {a b : Int} (h : codeB a b = true) : ∃ k m : Nat, a = (k : Int) ∧ b = (m : Int) ∧ 1 ≤ k ∧ 1 ≤ m ∧ k + m ≤ 255 := by
  rcases codeB_form a b with ⟨_, k, m, h1, h2, h3, h4, h5, _⟩ | ⟨h1, _⟩
  · exact ⟨k, m, h1, h2, h3, h4, h5⟩
  · rw [h1] at h; cases h
theorem lo_hi_run (b n c lo : Nat) (h : lo + 16 ≤ n) (hc : n ≤ c) (x y : Int) (hx : x = (lo : Int)) (hy : y = ((lo + 16 : Nat) : Int)) : ∀ W : World, (Instr.slice 22 (.slice (some ⟨b, 0, none⟩) n c) (some (.int .i64 x)) (some (.int .i64 y)) none).run Try.prog W = .ok (.slice (some ⟨b, lo, none⟩) 16 (c - lo)) W := by
  intro W
  subst hx hy
  obtain ⟨i0, hi, hz⟩ := Option.map_eq_some_iff.1 Go.Proofs.Ytbogmlckbkogiaa.P.info5
  simp only [Prod.mk.injEq] at hz
  have hel : Try.prog.elem 22 = 5 := by simp [Program.elem, Try.underlying22]
  have hu : Try.prog.underlying 22 = some (.slice (Try.prog.elem 22)) := by rw [hel]; exact Try.underlying22
  rw [run_slice_lh W 22 _ n c hu .i64 .i64 (lo : Int) ((lo + 16 : Nat) : Int) (by omega) (by omega) (by omega), hel]
  have hcd : c ≠ lo := by omega
  simp [sizeOf, typeInfo, hi, hz.2.1, sliced, Result.andThen, hcd, Addr.add]
  exact ⟨fun e => e.symm, by omega⟩
theorem from_run (ad : Addr) (n c at_ : Nat) (h : at_ < n) (hc : n ≤ c) (x : Int) (hx : x = (at_ : Int)) : ∀ W : World, (Instr.slice 22 (.slice (some ad) n c) (some (.int .i64 x)) none none).run Try.prog W = .ok (.slice (some (ad.add at_)) (n - at_) (c - at_)) W := by
  intro W
  subst hx
  obtain ⟨i0, hi, hz⟩ := Option.map_eq_some_iff.1 Go.Proofs.Ytbogmlckbkogiaa.P.info5
  simp only [Prod.mk.injEq] at hz
  have hel : Try.prog.elem 22 = 5 := by simp [Program.elem, Try.underlying22]
  have hu : Try.prog.underlying 22 = some (.slice (Try.prog.elem 22)) := by rw [hel]; exact Try.underlying22
  rw [run_slice_l W 22 _ n c hu .i64 (at_ : Int) (by omega) (by omega), hel]
  have hcd : c ≠ at_ := by omega
  simp [sizeOf, typeInfo, hi, hz.2.1, sliced, Result.andThen, hcd]
theorem src_cells {w W : World} {ad : Addr} {L : List B} (h : Kd.C (Kd.int .u8) w (some ad) (ofL L).length (ofL L)) (hb : Below w.heap.size w W) (at_ : Nat) : ∀ j v, (encs (Value.int .u8) (ofL ((L.drop at_).take 16)))[j]? = some v → W.cell? ((ad.add at_).add j) = some v := by
  intro j v hj
  unfold encs at hj
  rw [List.getElem?_map] at hj
  obtain ⟨x, hx, rfl⟩ := Option.map_eq_some_iff.1 hj
  have hjl := (List.getElem?_eq_some_iff.1 hx).1
  rw [ofL_length, List.length_take, List.length_drop] at hjl
  obtain ⟨ad', e, hc⟩ := Kd.at_int h ((at_ + j : Nat) : Int) (by omega) (by rw [ofL_length]; omega)
  cases e
  rw [Int.toNat_natCast] at hc
  have e2 : (ad.add at_).add j = ad.add (at_ + j) := by by_cases h1 : at_ = 0 <;> by_cases h2 : j = 0 <;> simp [Addr.add, h1, h2, Nat.add_assoc]
  rw [e2]
  have hc2 := pw_cell_below hb hc
  rw [hc2, rd_ofL]
  unfold ofL at hx
  rw [List.getElem?_map] at hx
  obtain ⟨y, hy, rfl⟩ := Option.map_eq_some_iff.1 hx
  rw [List.getElem?_take, List.getElem?_drop] at hy
  unfold at0
  rw [List.getD_eq_getElem?_getD]
  split at hy
  · rw [hy]; rfl
  · cases hy
theorem ofL_splice (L : List B) (off : Nat) (cs : List B) : ofL (Go.splice L off cs) = Go.splice (ofL L) off (ofL cs) := by
  unfold Go.splice ofL
  rw [List.map_append, List.map_append, List.map_take, List.map_drop, List.length_map]
def rowsTo (k n : Nat) (L : List B) (i : Nat) : List (List Int) := (List.range i).map fun j => ofL (spR k n L j (n / 16))
theorem rowsTo_length (k n : Nat) (L : List B) (i : Nat) : (rowsTo k n L i).length = i := by simp [rowsTo]
theorem rowsTo_next (k n : Nat) (L : List B) (i : Nat) : rowsTo k n L i ++ [ofL (spR k n L i (n / 16))] = rowsTo k n L (i + 1) := by unfold rowsTo; rw [List.range_succ, List.map_append]; rfl
theorem rowsTo_all (k n : Nat) (L : List B) : rowsTo k n L k = oM (spM k n L) := by unfold rowsTo oM spM; rw [List.map_map]; rfl
set_option maxHeartbeats 8000000 in
set_option maxRecDepth 100000 in
theorem stripe_Split.calls (a0 : Int) (a1 : Int) (A2 : Option Addr) (c2 : Nat) (l2 : List Int) (r1 : List (List Int)) (r2 : Int) (w : World) (hr2 : Kd.C (Kd.int .u8) w A2 l2.length l2) (hc2 : l2.length ≤ c2) (h : stripe_Split.f a0 a1 l2 = some (r1, r2)) :
    Calls Try.prog 62 #[.int .i64 a0, .int .i64 a1, .slice A2 l2.length c2] w fun e w' => ∃ v0_ : Value, e = .returned (.tuple #[v0_, .int .i64 r2]) ∧ Kd.N (Kd.slice 5 (Kd.int .u8)) 22 w' w.heap.size (fun k_ => (w.heap.size ≤ k_)) v0_ r1 ∧ Below w.heap.size w w' := by
  unfold stripe_Split.f at h
  by_cases hby : -9223372036854775808 ≤ a0 ∧ byteRow l2 = true
  · rw [if_pos hby] at h
    have hsp := Option.some.inj h
    obtain ⟨L, hL⟩ : ∃ L, L = l2.map toB := ⟨_, rfl⟩
    have hl2 : l2 = ofL L := by rw [hL]; exact (ofL_toB l2 hby.2).symm
    rw [← hL] at hsp
    clear hL h
    subst hl2
    have hlen : (ofL L).length = L.length := ofL_length L
    have his : Aside0 (∀ W, Calls Try.prog 93 #[.int .i64 a0, .int .i64 a1] W fun e w' => e = .returned (.bool (codeB a0 a1)) ∧ Drawn0 W w') := ⟨fun W => stripe_is.calls a0 a1 _ W (is_eq a0 a1)⟩
    unfold splR at hsp
    have ha0 := hby.1
    clear hby
    cases hcb : codeB a0 a1 with
    | false =>
      rw [hcb] at hsp his
      rw [if_neg (by decide)] at hsp
      obtain ⟨rfl, rfl⟩ := Prod.mk.inj hsp
      clear hsp hr2
      go_enter Try.func62, Try.ntmps62
      go_wp2_with fail
      refine (his.out _).mono ?_
      rintro e w' ⟨rfl, ⟨nq, rfl⟩⟩
      clear his
      go_wp2
      go_ret2
      exact ⟨_, rfl, Kd.N_nil _ _ _ _ _, pw_below_drewN (Below.refl _ _) nq⟩
    | true =>
      obtain ⟨k, m, rfl, rfl, hk, hm, hkm⟩ := code_form hcb
      rw [hcb, if_pos rfl] at hsp
      rw [hcb] at his
      rw [Int.toNat_natCast] at hsp
      have hLen : Aside0 (∀ W, Calls Try.prog 58 #[.int .i64 (k : Int), .int .i64 (L.length : Int)] W fun e w' => e = .returned (.tuple #[.int .i64 (lenR (k : Int) (L.length : Int)).1, .int .i64 (lenR (k : Int) (L.length : Int)).2]) ∧ Drawn0 W w') := ⟨fun W => by
        obtain ⟨f, hf⟩ := (evLength (k : Int) (L.length : Int)).rounds
        exact stripe_Length.calls f _ _ _ _ W hf⟩
      rw [hlen]
      rw [hlen] at hc2
      unfold lenR at hLen
      rw [if_pos (by omega)] at hLen
      by_cases hbig : L.length > 4096
      · rw [if_pos hbig] at hsp
        rw [if_pos (by omega)] at hLen
        obtain ⟨rfl, rfl⟩ := Prod.mk.inj hsp
        clear hsp hr2
        go_enter Try.func62, Try.ntmps62
        go_wp2_with fail
        refine (his.out _).mono ?_
        rintro e w' ⟨rfl, ⟨nq, rfl⟩⟩
        clear his
        go_wp2_with fail
        refine (hLen.out _).mono ?_
        rintro e w' ⟨rfl, ⟨nq2, rfl⟩⟩
        clear hLen
        go_wp2
        go_ret2
        exact ⟨_, rfl, Kd.N_nil _ _ _ _ _, pw_below_drewN (Below.refl _ _) (nq + nq2)⟩
      · rw [if_neg hbig] at hsp
        rw [if_neg (by omega), Int.toNat_natCast, Int.toNat_natCast] at hLen
        obtain ⟨n, hn⟩ : ∃ n, n = lenS k L.length := ⟨_, rfl⟩
        rw [← hn] at hsp hLen
        have hu : n = nS k L.length * 16 := hn
        have hnb : n ≤ 70000 := by have := nS_le k L.length (by omega); omega
        obtain ⟨u, hu2⟩ : ∃ u, u = n / 16 := ⟨_, rfl⟩
        have hnu : n = u * 16 := by omega
        have hub : u ≤ 4096 := by have := nS_le k L.length (by omega); omega
        have HU := Aside0.mk hu2
        have HSP := Aside0.mk hsp
        have HC := Aside0.mk hr2
        clear hn hu hu2 hsp hr2 hcb
        have hd1 : ((n : Int) / 16) = (u : Int) := by omega
        have hd2 : Int.tdiv (n : Int) 16 = (u : Int) := by rw [Int.tdiv_eq_ediv_of_nonneg (by omega)]; exact hd1
        have hmk1 := print_make_of (P := Try.prog) 51 22 (.slice none 0 0) 24 Try.underlying51 Go.Proofs.Ytbogmlckbkogiaa.P.info22 rfl (by decide) k (by omega)
        have hmk2 := print_make_of (P := Try.prog) 22 5 (.int .u8 0) 1 Try.underlying22 Go.Proofs.Ytbogmlckbkogiaa.P.info5 rfl (by decide) n (by omega)
        have hnn : (0 : Int) ≤ (n : Int) := by omega
        have HNU := Aside0.mk hnu
        clear hnu
        go_enter Try.func62, Try.ntmps62
        go_wp2_with fail
        refine (his.out _).mono ?_
        rintro e w' ⟨rfl, ⟨nq, rfl⟩⟩
        clear his
        go_wp2_with fail
        refine (hLen.out _).mono ?_
        rintro e w' ⟨rfl, ⟨nq2, rfl⟩⟩
        clear hLen
        have HM0 : Aside0 (Mp ((w.drewN (nq + nq2)).alloc (.cells (madeCells #[.slice none 0 0] k) 22 (0, 0))) w.heap.size w.heap.size k k (fun _ => 0) (fun _ => 0) []) := ⟨Mp.fresh (W := w.drewN (nq + nq2)) (Nat.le_refl _) (by omega)⟩
        have HB0 : Aside0 (Below w.heap.size w ((w.drewN (nq + nq2)).alloc (.cells (madeCells #[.slice none 0 0] k) 22 (0, 0)))) := ⟨below_alloc (pw_below_drewN (Below.refl _ _) _) _⟩
        go_wp2
        go_loopg [32] k (fun gg v32 w' => ∃ (i : Nat) (id cap : Nat → Nat), i + gg = k ∧ v32 = .int .i64 (i : Int) ∧ Aside0 (Mp w' w.heap.size w.heap.size k k id cap (rowsTo k n L i)) ∧ Aside0 (Below w.heap.size w w'))
        case atStart => exact ⟨0, _, _, Nat.zero_add _, rfl, HM0, HB0⟩
        case round =>
          clear HM0 HB0
          obtain ⟨i, id, cap, hig, rfl, HM, HB⟩ := hrel
          by_cases hi : i < k
          · have hi' : (i : Int) < (k : Int) := by omega
            have hi0 : (0 : Int) ≤ (i : Int) := by omega
            have hM2 := HM.out.below ((Below.refl wr.heap.size wr).alloc (Nat.le_refl _) (.cells (madeCells #[.int .u8 0] n) 5 (0, 0)))
            obtain ⟨⟨u0, hu0⟩, hf0⟩ := hM2.free i hi
            have hadd := hM2.add (by rw [rowsTo_length]; exact hi) (Rw.fresh (W := wr) (n := n) (below_size HB.out) (by omega)) (fun j hj => by have := (HM.out.rows j hj).lt; omega)
            rw [ofL_length, List.length_replicate, rowsTo_length, ← spR_zero k n L i] at hadd
            have HADD := Aside0.mk hadd
            have HB2 : Aside0 (Below w.heap.size w ((wr.alloc (.cells (madeCells #[.int .u8 0] n) 5 (0, 0))).setCell ⟨w.heap.size, i, none⟩ (.slice (some ⟨wr.heap.size, 0, none⟩) n n))) := ⟨(below_alloc HB.out _).setCell (Nat.le_refl _) _⟩
            clear hM2 hadd HM HB
            go_wp2
            clear hu0 hf0
            obtain ⟨id', hid'⟩ : ∃ id', id' = up id i wr.heap.size := ⟨_, rfl⟩
            obtain ⟨cap', hcap'⟩ : ∃ cap', cap' = up cap i n := ⟨_, rfl⟩
            rw [← hid', ← hcap'] at HADD
            clear hid' hcap'
            generalize (wr.alloc (.cells (madeCells #[.int .u8 0] n) 5 (0, 0))).setCell ⟨w.heap.size, i, none⟩ (.slice (some ⟨wr.heap.size, 0, none⟩) n n) = w5 at *
            go_loopg [42] u (fun gg v42 w' => ∃ (s : Nat), s + gg = u ∧ v42 = .int .i64 (s : Int) ∧ Aside0 (Mp w' w.heap.size w.heap.size k k id' cap' (rowsTo k n L i ++ [ofL (spR k n L i s)])) ∧ Aside0 (Below w.heap.size w w'))
            case atStart => exact ⟨0, Nat.zero_add _, rfl, HADD, HB2⟩
            case round =>
              clear HADD HB2
              obtain ⟨s, hsg, rfl, HM, HB⟩ := hrel
              by_cases hs : s < u
              · have hs' : (s : Int) < (u : Int) := by omega
                have hs0 : (0 : Int) ≤ (s : Int) := by omega
                obtain ⟨q, hq⟩ : ∃ q, q = s * k := ⟨_, rfl⟩
                have hqb : q ≤ 4096 * 255 := by rw [hq]; exact Nat.mul_le_mul (by omega) (by omega)
                have hq1 : IntKind.i64.wrap ((s : Int) * (k : Int)) = (q : Int) := by rw [show (s : Int) * (k : Int) = (q : Int) by rw [hq, Int.natCast_mul]]; exact IntWalk.i64_in _ (by omega)
                have HQ := Aside0.mk hq
                clear hq
                by_cases hat : (q + i) * 16 < L.length
                · have hat' : ((q : Int) + (i : Int)) * 16 < (L.length : Int) := by omega
                  obtain ⟨at_, hatq⟩ : ∃ at_, at_ = (q + i) * 16 := ⟨_, rfl⟩
                  have hx1 : ((q : Int) + (i : Int)) * 16 = (at_ : Int) := by omega
                  obtain ⟨ad, rfl, _⟩ := HC.out.2.2 (by rw [ofL_length]; omega)
                  have hrun2 := from_run ad L.length c2 at_ (by omega) hc2 (((q : Int) + (i : Int)) * 16) hx1
                  have hlast : (rowsTo k n L i ++ [ofL (spR k n L i s)]).getD i [] = ofL (spR k n L i s) := by
                    rw [List.getD_eq_getElem?_getD, List.getElem?_append_right (by rw [rowsTo_length]; omega), rowsTo_length, Nat.sub_self]
                    rfl
                  have hil : i < (rowsTo k n L i ++ [ofL (spR k n L i s)]).length := by rw [List.length_append, rowsTo_length]; simp
                  have hcell := (HM.out.at_ i hil).1
                  unfold sl at hcell
                  rw [hlast, ofL_length, spR_length] at hcell
                  have hrw := HM.out.rows i hil
                  rw [hlast] at hrw
                  have hcap := hrw.reads.2
                  rw [ofL_length, spR_length] at hcap
                  have hsn : (s + 1) * 16 ≤ n := by have := HNU.out; omega
                  have hrun1 := lo_hi_run (id' i) n (cap' i) (s * 16) (by omega) hcap ((s : Int) * 16) (((s : Int) + 1) * 16) (by omega) (by omega)
                  have HRW := Aside0.mk hrw
                  have HLA := Aside0.mk (show _ ∧ _ from ⟨hlast, hil⟩)
                  have HNX : Aside0 (Go.splice (spR k n L i s) (s * 16) ((L.drop at_).take 16) = spR k n L i (s + 1)) := ⟨by rw [hatq, HQ.out]; exact spR_next k n L i s hsn (by rw [← HQ.out]; exact hat)⟩
                  have HAT := Aside0.mk (show at_ < L.length from by omega)
                  have HSN := Aside0.mk (show _ ∧ _ from ⟨hsn, hcap⟩)
                  have hw1 : IntKind.i64.wrap ((s : Int) * 16) = (s : Int) * 16 := IntWalk.i64_in _ (by omega)
                  have hw2 : IntKind.i64.wrap ((s : Int) + 1) = (s : Int) + 1 := IntWalk.i64_in _ (by omega)
                  have hw3 : IntKind.i64.wrap (((s : Int) + 1) * 16) = ((s : Int) + 1) * 16 := IntWalk.i64_in _ (by omega)
                  clear hrw hlast hil hcap hsn hat hatq hx1
                  go_upto_region 16 with (fail)
                  go_still_tail 13, (by kernel_rfl)
                  change wpList _ _ _ _ _ wr.drew
                  clear hrun1 hrun2 hcell hw1 hw2 hw3
                  have HM6 : Aside0 (Mp wr.drew w.heap.size w.heap.size k k id' cap' (rowsTo k n L i ++ [ofL (spR k n L i s)])) := ⟨HM.out.below (below_drew (Below.refl _ _))⟩
                  have HRW6 : Aside0 (Rw wr.drew w.heap.size (id' i) (cap' i) (ofL (spR k n L i s))) := ⟨HRW.out⟩
                  have HB6 : Aside0 (Below w.heap.size w wr.drew) := ⟨below_drew HB.out⟩
                  clear HM HRW HB
                  generalize wr.drew = w6 at *
                  obtain ⟨cur, hcur, hcopy⟩ := HRW6.out.splice
                  obtain ⟨c1, c3⟩ := hcopy (s * 16) (ofL ((L.drop at_).take 16)) (by rw [ofL_length, ofL_length, List.length_take, spR_length]; have := HSN.out.1; omega)
                  rw [← ofL_splice, HNX.out] at c3
                  have HC3 := Aside0.mk c3
                  have HGS := Aside0.mk (HRW6.out.base_)
                  refine wpList_copy_own rfl (.tmp 64) (.tmp 67) 22 22 rfl 5 Try.underlying22 (by kernel_rfl) (id' i) (s * 16) 16 (cap' i - s * 16) (ad.add at_) (L.length - at_) (c2 - at_) rfl rfl cur 5 hcur (encs (Value.int .u8) (ofL ((L.drop at_).take 16))) (by rw [show (encs (Value.int .u8) (ofL ((L.drop at_).take 16))).length = ((L.drop at_).take 16).length by simp [encs, ofL], List.length_take, List.length_drop]; exact Nat.min_comm _ _) (src_cells HC.out HB6.out at_) (by simpa [encs] using c1) (fun v hv => by
                    unfold encs at hv
                    obtain ⟨x, _, rfl⟩ := List.mem_map.1 hv
                    rfl) ?_
                  have HM7 := Aside0.mk (HM6.out.copy HLA.out.2 (s := ofL (spR k n L i (s + 1))) (by rw [HLA.out.1, ofL_length, ofL_length, spR_length, spR_length]) HC3.out)
                  have HB7 := Aside0.mk (below_setRow HB6.out HGS.out (cur.toList.take (s * 16) ++ (encs (Value.int .u8) (ofL ((L.drop at_).take 16)) ++ cur.toList.drop (s * 16 + (ofL ((L.drop at_).take 16)).length))).toArray)
                  have hel : (encs (Value.int .u8) (ofL ((L.drop at_).take 16))).length = (ofL ((L.drop at_).take 16)).length := by simp [encs]
                  rw [hel]
                  clear hel hcur c1 c3 hcopy HC3 HM6 HB6 HRW6
                  generalize w6.setRow (id' i) (cur.toList.take (s * 16) ++ (encs (Value.int .u8) (ofL ((L.drop at_).take 16)) ++ cur.toList.drop (s * 16 + (ofL ((L.drop at_).take 16)).length))).toArray = w7 at *
                  go_wp2
                  go_roundg (u - (s + 1))
                  case measure => omega
                  case rel => exact ⟨s + 1, by omega, by go_num, ⟨by
                    have := HM7.out
                    rw [show (rowsTo k n L i ++ [ofL (spR k n L i s)]).set i (ofL (spR k n L i (s + 1))) = rowsTo k n L i ++ [ofL (spR k n L i (s + 1))] by
                      rw [List.set_append_right _ _ (by rw [rowsTo_length]; omega), rowsTo_length, Nat.sub_self]
                      rfl] at this
                    exact this⟩, HB7⟩
                · have HN : Aside0 (spR k n L i (s + 1) = spR k n L i s) := ⟨spR_skip k n L i s (by rw [← HQ.out]; omega)⟩
                  have hat' : ¬ (((q : Int) + (i : Int)) * 16 < (L.length : Int)) := by omega
                  clear hat
                  go_wp2
                  go_roundg (u - (s + 1))
                  case measure => omega
                  case rel => exact ⟨s + 1, by omega, by go_num, ⟨by rw [HN.out]; exact HM.out⟩, HB⟩
              · have hs' : ¬ (s : Int) < (u : Int) := by omega
                have hsu : s = n / 16 := by have := HU.out; omega
                have HM2 : Aside0 (Mp wr w.heap.size w.heap.size k k id' cap' (rowsTo k n L (i + 1))) := ⟨by have := HM.out; rw [hsu, rowsTo_next] at this; exact this⟩
                clear hsu HM hsg
                go_wp2
                go_roundg (k - (i + 1))
                case measure => omega
                case rel => exact ⟨i + 1, id', cap', by omega, by go_num, HM2, HB⟩
          · have hi' : ¬ (i : Int) < (k : Int) := by omega
            have hik : i = k := by omega
            have hM := HM.out
            rw [hik] at hM
            have hMt := hM.full (rowsTo_length k n L k)
            rw [rowsTo_all] at hMt
            have hC := (Kd.S_reads' hMt.to_S).2.2
            have hle := (Kd.S_reads' hMt.to_S).2.1
            have henc : Aside0 (Calls Try.prog 75 #[.int .i64 (k : Int), .int .i64 (m : Int), .slice (some ⟨w.heap.size, 0, none⟩) k k] wr fun e w' => ∃ v, e = .returned (.tuple #[v, .int .i64 r2]) ∧ Kd.N (Kd.slice 5 (Kd.int .u8)) 22 w' wr.heap.size (fun k_ => wr.heap.size ≤ k_) v r1 ∧ Below wr.heap.size wr w') := ⟨by
              obtain ⟨f, hf⟩ := (evEncode (k : Int) (m : Int) (by omega) (spM k n L) (fun i hi => by rw [(spM_reg k n L).1] at hi; rw [(spM_reg k n L).2 i hi]; omega)).rounds
              rw [HSP.out] at hf
              have := code_Encode.calls f (k : Int) (m : Int) _ k (oM (spM k n L)) r1 r2 wr hC hle hf
              rw [oM_length, (spM_reg k n L).1] at this
              exact this⟩
            clear hik hM hMt hC hle HM hig
            go_wp2_with fail
            refine henc.out.mono ?_
            rintro e w' ⟨v, rfl, hN, hb⟩
            have HN := Aside0.mk hN
            have HB2 := Aside0.mk (below_then HB.out (below_size HB.out) hb)
            have hsz := below_size HB.out
            have HSZ := Aside0.mk hsz
            clear hN hb hsz henc
            go_wp2
            go_ret2
            exact ⟨_, rfl, Kd.N_lower (Kd.N_mono HN.out (fun q hq => Nat.le_trans HSZ.out hq)) HSZ.out, HB2.out⟩
  · rw [if_neg hby] at h
    cases h
end Go.Proofs.Ytbogmlckbkogiaa.H
