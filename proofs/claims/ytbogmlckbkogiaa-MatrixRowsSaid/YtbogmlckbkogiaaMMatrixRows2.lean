import Derived.Test.YtbogmlckbkogiaaMMatrixRows1
-- Printed by a wrapper (wip/tools/myprint.py) of the kit's print, with hand-written contracts as given leaves.
namespace Go.Proofs.Ytbogmlckbkogiaa.P
open Go.Proofs.Ytbogmlckbkogiaa.Leaf
open Go.RowKit Go.Proofs.YtbogmlckbkogiaaW.PrintWords Go.Proofs.YtbogmlckbkogiaaW.PrintLast Go.Proofs.YtbogmlckbkogiaaW.PrintMore
attribute [local go_sem] max2_int min2_int max_two min_two max_three min_three max_four min_four   -- for this text's walks alone
set_option linter.unusedVariables false
set_option linter.unusedSimpArgs false

/-! ### gf_AddMul: function 48 -/
def gf_AddMul.l0 : Nat → List Int → List Int → Int → List Int → Int → Int → Option (List Int × Bool)
  | 0, _, _, _, _, _, _ => none
  | k + 1, x0, x1, x2, x8, x19, x20 => if x20 < x19 then (if 0 ≤ x20 then (if x20 < (x0.length : Int) then (if x20 < (x1.length : Int) then ((gf_Mul.f (rd x1 x20) x2).bind fun t106 => (if x20 < (x8.length : Int) then (gf_AddMul.l0 k x0 x1 x2 (x8.set (x20 : Int).toNat (Go.bits .xor .u8 (rd x0 x20) t106)) x19 (wrap64 (x20 + 1))) else (none))) else (none)) else (none)) else (none)) else (some (x8, true))
def gf_AddMul.f (k : Nat) (l0 : List Int) (l1 : List Int) (a2 : Int) : Option (List Int × Bool) := if (l0.length : Int) = (l1.length : Int) then (if 0 ≤ (l0.length : Int) then (if ((l0.length : Int) : Int).toNat ≤ 281474976710656 then ((some (List.replicate ((l0.length : Int) : Int).toNat 0 : List Int)).bind fun y101 => (gf_AddMul.l0 k l0 l1 a2 y101 (y101.length : Int) 0)) else (none)) else (none)) else (some (([] : List Int), false))
theorem gf_AddMul.mono_l : ∀ k, (∀ y0 y1 y2 y3 y4 y5, LeO (gf_AddMul.l0 k y0 y1 y2 y3 y4 y5) (gf_AddMul.l0 (k + 1) y0 y1 y2 y3 y4 y5))
  | 0 => fun _ _ _ _ _ _ r h => by simp [gf_AddMul.l0] at h
  | k + 1 => by
    have ih0 := gf_AddMul.mono_l k
    · intro y0 y1 y2 y3 y4 y5
      unfold gf_AddMul.l0
      repeat' first
      | (with_reducible exact ih0 _ _ _ _ _ _)
      | (with_reducible exact LeO.refl _)
      | (with_reducible exact LeO.none _)
      | (with_reducible refine LeO.ite ?_ ?_)
      | (with_reducible refine LeO.bind ?_ (fun _ => ?_))
      | exact ih0 _ _ _ _ _ _
      | exact LeO.none _
      | refine LeO.ite ?_ ?_
      | refine LeO.bind ?_ (fun _ => ?_)
theorem gf_AddMul.mono : ∀ a0 a1 a2 k, LeO (gf_AddMul.f k a0 a1 a2) (gf_AddMul.f (k + 1) a0 a1 a2) := by
  intro a0 a1 a2 k
  have ih0 := gf_AddMul.mono_l k
  unfold gf_AddMul.f
  repeat' first
      | (with_reducible exact ih0 _ _ _ _ _ _)
      | (with_reducible exact LeO.refl _)
      | (with_reducible exact LeO.none _)
      | (with_reducible refine LeO.ite ?_ ?_)
      | (with_reducible refine LeO.bind ?_ (fun _ => ?_))
      | exact ih0 _ _ _ _ _ _
      | exact LeO.none _
      | refine LeO.ite ?_ ?_
      | refine LeO.bind ?_ (fun _ => ?_)
def gf_AddMul.T7 : Bool × List (List Nat × List Nat) := (true, [([], []), ([], []), ([], []), ([], []), ([2, 3], [2, 3]), ([4], [4]), ([], []), ([], []), ([6, 7], [6, 7]), ([8], [8]), ([], []), ([9, 10], [9, 10]), ([5, 11], [5, 11]), ([0, 1, 0, 1, 2, 3, 4, 5, 6, 7, 8, 9, 10, 11, 12], [0, 1]), ([13, 12, 11, 0, 1, 2, 3, 4, 5, 6, 7, 8, 9, 10, 11, 12], [12, 13])])
def gf_AddMul.B7 : List Nat := [0, 0, 0, 0, 12, 28, 0, 0, 192, 448, 0, 1984, 4092, 8191, 16383]
theorem gf_AddMul.tab7 : rtab .any (opsOf Try.f48 7) = gf_AddMul.T7 := by kernel_rfl
theorem gf_AddMul.bits7 : waitsOk gf_AddMul.T7.2 gf_AddMul.B7 = true := by kernel_rfl
set_option maxHeartbeats 8000000 in
set_option maxRecDepth 100000 in
theorem gf_AddMul.calls (k : Nat) (A0 : Option Addr) (c0 : Nat) (l0 : List Int) (A1 : Option Addr) (c1 : Nat) (l1 : List Int) (a2 : Int) (r1 : List Int) (r2 : Bool) (w : World) (hr0 : Kd.C (Kd.int .u8) w A0 l0.length l0) (hc0 : l0.length ≤ c0) (hr1 : Kd.C (Kd.int .u8) w A1 l1.length l1) (hc1 : l1.length ≤ c1) (h : gf_AddMul.f k l0 l1 a2 = some (r1, r2)) :
    Calls Try.prog 48 #[.slice A0 l0.length c0, .slice A1 l1.length c1, .int .u8 a2] w fun e w' => ∃ v0_ : Value, e = .returned (.tuple #[v0_, .bool r2]) ∧ Kd.R (Kd.int .u8) 5 w' w.heap.size (fun _ => True) v0_ r1 ∧ Below w.heap.size w w' := by
  have HR0 := Aside0.mk hr0
  have HC0 := Aside0.mk hc0
  clear hr0 hc0
  have HR1 := Aside0.mk hr1
  have HC1 := Aside0.mk hc1
  clear hr1 hc1
  have HB := Aside0.mk (Below.refl w.heap.size w)
  have H : (if (l0.length : Int) = (l1.length : Int) then (if 0 ≤ (l0.length : Int) then (if ((l0.length : Int) : Int).toNat ≤ 281474976710656 then ((some (List.replicate ((l0.length : Int) : Int).toNat 0 : List Int)).bind fun y101 => (gf_AddMul.l0 k l0 l1 a2 y101 (y101.length : Int) 0)) else (none)) else (none)) else (some (([] : List Int), false))) = some (r1, r2) := h
  clear h
  by_cases c4 : (l0.length : Int) = (l1.length : Int)
  · rw [if_pos c4] at H
    have c4b0 : ((l0.length : Int) == (l1.length : Int)) = true := beq_iff_eq.mpr c4
    have c4b1 : ((l0.length : Int) != (l1.length : Int)) = false := bne_eq_false_iff_eq.mpr c4
    have c4b2 : (l0.length == l1.length) = true := by first | simpa using c4 | (simp at c4 ⊢; omega)
    clear c4
    by_cases c5 : 0 ≤ (l0.length : Int)
    · rw [if_pos c5] at H
      have c5b0 := eq_true c5
      have c5b1 : decide (0 ≤ (l0.length : Int)) = true := decide_eq_true c5
      clear c5
      by_cases c6 : ((l0.length : Int) : Int).toNat ≤ 281474976710656
      · rw [if_pos c6] at H
        have c6b0 := eq_true c6
        have c6b1 : decide (((l0.length : Int) : Int).toNat ≤ 281474976710656) = true := decide_eq_true c6
        clear c6
        obtain ⟨y101, hy101⟩ : ∃ y_ : List Int, y_ = (List.replicate ((l0.length : Int) : Int).toNat 0) := ⟨_, rfl⟩
        replace H : (gf_AddMul.l0 k l0 l1 a2 y101 (y101.length : Int) 0) = some (r1, r2) := by first | (rw [hy101]; with_reducible exact H) | (have H2_ := (Option.bind_some _ _).symm.trans H; rw [hy101]; with_reducible exact H2_) | (have H2_ := (Option.bind_some _ _).symm.trans H; with_reducible exact H2_) | with_reducible exact H | (rw [hy101]; exact H) | exact H
        have Ny101 := Aside0.mk hy101
        clear hy101
        have H' := Aside0.mk H
        clear H
        go_enter Try.func48, Try.ntmps48
        go_wp2_with (first | ((with_reducible refine gate_dst (N := 17) rfl ?_); refine Kd.R_make (Kd.int .u8) _ 5 rfl (N := 17) rfl 22 _ _ rfl (l0.length : Int) rfl rfl Try.underlying22 (.int .u8 0) 1 info5 rfl (by decide) (by omega) 0 (ok := fun _ => True) (okp := fun _ => True) rfl (fun _ hk => hk) trivial (of_decide_eq_true (by first | (with_reducible assumption) | assumption)) (Nat.le_trans (Nat.mul_le_mul_right _ (of_decide_eq_true (by first | (with_reducible assumption) | assumption) : (l0.length : Int).toNat ≤ 281474976710656)) (by omega)) (Below.refl _ _) (Nat.le_refl _) ?_; intro v102 w7 ho8 hb hg_ hnew_; clear hg_ hnew_; (first | rw [← Ny101.out] at ho8 | (simp only [Int.reduceToNat] at ho8; rw [← Ny101.out] at ho8)); have n0_ := Aside0.mk (Kd.R_lower ho8 (below_size (by repeat (first | (with_reducible first | exact HB.out | apply below_alloc | apply pw_below_drewN | apply below_drew1) | exact HB.out)))); have n1_ := Aside0.mk (below_step (by repeat (first | (with_reducible first | exact HB.out | apply below_alloc | apply pw_below_drewN | apply below_drew1) | exact HB.out)) hb); clear HB; have HO103 := n0_; have HB := n1_; clear n0_ n1_; clear hb ho8; obtain ⟨Ao9, co9, eo9⟩ := Kd.R_slice HO103.out; subst eo9))
        go_loopg [20] k (fun kq v20 w' => ∃ (x8_1 : List Int) (x20_1 : Int), v20 = .int .i64 x20_1 ∧ Aside0 (gf_AddMul.l0 kq l0 l1 a2 x8_1 (y101.length : Int) x20_1 = some (r1, r2)) ∧ Aside0 (kq ≤ k) ∧ Aside0 (Kd.R (Kd.int .u8) 5 w' w.heap.size (fun _ => True) (.slice Ao9 y101.length co9) x8_1) ∧ Aside0 (Below w.heap.size w w'))
        case atStart => exact ⟨(y101), (0), (by first | rfl | (simp; done) | (simp [*]; done)), H', ⟨Nat.le_refl _⟩, ⟨by (with_reducible repeat (first | apply Kd.R_alloc | apply Kd.R_drewN | apply Kd.R_drew)); exact HO103.out⟩, ⟨by repeat (first | (with_reducible first | exact HB.out | apply below_alloc | apply pw_below_drewN | apply below_drew1) | exact HB.out)⟩⟩
        case round =>
          clear H'
          try clear c1
          try clear p2
          try clear c4
          try clear c4b0
          try clear c4b1
          try clear c4b2
          try clear c5
          try clear c5b0
          try clear c5b1
          try clear c6
          try clear c6b0
          try clear c6b1
          obtain ⟨x8_1, x20_1, rfl, HA, HK1, HO_8, HB⟩ := hrel
          have hl8_1 := (Kd.R_reads' HO_8.out).1
          rw [hl8_1] at HO_8
          (try simp only [hl8_1])
          cases gk with
          | zero => exact absurd HA.out (by simp [gf_AddMul.l0])
          | succ k1 =>
            have H := HA.out
            clear HA
            simp only [gf_AddMul.l0] at H
            by_cases c10 : x20_1 < (y101.length : Int)
            · rw [if_pos c10] at H
              have c10b0 : decide (x20_1 < (y101.length : Int)) = true := decide_eq_true c10
              (try simp only [hl8_1] at c10b0)
              clear c10
              by_cases c11 : 0 ≤ x20_1
              · rw [if_pos c11] at H
                have c11b0 : decide (0 ≤ x20_1) = true := decide_eq_true c11
                (try simp only [hl8_1] at c11b0)
                clear c11
                by_cases c12 : x20_1 < (l0.length : Int)
                · rw [if_pos c12] at H
                  have c12b0 : decide (x20_1 < (l0.length : Int)) = true := decide_eq_true c12
                  (try simp only [hl8_1] at c12b0)
                  clear c12
                  by_cases c13 : x20_1 < (l1.length : Int)
                  · rw [if_pos c13] at H
                    have c13b0 : decide (x20_1 < (l1.length : Int)) = true := decide_eq_true c13
                    (try simp only [hl8_1] at c13b0)
                    clear c13
                    replace H := Option.bind_eq_some_iff.mp H
                    obtain ⟨t106, A140, H⟩ := H
                    replace H : (if x20_1 < (x8_1.length : Int) then (gf_AddMul.l0 k1 l0 l1 a2 (x8_1.set (x20_1 : Int).toNat (Go.bits .xor .u8 (rd l0 x20_1) t106)) (y101.length : Int) (wrap64 (x20_1 + 1))) else (none)) = some (r1, r2) := H
                    have A14 := Aside0.mk A140
                    clear A140
                    by_cases c15 : x20_1 < (x8_1.length : Int)
                    · rw [if_pos c15] at H
                      have c15b0 : decide (x20_1 < (x8_1.length : Int)) = true := decide_eq_true c15
                      (try simp only [hl8_1] at c15b0)
                      clear c15
                      obtain ⟨y107, hy107⟩ : ∃ y_ : List Int, y_ = (x8_1.set (x20_1 : Int).toNat (Go.bits .xor .u8 (rd l0 x20_1) t106)) := ⟨_, rfl⟩
                      replace H : (gf_AddMul.l0 k1 l0 l1 a2 y107 (y101.length : Int) (wrap64 (x20_1 + 1))) = some (r1, r2) := by first | (rw [hy107]; with_reducible exact H) | (have H2_ := (Option.bind_some _ _).symm.trans H; rw [hy107]; with_reducible exact H2_) | (have H2_ := (Option.bind_some _ _).symm.trans H; with_reducible exact H2_) | with_reducible exact H | (rw [hy107]; exact H) | exact H
                      have Ny107 := Aside0.mk hy107
                      clear hy107
                      have H' := Aside0.mk H
                      clear H
                      try go_wp2
                      have n0_ := Aside0.mk (Kd.R_drew HO_8.out)
                      have n1_ := Aside0.mk (below_drew1 HB.out)
                      clear HO_8
                      clear HB
                      have HO_8 := n0_
                      have HB := n1_
                      clear n0_ n1_
                      have p104 : 0 ≤ (x20_1 : Int) := of_decide_eq_true (by first | (with_reducible assumption) | assumption)
                      have q104 : x20_1 < (l0.length : Int) := of_decide_eq_true (by first | (with_reducible assumption) | assumption)
                      obtain ⟨ad104, e104, hx104_0⟩ := Kd.at_int HR0.out x20_1 p104 q104
                      have hw104_0 := hx104_0
                      cases e104
                      replace hx104_0 := (HB.out.cell (World.block_lt_of_cell? w _ hx104_0)).trans hx104_0
                      replace p104 := eq_true p104
                      replace q104 := eq_true q104
                      have p105 : 0 ≤ (x20_1 : Int) := of_decide_eq_true (by first | (with_reducible assumption) | assumption)
                      have q105 : x20_1 < (l1.length : Int) := of_decide_eq_true (by first | (with_reducible assumption) | assumption)
                      obtain ⟨ad105, e105, hx105_0⟩ := Kd.at_int HR1.out x20_1 p105 q105
                      have hw105_0 := hx105_0
                      cases e105
                      replace hx105_0 := (HB.out.cell (World.block_lt_of_cell? w _ hx105_0)).trans hx105_0
                      replace p105 := eq_true p105
                      replace q105 := eq_true q105
                      refine start_ (n := 15) (S := fun w' => w'.cell? (ad104.add (x20_1).toNat) = some (.int .u8 (rd l0 x20_1)) ∧ w'.cell? (ad105.add (x20_1).toNat) = some (.int .u8 (rd l1 x20_1))) (ds := [14]) #[false, false, false, false, false, false, false, false, false, false, false, false, false, false, false] (by kernel_rfl) rfl rfl ⟨((HB.out.cell (World.block_lt_of_cell? w _ hw104_0)).trans hw104_0), ((HB.out.cell (World.block_lt_of_cell? w _ hw105_0)).trans hw105_0)⟩ (fun hHeld => ?_); refine with_tabW gf_AddMul.tab7 gf_AddMul.bits7 (fun HT_ HW_ => ?_)
                      generalize wr.drew = w17 at HO_8 HB hx104_0 hx105_0 hHeld ⊢
                      refine pure_ (i := 0) (N := some 23) (v := ?_) (a' := ?_) #[true, false, false, false, false, false, false, false, false, false, false, false, false, false, false] rfl rfl (any_of HT_.out (by kernel_rfl)) (fun _ _ _ h => h) (Or.inl ⟨by rfl, ?_⟩) ?_ ?_
                      rotate_left
                      · intro w'
                        go_simp
                        with_reducible rfl
                      rotate_left
                      · simp only [Act.put, List.setIfInBounds_toArray, List.set_cons_zero, List.set_cons_succ, i64_w, i32_w]
                        rfl
                      refine pure_ (i := 1) (N := some 24) (v := ?_) (a' := ?_) #[true, true, false, false, false, false, false, false, false, false, false, false, false, false, false] rfl rfl (any_of HT_.out (by kernel_rfl)) (fun _ _ _ h => h) (Or.inl ⟨by rfl, ?_⟩) ?_ ?_
                      rotate_left
                      · intro w'
                        go_simp
                        with_reducible rfl
                      rotate_left
                      · simp only [Act.put, List.setIfInBounds_toArray, List.set_cons_zero, List.set_cons_succ, i64_w, i32_w]
                        rfl
                      refine pure_ (i := 2) (N := some 25) (v := ?_) (a' := ?_) #[true, true, true, false, false, false, false, false, false, false, false, false, false, false, false] rfl rfl (any_of HT_.out (by kernel_rfl)) (fun _ _ _ h => h) (Or.inl ⟨by rfl, ?_⟩) ?_ ?_
                      rotate_left
                      · intro w'
                        go_simp
                        with_reducible rfl
                      rotate_left
                      · simp only [Act.put, List.setIfInBounds_toArray, List.set_cons_zero, List.set_cons_succ, i64_w, i32_w]
                        rfl
                      refine pure_ (i := 3) (N := some 26) (v := ?_) (a' := ?_) #[true, true, true, true, false, false, false, false, false, false, false, false, false, false, false] rfl rfl (any_of HT_.out (by kernel_rfl)) (fun _ _ _ h => h) (Or.inl ⟨by rfl, ?_⟩) ?_ ?_
                      rotate_left
                      · intro w'
                        go_simp
                        with_reducible rfl
                      rotate_left
                      · simp only [Act.put, List.setIfInBounds_toArray, List.set_cons_zero, List.set_cons_succ, i64_w, i32_w]
                        rfl
                      refine pure_ (i := 4) (N := some 27) (v := ?_) (a' := ?_) #[true, true, true, true, true, false, false, false, false, false, false, false, false, false, false] rfl rfl (any_of HT_.out (by kernel_rfl)) (fun _ _ _ h => h) (Or.inl ⟨by rfl, ?_⟩) ?_ ?_
                      rotate_left
                      · intro w'
                        go_simp
                        with_reducible rfl
                      rotate_left
                      · simp only [Act.put, List.setIfInBounds_toArray, List.set_cons_zero, List.set_cons_succ, i64_w, i32_w]
                        rfl
                      refine pure_ (i := 6) (N := some 29) (v := ?_) (a' := ?_) #[true, true, true, true, true, false, true, false, false, false, false, false, false, false, false] rfl rfl (any_of HT_.out (by kernel_rfl)) (fun _ _ _ h => h) (Or.inl ⟨by rfl, ?_⟩) ?_ ?_
                      rotate_left
                      · intro w'
                        go_simp
                        with_reducible rfl
                      rotate_left
                      · simp only [Act.put, List.setIfInBounds_toArray, List.set_cons_zero, List.set_cons_succ, i64_w, i32_w]
                        rfl
                      refine pure_ (i := 7) (N := some 30) (v := ?_) (a' := ?_) #[true, true, true, true, true, false, true, true, false, false, false, false, false, false, false] rfl rfl (any_of HT_.out (by kernel_rfl)) (fun _ _ _ h => h) (Or.inl ⟨by rfl, ?_⟩) ?_ ?_
                      rotate_left
                      · intro w'
                        go_simp
                        with_reducible rfl
                      rotate_left
                      · simp only [Act.put, List.setIfInBounds_toArray, List.set_cons_zero, List.set_cons_succ, i64_w, i32_w]
                        rfl
                      refine pure_ (i := 8) (N := some 31) (v := ?_) (a' := ?_) #[true, true, true, true, true, false, true, true, true, false, false, false, false, false, false] rfl rfl (any_of HT_.out (by kernel_rfl)) (fun _ _ _ h => h) (Or.inl ⟨by rfl, ?_⟩) ?_ ?_
                      rotate_left
                      · intro w'
                        go_simp
                        with_reducible rfl
                      rotate_left
                      · simp only [Act.put, List.setIfInBounds_toArray, List.set_cons_zero, List.set_cons_succ, i64_w, i32_w]
                        rfl
                      refine pure_ (i := 10) (N := some 33) (v := ?_) (a' := ?_) #[true, true, true, true, true, false, true, true, true, false, true, false, false, false, false] rfl rfl (any_of HT_.out (by kernel_rfl)) (fun _ _ _ h => h) (Or.inl ⟨by rfl, ?_⟩) ?_ ?_
                      rotate_left
                      · intro w'
                        go_simp
                        with_reducible rfl
                      rotate_left
                      · simp only [Act.put, List.setIfInBounds_toArray, List.set_cons_zero, List.set_cons_succ, i64_w, i32_w]
                        rfl
                      refine take_ (i := 5) (N := some 28) (v := ?_) (a' := ?_) #[true, true, true, true, true, true, true, true, true, false, true, false, false, false, false] rfl rfl (take_ofW HT_.out HW_.out (by kernel_rfl)) (fun _ _ _ h => h) (Or.inl ⟨by rfl, ?_⟩) hHeld ?_ ?_
                      rotate_left
                      · rintro w' ⟨s0, s1⟩
                        go_simp
                        with_reducible rfl
                      rotate_left
                      · simp only [Act.put, List.setIfInBounds_toArray, List.set_cons_zero, List.set_cons_succ, i64_w, i32_w]
                        rfl
                      refine take_ (i := 9) (N := some 32) (v := ?_) (a' := ?_) #[true, true, true, true, true, true, true, true, true, true, true, false, false, false, false] rfl rfl (take_ofW HT_.out HW_.out (by kernel_rfl)) (fun _ _ _ h => h) (Or.inl ⟨by rfl, ?_⟩) hHeld ?_ ?_
                      rotate_left
                      · rintro w' ⟨s0, s1⟩
                        go_simp
                        with_reducible rfl
                      rotate_left
                      · simp only [Act.put, List.setIfInBounds_toArray, List.set_cons_zero, List.set_cons_succ, i64_w, i32_w]
                        rfl
                      refine one_ (i := 11) (N := some 34) #[true, true, true, true, true, true, true, true, true, true, true, true, false, false, false] rfl rfl (one_of HT_.out (by kernel_rfl)) (by decide) (fun K hK => ?_)
                      refine goes_ Try.func26 (by kernel_rfl) rfl #[.int .u8 (rd l1 x20_1), .int .u8 a2] (by rfl) rfl rfl (by (try simp only [List.map_toArray, List.map_cons, List.map_nil]); first | done | rfl | (simp only [List.length_drop, List.length_take]; rfl)) ?_
                      with_reducible refine (gf_Mul.calls (rd l1 x20_1) a2 t106 _ A14.out).mono ?_
                      rintro e w18 ⟨rfl, hb⟩
                      refine ⟨_, rfl, ?_⟩
                      have n0_ := Aside0.mk (Kd.R_below (by (with_reducible repeat (first | apply Kd.R_alloc | apply Kd.R_drewN | apply Kd.R_drew)); exact HO_8.out) hb)
                      have n1_ := Aside0.mk (below_step (by repeat (first | (with_reducible first | exact HB.out | apply below_alloc | apply pw_below_drewN | apply below_drew1) | exact HB.out)) hb)
                      clear HO_8
                      clear HB
                      have HO_8 := n0_
                      have HB := n1_
                      clear n0_ n1_
                      (try clear hb)
                      (try clear hb2)
                      (try clear hk)
                      (try clear hi)
                      have p16 : 0 ≤ (x20_1 : Int) := of_decide_eq_true (by first | (with_reducible assumption) | assumption)
                      have q16 : (x20_1 : Int) < ((x8_1.length : Int) : Int) := of_decide_eq_true (by first | (with_reducible assumption) | assumption)
                      obtain ⟨go16, co16, eo16, gb16, gl16, cl16, HG16⟩ := Kd.R_form HO_8.out (by omega)
                      (first | cases eo16 | (injection eo16 with ea_ en_ ec_; (first | subst ea_ | (injection ea_ with ea_; subst ea_)); subst ec_; clear en_))
                      have GB16 := Aside0.mk gb16
                      have GG16 := Aside0.mk HG16
                      clear gb16 gl16 HG16
                      obtain ⟨hx16_0, hf16_0⟩ := Kd.R_celln 0 HO_8.out (x20_1 : Int) p16 q16
                      replace p16 := eq_true p16
                      replace q16 := eq_true q16
                      have HP19 := Kd.R_putn HO_8.out (x20_1 : Int) (Go.bits .xor .u8 (rd l0 x20_1) t106)
                      rw [← Ny107.out] at HP19
                      have HQ19 := Aside0.mk HP19
                      clear HP19
                      refine hK.out _ _ ⟨((HB.out.cell (World.block_lt_of_cell? w _ hw104_0)).trans hw104_0), ((HB.out.cell (World.block_lt_of_cell? w _ hw105_0)).trans hw105_0)⟩ (fun hHeld => ?_)
                      clear hK K
                      refine norm_ (a' := ?_) ?_ ?_
                      rotate_left
                      · show Act.put _ (some 34) _ = _
                        simp only [Act.put, List.setIfInBounds_toArray, List.set_cons_zero, List.set_cons_succ, i64_w, i32_w]
                        rfl
                      refine pure_ (i := 12) (N := some 35) (v := ?_) (a' := ?_) #[true, true, true, true, true, true, true, true, true, true, true, true, true, false, false] rfl rfl (any_of HT_.out (by kernel_rfl)) (fun _ _ _ h => h) (Or.inl ⟨by rfl, ?_⟩) ?_ ?_
                      rotate_left
                      · intro w'
                        go_simp
                        with_reducible rfl
                      rotate_left
                      · simp only [Act.put, List.setIfInBounds_toArray, List.set_cons_zero, List.set_cons_succ, i64_w, i32_w]
                        rfl
                      refine pure_ (i := 13) (N := some 36) (v := ?_) (a' := ?_) #[true, true, true, true, true, true, true, true, true, true, true, true, true, true, false] rfl rfl (any_of HT_.out (by kernel_rfl)) (fun _ _ _ h => h) (Or.inl ⟨by rfl, ?_⟩) ?_ ?_
                      rotate_left
                      · intro w'
                        go_simp
                        with_reducible rfl
                      rotate_left
                      · simp only [Act.put, List.setIfInBounds_toArray, List.set_cons_zero, List.set_cons_succ, i64_w, i32_w]
                        rfl
                      refine last_ (i := 14) (N := none) #[true, true, true, true, true, true, true, true, true, true, true, true, true, true, true] rfl rfl (one_of HT_.out (by kernel_rfl)) (by decide) (fun K hK => ?_)
                      refine skip_ (w1 := ?_) (by rfl) rfl ?_ ?_
                      rotate_left
                      · go_simp
                        rfl
                      refine hK.out _ _ ?_
                      clear hK K
                      refine done_ (done_of HT_.out (by kernel_rfl)) ?_
                      try go_wp2
                      (try simp only [← hl8_1])
                      go_roundg k1
                      case measure => have := HK1.out; omega
                      case rel => exact ⟨(y107), (wrap64 (x20_1 + 1)), (by first | rfl | (simp; done) | (simp [*]; done)), H', ⟨by have := HK1.out; omega⟩, ⟨by (try simp only [hl8_1]); (with_reducible repeat (first | apply Kd.R_alloc | apply Kd.R_drewN | apply Kd.R_drew)); exact HQ19.out⟩, ⟨by repeat (first | (with_reducible first | exact HB.out | apply below_alloc | apply pw_below_drewN | apply below_drew1 | refine below_set ?_ GB16.out) | exact HB.out)⟩⟩
                    · rw [if_neg c15] at H
                      exact absurd H (by simp)
                  · rw [if_neg c13] at H
                    exact absurd H (by simp)
                · rw [if_neg c12] at H
                  exact absurd H (by simp)
              · rw [if_neg c11] at H
                exact absurd H (by simp)
            · rw [if_neg c10] at H
              have c10b0 : decide (x20_1 < (y101.length : Int)) = false := decide_eq_false c10
              (try simp only [hl8_1] at c10b0)
              clear c10
              simp only [Option.some.injEq, Prod.mk.injEq] at H
              obtain ⟨rfl, rfl⟩ := H
              go_wp2
              go_ret2
              exact ⟨_, by first | rfl | (simp [errW_none, errW_some] <;> rfl) | (simp [*, errW_none, errW_some] <;> rfl), by (with_reducible repeat (first | apply Kd.R_alloc | apply Kd.R_drewN | apply Kd.R_drew)); exact HO_8.out, by repeat (first | (with_reducible first | exact HB.out | apply below_alloc | apply pw_below_drewN | apply below_drew1) | exact HB.out)⟩
      · rw [if_neg c6] at H
        exact absurd H (by simp)
    · rw [if_neg c5] at H
      exact absurd H (by simp)
  · rw [if_neg c4] at H
    have c4b0 : ((l0.length : Int) == (l1.length : Int)) = false := beq_eq_false_iff_ne.mpr c4
    have c4b1 : ((l0.length : Int) != (l1.length : Int)) = true := bne_iff_ne.mpr c4
    have c4b2 : (l0.length == l1.length) = false := by first | simpa using c4 | (simp at c4 ⊢; omega)
    simp only [Option.some.injEq, Prod.mk.injEq] at H
    obtain ⟨rfl, rfl⟩ := H
    go_enter Try.func48, Try.ntmps48
    go_wp2
    go_ret2
    exact ⟨_, by first | rfl | (simp [errW_none, errW_some] <;> rfl) | (simp [*, errW_none, errW_some] <;> rfl), by first | exact Kd.R_nil _ _ _ _ _ | exact Kd.N_nil _ _ _ _ _ | exact Kd.V_nil _ _ _ _ _ | exact Kd.Q_nil _ _ _ _ _ | exact Kd.S_nil _ _ _ _ _, by repeat (first | (with_reducible first | exact HB.out | apply below_alloc | apply pw_below_drewN | apply below_drew1) | exact HB.out)⟩

end Go.Proofs.Ytbogmlckbkogiaa.P

-- Printed by a wrapper (wip/tools/myprint.py) of the kit's print, with hand-written contracts as given leaves.
namespace Go.Proofs.Ytbogmlckbkogiaa.P
open Go.Proofs.Ytbogmlckbkogiaa.Leaf
open Go.RowKit Go.Proofs.YtbogmlckbkogiaaW.PrintWords Go.Proofs.YtbogmlckbkogiaaW.PrintLast Go.Proofs.YtbogmlckbkogiaaW.PrintMore
attribute [local go_sem] max2_int min2_int max_two min_two max_three min_three max_four min_four   -- for this text's walks alone
set_option linter.unusedVariables false
set_option linter.unusedSimpArgs false

/-! ### mooringref01_Dot: function 47 -/
def mooringref01_Dot.l0 : Nat → List Int → List Int → Int → Int → Option (Int × Bool)
  | 0, _, _, _, _ => none
  | k + 1, x0, x1, x6, x7 => if x7 < (x0.length : Int) then (if 0 ≤ x7 then (if x7 < (x1.length : Int) then ((mooringref01_Mul.f k (rd x0 x7) (rd x1 x7)).bind fun t103 => (mooringref01_Dot.l0 k x0 x1 (Go.bits .xor .u8 x6 t103) (wrap64 (x7 + 1)))) else (none)) else (none)) else (some (x6, true))
def mooringref01_Dot.f (k : Nat) (l0 : List Int) (l1 : List Int) : Option (Int × Bool) := if (l0.length : Int) = (l1.length : Int) then (mooringref01_Dot.l0 k l0 l1 0 0) else (some (0, false))
theorem mooringref01_Dot.mono_l : ∀ k, (∀ y0 y1 y2 y3, LeO (mooringref01_Dot.l0 k y0 y1 y2 y3) (mooringref01_Dot.l0 (k + 1) y0 y1 y2 y3))
  | 0 => fun _ _ _ _ r h => by simp [mooringref01_Dot.l0] at h
  | k + 1 => by
    have ih0 := mooringref01_Dot.mono_l k
    · intro y0 y1 y2 y3
      unfold mooringref01_Dot.l0
      repeat' first
      | (with_reducible exact ih0 _ _ _ _)
      | (with_reducible exact mooringref01_Mul.mono _ _ _)
      | (with_reducible exact LeO.refl _)
      | (with_reducible exact LeO.none _)
      | (with_reducible refine LeO.ite ?_ ?_)
      | (with_reducible refine LeO.bind ?_ (fun _ => ?_))
      | exact ih0 _ _ _ _
      | exact mooringref01_Mul.mono _ _ _
      | exact LeO.none _
      | refine LeO.ite ?_ ?_
      | refine LeO.bind ?_ (fun _ => ?_)
theorem mooringref01_Dot.mono : ∀ a0 a1 k, LeO (mooringref01_Dot.f k a0 a1) (mooringref01_Dot.f (k + 1) a0 a1) := by
  intro a0 a1 k
  have ih0 := mooringref01_Dot.mono_l k
  unfold mooringref01_Dot.f
  repeat' first
      | (with_reducible exact ih0 _ _ _ _)
      | (with_reducible exact mooringref01_Mul.mono _ _ _)
      | (with_reducible exact LeO.refl _)
      | (with_reducible exact LeO.none _)
      | (with_reducible refine LeO.ite ?_ ?_)
      | (with_reducible refine LeO.bind ?_ (fun _ => ?_))
      | exact ih0 _ _ _ _
      | exact mooringref01_Mul.mono _ _ _
      | exact LeO.none _
      | refine LeO.ite ?_ ?_
      | refine LeO.bind ?_ (fun _ => ?_)
set_option maxHeartbeats 8000000 in
set_option maxRecDepth 100000 in
theorem mooringref01_Dot.calls (k : Nat) (A0 : Option Addr) (c0 : Nat) (l0 : List Int) (A1 : Option Addr) (c1 : Nat) (l1 : List Int) (r1 : Int) (r2 : Bool) (w : World) (hr0 : Kd.C (Kd.int .u8) w A0 l0.length l0) (hc0 : l0.length ≤ c0) (hr1 : Kd.C (Kd.int .u8) w A1 l1.length l1) (hc1 : l1.length ≤ c1) (h : mooringref01_Dot.f k l0 l1 = some (r1, r2)) :
    Calls Try.prog 47 #[.slice A0 l0.length c0, .slice A1 l1.length c1] w fun e w' => e = .returned (.tuple #[.int .u8 r1, .bool r2]) ∧ Drawn0 w w' := by
  have HR0 := Aside0.mk hr0
  have HC0 := Aside0.mk hc0
  clear hr0 hc0
  have HR1 := Aside0.mk hr1
  have HC1 := Aside0.mk hc1
  clear hr1 hc1
  have H : (if (l0.length : Int) = (l1.length : Int) then (mooringref01_Dot.l0 k l0 l1 0 0) else (some (0, false))) = some (r1, r2) := h
  clear h
  by_cases c3 : (l0.length : Int) = (l1.length : Int)
  · rw [if_pos c3] at H
    have c3b0 : ((l0.length : Int) == (l1.length : Int)) = true := beq_iff_eq.mpr c3
    have c3b1 : ((l0.length : Int) != (l1.length : Int)) = false := bne_eq_false_iff_eq.mpr c3
    have c3b2 : (l0.length == l1.length) = true := by first | simpa using c3 | (simp at c3 ⊢; omega)
    clear c3
    have H' := Aside0.mk H
    clear H
    go_enter Try.func47, Try.ntmps47
    go_wp2
    repeat (go_quiet (fail); try go_wp2)
    go_loopg [6, 7] k (fun kq v6 v7 w' => ∃ (x6_1 : Int) (x7_1 : Int), v6 = .int .u8 x6_1 ∧ v7 = .int .i64 x7_1 ∧ Aside0 (mooringref01_Dot.l0 kq l0 l1 x6_1 x7_1 = some (r1, r2)) ∧ Aside0 (kq ≤ k) ∧ Drawn0 w w')
    case atStart => exact ⟨(0), (0), (by first | rfl | (simp; done) | (simp [*]; done)), (by first | rfl | (simp; done) | (simp [*]; done)), H', ⟨Nat.le_refl _⟩, by repeat (first | exact Drawn0.refl _ | apply Drawn0.step)⟩
    case round =>
      clear H'
      try clear c1
      try clear p2
      try clear c3
      try clear c3b0
      try clear c3b1
      try clear c3b2
      obtain ⟨x6_1, x7_1, rfl, rfl, HA, HK1, ⟨m1, rfl⟩⟩ := hrel
      cases gk with
      | zero => exact absurd HA.out (by simp [mooringref01_Dot.l0])
      | succ k1 =>
        have H := HA.out
        clear HA
        simp only [mooringref01_Dot.l0] at H
        by_cases c4 : x7_1 < (l0.length : Int)
        · rw [if_pos c4] at H
          have c4b0 : decide (x7_1 < (l0.length : Int)) = true := decide_eq_true c4
          clear c4
          by_cases c5 : 0 ≤ x7_1
          · rw [if_pos c5] at H
            have c5b0 : decide (0 ≤ x7_1) = true := decide_eq_true c5
            clear c5
            by_cases c6 : x7_1 < (l1.length : Int)
            · rw [if_pos c6] at H
              have c6b0 : decide (x7_1 < (l1.length : Int)) = true := decide_eq_true c6
              clear c6
              replace H := Option.bind_eq_some_iff.mp H
              obtain ⟨t103, A70, H⟩ := H
              replace H : (mooringref01_Dot.l0 k1 l0 l1 (Go.bits .xor .u8 x6_1 t103) (wrap64 (x7_1 + 1))) = some (r1, r2) := H
              have A7 := Aside0.mk A70
              clear A70
              have H' := Aside0.mk H
              clear H
              have p101 : 0 ≤ (x7_1 : Int) := of_decide_eq_true (by first | (with_reducible assumption) | assumption)
              have q101 : x7_1 < (l0.length : Int) := of_decide_eq_true (by first | (with_reducible assumption) | assumption)
              obtain ⟨ad101, e101, hx101_0⟩ := Kd.at_int HR0.out x7_1 p101 q101
              cases e101
              replace p101 := eq_true p101
              replace q101 := eq_true q101
              have p102 : 0 ≤ (x7_1 : Int) := of_decide_eq_true (by first | (with_reducible assumption) | assumption)
              have q102 : x7_1 < (l1.length : Int) := of_decide_eq_true (by first | (with_reducible assumption) | assumption)
              obtain ⟨ad102, e102, hx102_0⟩ := Kd.at_int HR1.out x7_1 p102 q102
              cases e102
              replace p102 := eq_true p102
              replace q102 := eq_true q102
              go_wp2_with (first | (go_at_call 38; (with_reducible refine (mooringref01_Mul.calls k1 (rd l0 x7_1) (rd l1 x7_1) t103 _ A7.out).mono ?_); rintro e w' ⟨rfl, ⟨nd, rfl⟩⟩; (try first | exact ⟨rfl, _, World.drewN_drewN _ _ _⟩ | exact ⟨rfl, _, Eq.trans (World.drewN_drewN _ _ _) (congrArg (World.drewN _) (Nat.add_assoc _ _ _))⟩)))
              repeat (go_quiet (first | (go_at_call 38; (with_reducible refine (mooringref01_Mul.calls k1 (rd l0 x7_1) (rd l1 x7_1) t103 _ A7.out).mono ?_); rintro e w' ⟨rfl, ⟨nd, rfl⟩⟩; (try first | exact ⟨rfl, _, World.drewN_drewN _ _ _⟩ | exact ⟨rfl, _, Eq.trans (World.drewN_drewN _ _ _) (congrArg (World.drewN _) (Nat.add_assoc _ _ _))⟩))); try go_wp2_with (first | (go_at_call 38; (with_reducible refine (mooringref01_Mul.calls k1 (rd l0 x7_1) (rd l1 x7_1) t103 _ A7.out).mono ?_); rintro e w' ⟨rfl, ⟨nd, rfl⟩⟩; (try first | exact ⟨rfl, _, World.drewN_drewN _ _ _⟩ | exact ⟨rfl, _, Eq.trans (World.drewN_drewN _ _ _) (congrArg (World.drewN _) (Nat.add_assoc _ _ _))⟩))))
              go_roundg k1
              case measure => have := HK1.out; omega
              case rel => exact ⟨(Go.bits .xor .u8 x6_1 t103), (wrap64 (x7_1 + 1)), (by first | rfl | (simp; done) | (simp [*]; done)), (by first | rfl | (simp; done) | (simp [*]; done)), H', ⟨by have := HK1.out; omega⟩, by repeat (first | exact Drawn0.refl _ | apply Drawn0.step)⟩
            · rw [if_neg c6] at H
              exact absurd H (by simp)
          · rw [if_neg c5] at H
            exact absurd H (by simp)
        · rw [if_neg c4] at H
          have c4b0 : decide (x7_1 < (l0.length : Int)) = false := decide_eq_false c4
          clear c4
          simp only [Option.some.injEq, Prod.mk.injEq] at H
          obtain ⟨rfl, rfl⟩ := H
          go_wp2
          repeat (go_quiet (fail); try go_wp2)
          go_ret2
          exact ⟨by first | rfl | (simp; done) | (simp [*]; done), by repeat (first | exact Drawn0.refl _ | apply Drawn0.step)⟩
  · rw [if_neg c3] at H
    have c3b0 : ((l0.length : Int) == (l1.length : Int)) = false := beq_eq_false_iff_ne.mpr c3
    have c3b1 : ((l0.length : Int) != (l1.length : Int)) = true := bne_iff_ne.mpr c3
    have c3b2 : (l0.length == l1.length) = false := by first | simpa using c3 | (simp at c3 ⊢; omega)
    simp only [Option.some.injEq, Prod.mk.injEq] at H
    obtain ⟨rfl, rfl⟩ := H
    go_enter Try.func47, Try.ntmps47
    go_wp2
    repeat (go_quiet (fail); try go_wp2)
    go_ret2
    exact ⟨by first | rfl | (simp; done) | (simp [*]; done), by repeat (first | exact Drawn0.refl _ | apply Drawn0.step)⟩

end Go.Proofs.Ytbogmlckbkogiaa.P

-- Printed by a wrapper (wip/tools/myprint.py) of the kit's print, with hand-written contracts as given leaves.
namespace Go.Proofs.Ytbogmlckbkogiaa.P
open Go.Proofs.Ytbogmlckbkogiaa.Leaf
open Go.RowKit Go.Proofs.YtbogmlckbkogiaaW.PrintWords Go.Proofs.YtbogmlckbkogiaaW.PrintLast Go.Proofs.YtbogmlckbkogiaaW.PrintMore
attribute [local go_sem] max2_int min2_int max_two min_two max_three min_three max_four min_four   -- for this text's walks alone
set_option linter.unusedVariables false
set_option linter.unusedSimpArgs false

/-! ### mooringref01_Same: function 49 -/
def mooringref01_Same.f (l0 : List Int) (l1 : List Int) : Option (Bool) := some ((strOfNums l0).toList == (strOfNums l1).toList)
set_option maxHeartbeats 8000000 in
set_option maxRecDepth 100000 in
theorem mooringref01_Same.calls (A0 : Option Addr) (c0 : Nat) (l0 : List Int) (A1 : Option Addr) (c1 : Nat) (l1 : List Int) (r : Bool) (w : World) (hr0 : Kd.C (Kd.int .u8) w A0 l0.length l0) (hc0 : l0.length ≤ c0) (hr1 : Kd.C (Kd.int .u8) w A1 l1.length l1) (hc1 : l1.length ≤ c1) (h : mooringref01_Same.f l0 l1 = some r) :
    Calls Try.prog 49 #[.slice A0 l0.length c0, .slice A1 l1.length c1] w fun e w' => e = .returned (.bool r) ∧ Drawn0 w w' := by
  have HR0 := Aside0.mk hr0
  have HC0 := Aside0.mk hc0
  clear hr0 hc0
  have HR1 := Aside0.mk hr1
  have HC1 := Aside0.mk hc1
  clear hr1 hc1
  have H : (some ((strOfNums l0).toList == (strOfNums l1).toList)) = some r := h
  clear h
  obtain rfl := Option.some.inj H
  have hcv3 := Kd.C_string (P := Try.prog) (A := A0) (c := c0) Try.underlying22 Try.underlying5 Try.underlying9 HR0.out
  have hcv3b := fun (n_ : Nat) => Kd.C_string (P := Try.prog) (A := A0) (c := c0) Try.underlying22 Try.underlying5 Try.underlying9 (Kd.C_drewN HR0.out n_)
  have hcv4 := Kd.C_string (P := Try.prog) (A := A1) (c := c1) Try.underlying22 Try.underlying5 Try.underlying9 HR1.out
  have hcv4b := fun (n_ : Nat) => Kd.C_string (P := Try.prog) (A := A1) (c := c1) Try.underlying22 Try.underlying5 Try.underlying9 (Kd.C_drewN HR1.out n_)
  go_enter Try.func49, Try.ntmps49
  go_wp2
  go_ret
  exact ⟨by first | rfl | (simp; done) | (simp [*]; done), by repeat (first | exact Drawn0.refl _ | apply Drawn0.step)⟩

end Go.Proofs.Ytbogmlckbkogiaa.P

/- Dot and AddMul, of the program and of the reference, answer the sums and rows of products. Conditions: lists below 2^47 bytes. -/
namespace Go.Proofs.Ytbogmlckbkogiaa.Gf
open Go.RowKit Go.Proofs.YtbogmlckbkogiaaW.PrintWords Go.Proofs.Ytbogmlckbkogiaa.Leaf Go.Proofs.Ytbogmlckbkogiaa.P
/-! ### Lists of bytes -/
/-- The numbers of a list of bytes. -/
def ofL (L : List B) : List Int := L.map ofB
/-- The byte at a place, nought behind the end. -/
def at0 (L : List B) (i : Nat) : B := L.getD i 0#8
theorem ofL_length (L : List B) : (ofL L).length = L.length := List.length_map _
theorem rd_ofL (L : List B) (i : Nat) : rd (ofL L) (i : Int) = ofB (at0 L i) := by
  unfold rd ofL at0
  simp only [List.getD_eq_getElem?_getD, List.getElem?_map, Int.toNat_natCast]
  cases L[i]? <;> rfl
theorem row_of {l : List Int} (h : ∀ x ∈ l, (Lit.int .u8 x).wf = true) : ∃ L : List B, l = ofL L := by
  refine ⟨l.map toB, ?_⟩
  unfold ofL
  rw [List.map_map]
  refine (List.map_id' l).symm.trans (List.map_congr_left fun x hx => ?_)
  have h1 : 0 ≤ x ∧ x ≤ 255 := by simpa [Lit.wf, IntKind.min, IntKind.max, IntKind.signed, IntKind.bits] using h x hx
  exact (ofB_toB x h1.1 (by omega)).symm
theorem ofL_inj {L M : List B} (h : ofL L = ofL M) : L = M := by
  have := congrArg (List.map toB) h
  unfold ofL at this
  rw [List.map_map, List.map_map] at this
  simpa [Function.comp_def, toB_ofB] using this
theorem ofL_nil : ofL [] = [] := rfl
theorem ofL_set (L : List B) (i : Nat) (b : B) : (ofL L).set i (ofB b) = ofL (L.set i b) := by unfold ofL; rw [List.map_set]
theorem ofL_replicate (n : Nat) : List.replicate n (0 : Int) = ofL (List.replicate n 0#8) := by unfold ofL; rw [List.map_replicate]; rfl
/-- The sum of the products at the first `n` places. -/
def dn (L M : List B) : Nat → B
  | 0 => 0#8
  | n + 1 => dn L M n ^^^ mul (at0 L n) (at0 M n)
theorem gfDot_l0 (L M : List B) (hL : L.length = M.length) (hs : L.length < 2 ^ 62) (n : Nat) : ∀ i : Nat, i + n = L.length → Ev (fun k => gf_Dot.l0 k (ofL L) (ofL M) (ofB (dn L M i)) (L.length : Int) (i : Int)) (ofB (dn L M L.length), true) := by
  induction n with
  | zero =>
    intro i hi
    refine Ev.step (f := fun _ => some (ofB (dn L M i), true)) (fun k => ?_) ?_
    · simp only [gf_Dot.l0]
      rw [if_neg (by omega)]
    · rw [show i = L.length by omega]
      exact Ev.now _
  | succ n ih =>
    intro i hi
    refine Ev.step (f := fun k => gf_Dot.l0 k (ofL L) (ofL M) (ofB (dn L M (i + 1))) (L.length : Int) ((i + 1 : Nat) : Int)) (fun k => ?_) (ih (i + 1) (by omega))
    simp only [gf_Dot.l0, ofL_length]
    rw [if_pos (by omega), if_pos (by omega), if_pos (by omega), if_pos (by omega), rd_ofL, rd_ofL, gfMul_eq, Option.bind_some, xor_ofB, w64 _ (by omega) (by omega)]
    rfl
def dotB (L M : List B) : Int × Bool := if L.length = M.length then (ofB (dn L M L.length), true) else (0, false)
theorem gfDot (L M : List B) (hs : L.length < 2 ^ 62) : Ev (fun k => gf_Dot.f k (ofL L) (ofL M)) (dotB L M) := by
  unfold gf_Dot.f dotB
  simp only [ofL_length]
  by_cases h : L.length = M.length
  · simp only [show ((L.length : Int) = (M.length : Int)) = True from eq_true (by omega), if_true, if_pos h]
    exact gfDot_l0 L M h hs L.length 0 (by omega)
  · simp only [show ((L.length : Int) = (M.length : Int)) = False from eq_false (by omega), if_false, if_neg h]
    exact Ev.now _
theorem refDot_l0 (L M : List B) (hL : L.length = M.length) (hs : L.length < 2 ^ 62) (n : Nat) : ∀ i : Nat, i + n = L.length → Ev (fun k => mooringref01_Dot.l0 k (ofL L) (ofL M) (ofB (dn L M i)) (i : Int)) (ofB (dn L M L.length), true) := by
  induction n with
  | zero =>
    intro i hi
    refine Ev.step (f := fun _ => some (ofB (dn L M i), true)) (fun k => ?_) ?_
    · simp only [mooringref01_Dot.l0, ofL_length]
      rw [if_neg (by omega)]
    · rw [show i = L.length by omega]
      exact Ev.now _
  | succ n ih =>
    intro i hi
    refine Ev.step (f := fun k => (mooringref01_Mul.f k (ofB (at0 L i)) (ofB (at0 M i))).bind fun t => mooringref01_Dot.l0 k (ofL L) (ofL M) (Go.bits .xor .u8 (ofB (dn L M i)) t) ((i + 1 : Nat) : Int)) (fun k => ?_) ?_
    · simp only [mooringref01_Dot.l0, ofL_length]
      rw [if_pos (by omega), if_pos (by omega), if_pos (by omega), rd_ofL, rd_ofL, w64 _ (by omega) (by omega)]
      rfl
    · refine Ev.bind (refMul _ _) ?_
      rw [xor_ofB]
      exact ih (i + 1) (by omega)
theorem refDot (L M : List B) (hs : L.length < 2 ^ 62) : Ev (fun k => mooringref01_Dot.f k (ofL L) (ofL M)) (dotB L M) := by
  unfold mooringref01_Dot.f dotB
  simp only [ofL_length]
  by_cases h : L.length = M.length
  · simp only [show ((L.length : Int) = (M.length : Int)) = True from eq_true (by omega), if_true, if_pos h]
    exact refDot_l0 L M h hs L.length 0 (by omega)
  · simp only [show ((L.length : Int) = (M.length : Int)) = False from eq_false (by omega), if_false, if_neg h]
    exact Ev.now _
/-- The row of `a + s * b`, its first `n` places done. -/
def am (L M : List B) (s : B) (n : Nat) : List B := (List.range L.length).map fun j => if j < n then at0 L j ^^^ mul (at0 M j) s else 0#8
theorem am_length (L M : List B) (s : B) (n : Nat) : (am L M s n).length = L.length := by unfold am; rw [List.length_map, List.length_range]
theorem at0_am (L M : List B) (s : B) (n j : Nat) (hj : j < L.length) : at0 (am L M s n) j = if j < n then at0 L j ^^^ mul (at0 M j) s else 0#8 := by
  unfold am
  show ((List.range L.length).map _).getD j 0#8 = _
  rw [List.getD_eq_getElem?_getD, List.getElem?_map, List.getElem?_range hj]
  rfl
theorem ext0 {L M : List B} (hl : L.length = M.length) (h : ∀ j, j < L.length → at0 L j = at0 M j) : L = M := by
  refine List.ext_getElem hl fun j h1 h2 => ?_
  have := h j h1
  unfold at0 at this
  simpa [List.getD_eq_getElem?_getD, h1, h2] using this
theorem at0_set (L : List B) (i j : Nat) (b : B) (hi : i < L.length) : at0 (L.set i b) j = if i = j then b else at0 L j := by
  unfold at0
  simp only [List.getD_eq_getElem?_getD, List.getElem?_set]
  by_cases h : i = j
  · subst h; simp [hi]
  · simp [h]
theorem am_set (L M : List B) (s : B) (i : Nat) (hi : i < L.length) : (am L M s i).set i (at0 L i ^^^ mul (at0 M i) s) = am L M s (i + 1) := by
  refine ext0 (by rw [List.length_set, am_length, am_length]) fun j hj => ?_
  rw [List.length_set, am_length] at hj
  rw [at0_set _ _ _ _ (by rw [am_length]; exact hi), at0_am _ _ _ _ _ hj, at0_am _ _ _ _ _ hj]
  by_cases h : i = j
  · subst h; rw [if_pos rfl, if_pos (by omega)]
  · rw [if_neg h]
    by_cases h2 : j < i
    · rw [if_pos h2, if_pos (by omega)]
    · rw [if_neg h2, if_neg (by omega)]
theorem am_zero (L M : List B) (s : B) : List.replicate L.length 0#8 = am L M s 0 := by
  refine ext0 (by rw [List.length_replicate, am_length]) fun j hj => ?_
  rw [List.length_replicate] at hj
  rw [at0_am _ _ _ _ _ hj, if_neg (by omega)]
  unfold at0
  simp [List.getD_eq_getElem?_getD, hj]
theorem gfAddMul_l0 (L M : List B) (s : B) (hL : L.length = M.length) (hs : L.length < 2 ^ 62) (n : Nat) : ∀ i : Nat, i + n = L.length → Ev (fun k => gf_AddMul.l0 k (ofL L) (ofL M) (ofB s) (ofL (am L M s i)) (L.length : Int) (i : Int)) (ofL (am L M s L.length), true) := by
  induction n with
  | zero =>
    intro i hi
    refine Ev.step (f := fun _ => some (ofL (am L M s i), true)) (fun k => ?_) ?_
    · simp only [gf_AddMul.l0]
      rw [if_neg (by omega)]
    · rw [show i = L.length by omega]
      exact Ev.now _
  | succ n ih =>
    intro i hi
    refine Ev.step (f := fun k => gf_AddMul.l0 k (ofL L) (ofL M) (ofB s) (ofL (am L M s (i + 1))) (L.length : Int) ((i + 1 : Nat) : Int)) (fun k => ?_) (ih (i + 1) (by omega))
    simp only [gf_AddMul.l0, ofL_length, am_length]
    rw [if_pos (by omega), if_pos (by omega), if_pos (by omega), if_pos (by omega), rd_ofL, rd_ofL, gfMul_eq, Option.bind_some, if_pos (by omega), xor_ofB, Int.toNat_natCast, ofL_set, am_set _ _ _ _ (by omega), w64 _ (by omega) (by omega)]
    rfl
def addMulB (L M : List B) (s : B) : List Int × Bool := if L.length = M.length then (ofL (am L M s L.length), true) else ([], false)
theorem gfAddMul (L M : List B) (s : B) (hs : L.length < 2 ^ 48) : Ev (fun k => gf_AddMul.f k (ofL L) (ofL M) (ofB s)) (addMulB L M s) := by
  unfold gf_AddMul.f addMulB
  simp only [ofL_length]
  by_cases h : L.length = M.length
  · simp only [show ((L.length : Int) = (M.length : Int)) = True from eq_true (by omega), show (0 ≤ (L.length : Int)) = True from eq_true (by omega), if_true, if_pos h]
    simp only [Int.toNat_natCast, show (L.length ≤ 281474976710656) = True from eq_true (by omega), if_true, Option.bind_some, Int.toNat_natCast, List.length_replicate]
    rw [ofL_replicate, am_zero L M s]
    exact gfAddMul_l0 L M s h (by omega) L.length 0 (by omega)
  · simp only [show ((L.length : Int) = (M.length : Int)) = False from eq_false (by omega), if_false, if_neg h]
    exact Ev.now _
theorem refSame_self (l : List Int) : mooringref01_Same.f l l = some true := by
  unfold mooringref01_Same.f
  rw [beq_self_eq_true]
end Go.Proofs.Ytbogmlckbkogiaa.Gf

/- A matrix in memory of the call's own: an outer row, its rows apart; what a store, an exchange of rows, a new row turn. -/
namespace Go.Proofs.Ytbogmlckbkogiaa.H
open Go.RowKit Go.Proofs.YtbogmlckbkogiaaW.PrintWords Go.Proofs.Ytbogmlckbkogiaa.Leaf
set_option linter.unusedVariables false
/-- A row of bytes at the head of a block of the call's own. -/
def Rw (w : World) (base id cap : Nat) (r : List Int) : Prop := w.ownsRow base 5 1 (.slice (some ⟨id, 0, none⟩) r.length cap) r.length (encs (Value.int .u8) r)
/-- The slice that leads to row `i`. -/
def sl (id cap : Nat → Nat) (A : List (List Int)) (i : Nat) : Value := .slice (some ⟨id i, 0, none⟩) (A.getD i []).length (cap i)
def up (f : Nat → Nat) (i x : Nat) : Nat → Nat := fun k => if k = i then x else f k
def tw (f : Nat → Nat) (i j : Nat) : Nat → Nat := fun k => if k = j then f i else if k = i then f j else f k
def swapL (A : List (List Int)) (i j : Nat) : List (List Int) := (A.set i (A.getD j [])).set j (A.getD i [])
theorem getD_set (A : List (List Int)) (i k : Nat) (r : List Int) (hi : i < A.length) : (A.set i r).getD k [] = if k = i then r else A.getD k [] := by
  simp only [List.getD_eq_getElem?_getD, List.getElem?_set]
  by_cases h : k = i
  · subst h; simp [hi]
  · simp [h, Ne.symm h]
theorem swapL_length (A : List (List Int)) (i j : Nat) : (swapL A i j).length = A.length := by simp [swapL]
theorem getD_swapL (A : List (List Int)) (i j k : Nat) (hi : i < A.length) (hj : j < A.length) : (swapL A i j).getD k [] = if k = j then A.getD i [] else if k = i then A.getD j [] else A.getD k [] := by
  unfold swapL
  rw [getD_set _ _ _ _ (by simpa using hj), getD_set _ _ _ _ hi]
structure Mt (w : World) (base g cp : Nat) (id cap : Nat → Nat) (A : List (List Int)) : Prop where
  outer : w.ownsRow base 22 1 (.slice (some ⟨g, 0, none⟩) A.length cp) A.length (encs (sl id cap A) (List.range A.length))
  rows : ∀ i, i < A.length → Rw w base (id i) (cap i) (A.getD i [])
  inj : ∀ i j, i < A.length → j < A.length → id i = id j → i = j
section
variable {w w1 : World} {base g cp b c : Nat} {id cap : Nat → Nat} {A : List (List Int)} {r : List Int}
theorem Rw.typed (h : Rw w base b c r) : ∃ cells, w.heap[b]? = some (.cells cells 5 (0, 0)) := own_typed h b rfl
theorem Rw.base_ (h : Rw w base b c r) : base ≤ b := own_base h b rfl
theorem Rw.lt (h : Rw w base b c r) : b < w.heap.size := own_lt h b rfl
theorem Rw.far (h : Rw w base b c r) {p : Addr} (hp : p.block ≠ b) (u : Value) : Rw (w.setCell p u) base b c r := own_setCell h (by simp [Value.ownBlock, hp]) u
theorem Rw.put (h : Rw w base b c r) (j : Nat) (x : Int) : Rw (w.setCell ⟨b, j, none⟩ (.int .u8 x)) base b c (r.set j x) := by
  have := (h.stored j (.int .u8 x)).1
  unfold Rw
  rw [List.length_set, show encs (Value.int .u8) (r.set j x) = (encs (Value.int .u8) r).set j (.int .u8 x) by simp [encs, List.map_set]]
  exact this
theorem Rw.cell (h : Rw w base b c r) (j : Nat) (hj : j < r.length) : w.cell? ⟨b, j, none⟩ = some (.int .u8 (rd r (j : Int))) ∧ w.frozen? ⟨b, j, none⟩ = false := by
  have := own_at_of (d := 0) h (j : Int) (by omega) (by omega)
  simpa [rdOf, rd] using this
theorem Rw.reads (h : Rw w base b c r) : Kd.C (Kd.int .u8) w (some ⟨b, 0, none⟩) r.length r ∧ r.length ≤ c := by
  have hR : Kd.R (Kd.int .u8) 5 w base (fun _ => True) (.slice (some ⟨b, 0, none⟩) r.length c) r := Kd.R_of_own h (fun _ _ => trivial)
  exact ⟨(Kd.R_reads' hR).2.2, (Kd.R_reads' hR).2.1⟩
theorem Rw.of_R {v : Value} (h : Kd.R (Kd.int .u8) 5 w base (fun _ => True) v r) (hp : 0 < r.length) : ∃ b c, v = .slice (some ⟨b, 0, none⟩) r.length c ∧ Rw w base b c r := by
  obtain ⟨g, cap, rfl, _⟩ := Kd.R_form h hp
  exact ⟨g, cap, rfl, Kd.own_of_R h⟩
theorem Mt.typed (h : Mt w base g cp id cap A) : ∃ cells, w.heap[g]? = some (.cells cells 22 (0, 0)) := own_typed h.outer g rfl
theorem Mt.gbase (h : Mt w base g cp id cap A) : base ≤ g := own_base h.outer g rfl
theorem Mt.glt (h : Mt w base g cp id cap A) : g < w.heap.size := own_lt h.outer g rfl
theorem Mt.ne (h : Mt w base g cp id cap A) (h2 : Rw w base b c r) : b ≠ g := by
  obtain ⟨cs, hc⟩ := h.typed
  obtain ⟨cs', hc'⟩ := h2.typed
  rintro rfl
  rw [hc] at hc'
  simp at hc'
theorem Mt.at_ (h : Mt w base g cp id cap A) (i : Nat) (hi : i < A.length) : w.cell? ⟨g, i, none⟩ = some (sl id cap A i) ∧ w.frozen? ⟨g, i, none⟩ = false := by
  have := own_at_of (d := 0) h.outer (i : Int) (by omega) (by omega)
  simpa [rdOf, List.getD_eq_getElem?_getD, List.getElem?_range hi] using this
theorem Mt.move (h : Mt w base g cp id cap A) (hm : ∀ k, (k = g ∨ ∃ i, i < A.length ∧ k = id i) → w1.heap[k]? = w.heap[k]?) : Mt w1 base g cp id cap A :=
  ⟨own_move h.outer (fun k hk => hm k (.inl (by simpa [Value.ownBlock] using hk.symm))), fun i hi => own_move (h.rows i hi) (fun k hk => hm k (.inr ⟨i, hi, by simpa [Value.ownBlock] using hk.symm⟩)), h.inj⟩
theorem Mt.lt (h : Mt w base g cp id cap A) (k : Nat) (hk : k = g ∨ ∃ i, i < A.length ∧ k = id i) : k < w.heap.size ∧ base ≤ k := by
  rcases hk with rfl | ⟨i, hi, rfl⟩
  · exact ⟨h.glt, h.gbase⟩
  · exact ⟨(h.rows i hi).lt, (h.rows i hi).base_⟩
theorem Mt.below (h : Mt w base g cp id cap A) (hb : Below w.heap.size w w1) : Mt w1 base g cp id cap A := h.move (fun k hk => hb.block k (h.lt k hk).1)
theorem Mt.far (h : Mt w base g cp id cap A) {p : Addr} (h0 : p.block ≠ g) (h1 : ∀ i, i < A.length → p.block ≠ id i) (u : Value) : Mt (w.setCell p u) base g cp id cap A :=
  h.move (fun k hk => Below.heap_setCell w p u k (by rcases hk with rfl | ⟨i, hi, rfl⟩; exact Ne.symm h0; exact Ne.symm (h1 i hi)))
theorem Mt.put (h : Mt w base g cp id cap A) (i : Nat) (hi : i < A.length) (j : Nat) (x : Int) : Mt (w.setCell ⟨id i, j, none⟩ (.int .u8 x)) base g cp id cap (A.set i ((A.getD i []).set j x)) := by
  have hsl : ∀ k, sl id cap (A.set i ((A.getD i []).set j x)) k = sl id cap A k := by
    intro k
    unfold sl
    rw [getD_set _ _ _ _ hi]
    by_cases hk : k = i
    · subst hk; rw [if_pos rfl, List.length_set]
    · rw [if_neg hk]
  refine ⟨?_, fun k hk => ?_, fun k l hk hl => h.inj k l (by simpa using hk) (by simpa using hl)⟩
  · rw [List.length_set, show encs (sl id cap (A.set i ((A.getD i []).set j x))) (List.range A.length) = encs (sl id cap A) (List.range A.length) from List.map_congr_left fun k _ => hsl k]
    exact own_setCell h.outer (by simp [Value.ownBlock, h.ne (h.rows i hi)]) _
  · rw [List.length_set] at hk
    rw [getD_set _ _ _ _ hi]
    by_cases e : k = i
    · subst e; rw [if_pos rfl]; exact (h.rows k hk).put j x
    · rw [if_neg e]; exact (h.rows k hk).far (fun e2 => e (h.inj k i hk hi e2.symm)) _
theorem encs_set {enc enc' : Nat → Value} {n i : Nat} {u : Value} (hi : i < n) (hu : enc' i = u) (hne : ∀ k, k < n → k ≠ i → enc' k = enc k) : (encs enc (List.range n)).set i u = encs enc' (List.range n) := by
  unfold encs
  refine List.ext_getElem (by simp) fun k h1 h2 => ?_
  simp only [List.length_set, List.length_map, List.length_range] at h1
  rw [List.getElem_set]
  by_cases e : i = k
  · subst e; simp [hu]
  · simp [e, hne k h1 (fun e2 => e e2.symm)]
theorem Mt.setRow (h : Mt w base g cp id cap A) (i : Nat) (hi : i < A.length) (hr : Rw w base b c r) (hb : ∀ k, k < A.length → k ≠ i → id k ≠ b) :
    Mt (w.setCell ⟨g, i, none⟩ (.slice (some ⟨b, 0, none⟩) r.length c)) base g cp (up id i b) (up cap i c) (A.set i r) := by
  have hbg := h.ne hr
  have h1 : sl (up id i b) (up cap i c) (A.set i r) i = .slice (some ⟨b, 0, none⟩) r.length c := by unfold sl up; rw [getD_set _ _ _ _ hi]; simp
  have h2 : ∀ k, k ≠ i → sl (up id i b) (up cap i c) (A.set i r) k = sl id cap A k := by intro k hk; unfold sl up; rw [getD_set _ _ _ _ hi]; simp [hk]
  refine ⟨?_, fun k hk => ?_, fun k l hk hl => ?_⟩
  · rw [List.length_set, ← encs_set (enc := sl id cap A) hi h1 (fun k _ hk => h2 k hk)]
    exact (h.outer.stored i _).1
  · rw [List.length_set] at hk
    rw [getD_set _ _ _ _ hi]
    unfold up
    by_cases e : k = i
    · rw [if_pos e, if_pos e, if_pos e]; exact hr.far (Ne.symm hbg) _
    · rw [if_neg e, if_neg e, if_neg e]; exact (h.rows k hk).far (Ne.symm (h.ne (h.rows k hk))) _
  · rw [List.length_set] at hk hl
    unfold up
    by_cases e : k = i <;> by_cases e2 : l = i
    · intro _; rw [e, e2]
    · rw [if_pos e, if_neg e2]; intro h3; exact absurd h3.symm (hb l hl e2)
    · rw [if_neg e, if_pos e2]; intro h3; exact absurd h3 (hb k hk e)
    · rw [if_neg e, if_neg e2]; exact h.inj k l hk hl
theorem Mt.swap (h : Mt w base g cp id cap A) (i j : Nat) (hi : i < A.length) (hj : j < A.length) :
    Mt ((w.setCell ⟨g, i, none⟩ (sl id cap A j)).setCell ⟨g, j, none⟩ (sl id cap A i)) base g cp (tw id i j) (tw cap i j) (swapL A i j) := by
  have hs : ∀ k, sl (tw id i j) (tw cap i j) (swapL A i j) k = if k = j then sl id cap A i else if k = i then sl id cap A j else sl id cap A k := by
    intro k
    unfold sl tw
    rw [getD_swapL _ _ _ _ hi hj]
    by_cases e : k = j
    · simp [e]
    · by_cases e2 : k = i
      · subst e2; simp [e]
      · simp [e, e2]
  have h1 := h.outer.stored i (sl id cap A j)
  have h2 := h1.1.stored j (sl id cap A i)
  refine ⟨?_, fun k hk => ?_, fun k l hk hl => ?_⟩
  · rw [swapL_length]
    have e : ((encs (sl id cap A) (List.range A.length)).set i (sl id cap A j)).set j (sl id cap A i) = encs (sl (tw id i j) (tw cap i j) (swapL A i j)) (List.range A.length) := by
      rw [encs_set (enc := sl id cap A) (enc' := fun k => if k = i then sl id cap A j else sl id cap A k) hi (by simp) (fun k _ hk => by simp [hk]),
        encs_set (enc' := sl (tw id i j) (tw cap i j) (swapL A i j)) hj (by rw [hs]; simp) (fun k _ hk => by rw [hs]; simp [hk])]
    rw [← e]
    exact h2.1
  · rw [swapL_length] at hk
    have far : ∀ m, m < A.length → Rw ((w.setCell ⟨g, i, none⟩ (sl id cap A j)).setCell ⟨g, j, none⟩ (sl id cap A i)) base (id m) (cap m) (A.getD m []) := by
      intro m hm
      have hne := Ne.symm (h.ne (h.rows m hm))
      exact ((h.rows m hm).far hne _).far hne _
    rw [getD_swapL _ _ _ _ hi hj]
    unfold tw
    by_cases e : k = j
    · rw [if_pos e, if_pos e, if_pos e]; exact far i hi
    · rw [if_neg e, if_neg e, if_neg e]
      by_cases e2 : k = i
      · rw [if_pos e2, if_pos e2, if_pos e2]; exact far j hj
      · rw [if_neg e2, if_neg e2, if_neg e2]; exact far k hk
  · rw [swapL_length] at hk hl
    intro h3
    unfold tw at h3
    by_cases e : k = j <;> by_cases e2 : l = j
    · omega
    · rw [if_pos e, if_neg e2] at h3
      by_cases e3 : l = i
      · rw [if_pos e3] at h3; have := h.inj i j hi hj h3; omega
      · rw [if_neg e3] at h3; have := h.inj i l hi hl h3; omega
    · rw [if_neg e, if_pos e2] at h3
      by_cases e3 : k = i
      · rw [if_pos e3] at h3; have := h.inj j i hj hi h3; omega
      · rw [if_neg e3] at h3; have := h.inj k i hk hi h3; omega
    · rw [if_neg e, if_neg e2] at h3
      by_cases e3 : k = i <;> by_cases e4 : l = i
      · omega
      · rw [if_pos e3, if_neg e4] at h3; have := h.inj j l hj hl h3; omega
      · rw [if_neg e3, if_pos e4] at h3; have := h.inj k j hk hj h3; omega
      · rw [if_neg e3, if_neg e4] at h3; exact h.inj k l hk hl h3
theorem Mt.of_S {ok : Nat → Prop} {v : Value} (h : Kd.S (Kd.slice 5 (Kd.int .u8)) 22 w base ok v A) (h0 : 0 < A.length) (hr : ∀ i, i < A.length → 0 < (A.getD i []).length) :
    ∃ g cp id cap, v = .slice (some ⟨g, 0, none⟩) A.length cp ∧ Mt w base g cp id cap A ∧ ok g ∧ ∀ i, i < A.length → ok (id i) := by
  obtain ⟨g, cp, hv, _⟩ := Kd.S_form h h0
  obtain ⟨f, hok, inner, ho, hrp⟩ := h
  rw [List.length_zipIdx] at ho
  have hl : inner.length = A.length := by have := ho.1; rw [show (Kd.tag f (Kd.slice 5 (Kd.int .u8))).sz = 1 from rfl] at this; omega
  have key : ∀ i, i < A.length → ∃ b c, inner[i]? = some (.slice (some ⟨b, 0, none⟩) (A.getD i []).length c) ∧ Rw w base b c (A.getD i []) ∧ f b = i ∧ ok b := by
    intro i hi
    have hAi : A[i]? = some (A.getD i []) := by rw [List.getD_eq_getElem?_getD, List.getElem?_eq_getElem hi]; rfl
    obtain ⟨vi, hc, hR⟩ := hrp.2 i (A.getD i [], i) (Kd.zip_at hAi)
    obtain ⟨b, c, rfl, hb⟩ := Kd.R_form hR (hr i hi)
    have hci : (inner.drop i).take 1 = [.slice (some ⟨b, 0, none⟩) (A.getD i []).length c] := by simpa [Kd.tag, Kd.slice] using hc
    refine ⟨b, c, ?_, Kd.own_of_R hR, ?_, ?_⟩
    · have := congrArg (fun l => l[0]?) hci
      simpa [List.getElem?_take, List.getElem?_drop] using this
    · exact (hR.1 b rfl).2
    · exact (hR.1 b rfl).1.1
  let id : Nat → Nat := fun i => if hi : i < A.length then (key i hi).choose else 0
  let cap : Nat → Nat := fun i => if hi : i < A.length then (key i hi).choose_spec.choose else 0
  have kid : ∀ i, i < A.length → inner[i]? = some (.slice (some ⟨id i, 0, none⟩) (A.getD i []).length (cap i)) ∧ Rw w base (id i) (cap i) (A.getD i []) ∧ f (id i) = i ∧ ok (id i) := by
    intro i hi
    have := (key i hi).choose_spec.choose_spec
    simp only [id, cap, hi, dite_true]
    exact this
  subst hv
  refine ⟨g, cp, id, cap, rfl, ⟨?_, fun i hi => (kid i hi).2.1, fun i j hi hj e => ?_⟩, hok g rfl, fun i hi => (kid i hi).2.2.2⟩
  · have e : inner = encs (sl id cap A) (List.range A.length) := by
      unfold encs
      refine List.ext_getElem? fun i => ?_
      by_cases hi : i < A.length
      · rw [(kid i hi).1, List.getElem?_map, List.getElem?_range hi]
        rfl
      · rw [List.getElem?_eq_none (by omega), List.getElem?_eq_none (by simp; omega)]
    rw [← e]
    exact ho
  · have h1 := (kid i hi).2.2.1
    have h2 := (kid j hj).2.2.1
    rw [e] at h1
    omega
theorem Mt.to_S (h : Mt w base g cp id cap A) : Kd.S (Kd.slice 5 (Kd.int .u8)) 22 w base (fun k => k = g ∨ ∃ i, i < A.length ∧ k = id i) (.slice (some ⟨g, 0, none⟩) A.length cp) A := by
  refine ⟨fun k => ((List.range A.length).find? fun i => id i == k).getD 0, fun k hk => .inl (by simpa [Value.ownBlock] using hk.symm), encs (sl id cap A) (List.range A.length), ?_, ?_⟩
  · rw [List.length_zipIdx]; exact h.outer
  · refine ⟨by show (encs (sl id cap A) (List.range A.length)).length = A.zipIdx.length * 1; simp [encs], fun j p hj => ?_⟩
    have hj' : A.zipIdx[j]? = some p := hj
    rw [List.getElem?_zipIdx] at hj'
    obtain ⟨r, hr, rfl⟩ := Option.map_eq_some_iff.1 hj'
    have hlt : j < A.length := (List.getElem?_eq_some_iff.1 hr).1
    have hrD : A.getD j [] = r := by rw [List.getD_eq_getElem?_getD, hr]; rfl
    refine ⟨sl id cap A j, ?_, ?_⟩
    · show ((encs (sl id cap A) (List.range A.length)).drop (j * 1)).take 1 = _
      rw [Nat.mul_one]
      refine List.ext_getElem? fun k => ?_
      cases k with
      | zero => simp [encs, List.getElem?_drop, List.getElem?_range hlt]
      | succ k => simp [List.getElem?_take]
    · unfold sl
      rw [hrD]
      have hro := h.rows j hlt
      rw [hrD] at hro
      refine Kd.R_of_own hro fun k hk => ?_
      have hk' : k = id j := by simpa [Value.ownBlock] using hk.symm
      subst hk'
      refine ⟨⟨.inr ⟨j, hlt, rfl⟩, ?_⟩, ?_⟩
      · simp only [Value.ownBlock]
        intro e
        exact h.ne hro (Option.some.inj e)
      · show ((List.range A.length).find? fun i => id i == id j).getD 0 = 0 + j
        have : (List.range A.length).find? (fun i => id i == id j) = some j := by
          rw [List.find?_range_eq_some]
          refine ⟨by simp, by simpa using hlt, fun i hi => ?_⟩
          have : id i ≠ id j := fun e => by have := h.inj i j (by omega) hlt e; omega
          simpa using this
        rw [this]
        simp
end
end Go.Proofs.Ytbogmlckbkogiaa.H

/- matrix.reduce, part one: the closure that looks for a row. -/
namespace Go.Proofs.Ytbogmlckbkogiaa.H
open Go.RowKit Go.Proofs.YtbogmlckbkogiaaW.PrintWords Go.Proofs.Ytbogmlckbkogiaa.Leaf
set_option linter.unusedVariables false
set_option maxRecDepth 100000 in
theorem pred_calls (b cp : Nat) (r : List Int) (c : Nat) (q : Addr) (w : World) (base : Nat) (hr : Rw w base b cp r) (hc : c < r.length) (hq : w.cell? q = some (.int .i64 (c : Int))) :
    Calls Try.prog 100 #[.slice (some ⟨b, 0, none⟩) r.length cp, .pointer (some q)] w fun e w' => e = .returned (.bool (rd r (c : Int) != 0)) ∧ Below w.heap.size w w' := by
  obtain ⟨h1, h2⟩ := hr.cell c hc
  have hlt : (c : Int) < (r.length : Int) := by omega
  have h0 : (0 : Int) ≤ (c : Int) := by omega
  clear hr
  go_enter Try.func100, Try.ntmps100
  go_wp2
  go_ret
  exact ⟨rfl, Below.refl _ _⟩
end Go.Proofs.Ytbogmlckbkogiaa.H
/-! ### What reduce reckons -/
namespace Go.Proofs.Ytbogmlckbkogiaa.Red
open Go.RowKit Go.Proofs.YtbogmlckbkogiaaW.PrintWords Go.Proofs.Ytbogmlckbkogiaa.Leaf Go.Proofs.Ytbogmlckbkogiaa.Gf Go.Proofs.Ytbogmlckbkogiaa.H
abbrev Mat := List (List B)
def row (A : Mat) (i : Nat) : List B := A.getD i []
def el (A : Mat) (i j : Nat) : B := at0 (row A i) j
def swapM (A : Mat) (i j : Nat) : Mat := (A.set i (row A j)).set j (row A i)
/-- A row's places from `j` on, times `v`. -/
def scF (v : B) : Nat → Nat → List B → List B
  | 0, _, r => r
  | n + 1, j, r => scF v n (j + 1) (r.set j (mul (at0 r j) v))
def scale (v : B) (r : List B) : List B := scF v r.length 0 r
/-- The rows from `i` on, the one at `d` taken off so often that column `c` is nought there. -/
def elF (c d : Nat) : Nat → Nat → Mat → Mat → Mat × Mat
  | 0, _, A, Z => (A, Z)
  | n + 1, i, A, Z => if i ≠ d ∧ el A i c ≠ 0#8 then elF c d n (i + 1) (A.set i (am (row A i) (row A d) (el A i c) (row A i).length)) (Z.set i (am (row Z i) (row Z d) (el A i c) (row Z i).length)) else elF c d n (i + 1) A Z
/-- One column's step: the row at `t` is the pivot. -/
def stepF (c d t : Nat) (A Z : Mat) : Mat × Mat :=
  let A1 := swapM A t d
  let Z1 := swapM Z t d
  let v := inv (el A1 d c)
  let A2 := A1.set d (scale v (row A1 d))
  let Z2 := Z1.set d (scale v (row Z1 d))
  elF c d A2.length 0 A2 Z2
/-- Where the pivot is, counted from `d` on; -1 if there is none. -/
def pivot (A : Mat) (d c : Nat) : Int := firstP (fun j => rd (ofL (row A (d + j))) (c : Int) != 0) (A.length - d)
def redF : Nat → Nat → Nat → Mat → Mat → Nat × Mat × Mat
  | 0, _, d, A, Z => (d, A, Z)
  | n + 1, c, d, A, Z => if pivot A d c < 0 then redF n (c + 1) d A Z else
      if d + 1 = A.length then (d + 1, stepF c d ((pivot A d c).toNat + d) A Z) else redF n (c + 1) (d + 1) (stepF c d ((pivot A d c).toNat + d) A Z).1 (stepF c d ((pivot A d c).toNat + d) A Z).2
/-- All rows of one length. -/
def Reg (A : Mat) (n m : Nat) : Prop := A.length = n ∧ ∀ i, i < n → (row A i).length = m
theorem row_set (A : Mat) (i k : Nat) (r : List B) (hi : i < A.length) : row (A.set i r) k = if k = i then r else row A k := by
  unfold row
  simp only [List.getD_eq_getElem?_getD, List.getElem?_set]
  by_cases h : k = i
  · subst h; simp [hi]
  · simp [h, Ne.symm h]
theorem Reg.set {A : Mat} {n m : Nat} (h : Reg A n m) {i : Nat} (hi : i < n) {r : List B} (hr : r.length = m) : Reg (A.set i r) n m := by
  refine ⟨by rw [List.length_set]; exact h.1, fun k hk => ?_⟩
  rw [row_set _ _ _ _ (by rw [h.1]; exact hi)]
  by_cases e : k = i
  · rw [if_pos e]; exact hr
  · rw [if_neg e]; exact h.2 k hk
theorem Reg.swap {A : Mat} {n m : Nat} (h : Reg A n m) {i j : Nat} (hi : i < n) (hj : j < n) : Reg (swapM A i j) n m := (h.set hi (h.2 j hj)).set hj (h.2 i hi)
theorem map_getD (A : Mat) (i : Nat) : (A.map ofL).getD i [] = ofL (row A i) := by
  unfold row
  simp only [List.getD_eq_getElem?_getD, List.getElem?_map]
  cases A[i]? <;> rfl
theorem map_set (A : Mat) (i : Nat) (r : List B) : (A.map ofL).set i (ofL r) = (A.set i r).map ofL := by rw [List.map_set]
theorem map_swap (A : Mat) (i j : Nat) : swapL (A.map ofL) i j = (swapM A i j).map ofL := by
  unfold swapL swapM
  rw [map_getD, map_getD, map_set, map_set]
theorem scF_length (v : B) (n : Nat) : ∀ (j : Nat) (r : List B), (scF v n j r).length = r.length := by
  induction n with
  | zero => intro j r; rfl
  | succ n ih => intro j r; simp only [scF]; rw [ih, List.length_set]
theorem scale_length (v : B) (r : List B) : (scale v r).length = r.length := scF_length _ _ _ _
end Go.Proofs.Ytbogmlckbkogiaa.Red

/- matrix.reduce, part two: the two matrices in memory, and what each statement turns in them. -/
namespace Go.Proofs.Ytbogmlckbkogiaa.H
open Go.RowKit Go.Proofs.YtbogmlckbkogiaaW.PrintWords Go.Proofs.Ytbogmlckbkogiaa.Leaf Go.Proofs.Ytbogmlckbkogiaa.Gf Go.Proofs.Ytbogmlckbkogiaa.Red
set_option linter.unusedVariables false
/-- Two matrices of the call's own, apart. -/
def St (w : World) (base ga ca gb cb n m p : Nat) (A Z : Mat) : Prop :=
  ∃ ida capa idb capb, Mt w base ga ca ida capa (A.map ofL) ∧ Mt w base gb cb idb capb (Z.map ofL) ∧ (∀ i j, i < n → j < n → ida i ≠ idb j) ∧ ga ≠ gb ∧ Reg A n m ∧ Reg Z n p
section
variable {w w1 : World} {base ga ca gb cb n m p : Nat} {A Z : Mat}
theorem St.symm (h : St w base ga ca gb cb n m p A Z) : St w base gb cb ga ca n p m Z A := by
  obtain ⟨a, b, c, d, h1, h2, h3, h4, h5, h6⟩ := h
  exact ⟨c, d, a, b, h2, h1, fun i j hi hj e => h3 j i hj hi e.symm, h4.symm, h6, h5⟩
theorem St.below (h : St w base ga ca gb cb n m p A Z) (hb : Below w.heap.size w w1) : St w1 base ga ca gb cb n m p A Z := by
  obtain ⟨a, b, c, d, h1, h2, h3⟩ := h
  exact ⟨a, b, c, d, h1.below hb, h2.below hb, h3⟩
theorem St.reg (h : St w base ga ca gb cb n m p A Z) : Reg A n m ∧ Reg Z n p ∧ base ≤ ga ∧ base ≤ gb ∧ ga < w.heap.size ∧ gb < w.heap.size := by
  obtain ⟨a, b, c, d, h1, h2, h3, h4, h5, h6⟩ := h
  exact ⟨h5, h6, h1.gbase, h2.gbase, h1.glt, h2.glt⟩
theorem St.read (h : St w base ga ca gb cb n m p A Z) (i : Nat) (hi : i < n) :
    ∃ b c, w.cell? ⟨ga, i, none⟩ = some (.slice (some ⟨b, 0, none⟩) m c) ∧ w.frozen? ⟨ga, i, none⟩ = false ∧ Rw w base b c (ofL (row A i)) := by
  obtain ⟨a, b, c, d, h1, h2, h3, h4, h5, h6⟩ := h
  have hi' : i < (A.map ofL).length := by rw [List.length_map, h5.1]; exact hi
  have hat := h1.at_ i hi'
  have hr := h1.rows i hi'
  rw [map_getD] at hr
  refine ⟨a i, b i, ?_, hat.2, hr⟩
  rw [hat.1]
  unfold sl
  rw [map_getD, ofL_length, h5.2 i hi]
theorem St.swapA (h : St w base ga ca gb cb n m p A Z) {i j : Nat} (hi : i < n) (hj : j < n) {u v : Value} (hu : w.cell? ⟨ga, i, none⟩ = some u) (hv : w.cell? ⟨ga, j, none⟩ = some v) :
    St ((w.setCell ⟨ga, i, none⟩ v).setCell ⟨ga, j, none⟩ u) base ga ca gb cb n m p (swapM A i j) Z := by
  obtain ⟨a, b, c, d, h1, h2, h3, h4, h5, h6⟩ := h
  have hi' : i < (A.map ofL).length := by rw [List.length_map, h5.1]; exact hi
  have hj' : j < (A.map ofL).length := by rw [List.length_map, h5.1]; exact hj
  have e1 := (h1.at_ i hi').1
  have e2 := (h1.at_ j hj').1
  rw [hu] at e1
  rw [hv] at e2
  obtain rfl := Option.some.inj e1
  obtain rfl := Option.some.inj e2
  have hs := h1.swap i j hi' hj'
  rw [map_swap] at hs
  have hz : ∀ (W : World) (q : Nat) (x : Value), Mt W base gb cb c d (Z.map ofL) → (∃ cells, W.heap[ga]? = some (.cells cells 22 (0, 0))) → Mt (W.setCell ⟨ga, q, none⟩ x) base gb cb c d (Z.map ofL) := by
    intro W q x hW ⟨cells, hc⟩
    refine hW.far h4 (fun k hk e => ?_) x
    obtain ⟨cs, hcs⟩ := (hW.rows k hk).typed
    have e' : ga = c k := e
    rw [← e', hc] at hcs
    simp at hcs
  have ht2 : ∃ cells, (w.setCell ⟨ga, i, none⟩ (sl a b (A.map ofL) j)).heap[ga]? = some (.cells cells 22 (0, 0)) := own_typed (h1.outer.stored i _).1 ga rfl
  refine ⟨tw a i j, tw b i j, c, d, hs, hz _ _ _ (hz _ _ _ h2 h1.typed) ht2, fun x y hx hy => ?_, h4, h5.swap hi hj, h6⟩
  unfold tw
  by_cases e : x = j
  · rw [if_pos e]; exact h3 i y hi hy
  · rw [if_neg e]
    by_cases e2 : x = i
    · rw [if_pos e2]; exact h3 j y hj hy
    · rw [if_neg e2]; exact h3 x y hx hy
theorem St.putA (h : St w base ga ca gb cb n m p A Z) {i : Nat} (hi : i < n) {b c : Nat} (hb : w.cell? ⟨ga, i, none⟩ = some (.slice (some ⟨b, 0, none⟩) m c)) (j : Nat) (x : B) :
    St (w.setCell ⟨b, j, none⟩ (.int .u8 (ofB x))) base ga ca gb cb n m p (A.set i ((row A i).set j x)) Z ∧ base ≤ b ∧ b ≠ ga ∧ b ≠ gb ∧ b < w.heap.size := by
  obtain ⟨a, b', c', d, h1, h2, h3, h4, h5, h6⟩ := h
  have hi' : i < (A.map ofL).length := by rw [List.length_map, h5.1]; exact hi
  have e1 := (h1.at_ i hi').1
  rw [hb] at e1
  have e2 : b = a i := by
    have := Option.some.inj e1
    unfold sl at this
    injection this with t1 t2 t3
    injection t1 with t1
    injection t1 with t1
  subst e2
  have hp := h1.put i hi' j (ofB x)
  have hbg := h2.ne (h1.rows i hi')
  rw [map_getD, ofL_set, map_set] at hp
  refine ⟨⟨a, b', c', d, hp, h2.far hbg (fun k hk => h3 i k hi (by rw [List.length_map, h6.1] at hk; exact hk)) _, h3, h4, h5.set hi (by rw [List.length_set]; exact h5.2 i hi), h6⟩, (h1.rows i hi').base_, h1.ne (h1.rows i hi'), hbg, (h1.rows i hi').lt⟩
theorem St.rowA (h : St w base ga ca gb cb n m p A Z) {i : Nat} (hi : i < n) (hbl : Below w.heap.size w w1) {b c : Nat} {r : List B} (hr : Rw w1 base b c (ofL r)) (hn : w.heap.size ≤ b) (hl : r.length = m) :
    St (w1.setCell ⟨ga, i, none⟩ (.slice (some ⟨b, 0, none⟩) m c)) base ga ca gb cb n m p (A.set i r) Z := by
  obtain ⟨a, b', c', d, h1, h2, h3, h4, h5, h6⟩ := h
  have hi' : i < (A.map ofL).length := by rw [List.length_map, h5.1]; exact hi
  have h1' := h1.below hbl
  have h2' := h2.below hbl
  have hs := h1'.setRow i hi' hr (fun k hk _ => by have := (h1.rows k hk).lt; omega)
  rw [map_set, ofL_length, hl] at hs
  refine ⟨up a i b, up b' i c, c', d, hs, h2'.far h4 (fun k hk e => ?_) _, fun x y hx hy => ?_, h4, h5.set hi hl, h6⟩
  · obtain ⟨cs, hcs⟩ := (h2'.rows k hk).typed
    obtain ⟨cs', hcs'⟩ := h1'.typed
    have e' : ga = c' k := e
    rw [← e', hcs'] at hcs
    simp at hcs
  · unfold up
    by_cases e : x = i
    · rw [if_pos e]
      have := (h2.rows y (by rw [List.length_map, h6.1]; exact hy)).lt
      omega
    · rw [if_neg e]; exact h3 x y hx hy
theorem St.cap (h : St w base ga ca gb cb n m p A Z) : n ≤ ca ∧ n ≤ cb := by
  obtain ⟨a, b, c, d, h1, h2, h3, h4, h5, h6⟩ := h
  have e1 := own_le h1.outer
  have e2 := own_le h2.outer
  rw [List.length_map] at e1 e2
  exact ⟨by have := h5.1; omega, by have := h6.1; omega⟩
theorem info22h : (Try.prog.info? 22).map (fun i => (i.zero, i.size, i.bytes)) = some (some (.slice none 0 0), 1, 24) := by kernel_rfl
theorem cut_run (g n c d : Nat) (hd : d < n) (hc : n ≤ c) : ∀ W : World, (Instr.slice 51 (.slice (some ⟨g, 0, none⟩) n c) (some (.int .i64 (d : Int))) none none).run Try.prog W = .ok (.slice (some ⟨g, d, none⟩) (n - d) (c - d)) W := by
  intro W
  obtain ⟨i0, hi, hz⟩ := Option.map_eq_some_iff.1 info22h
  simp only [Prod.mk.injEq] at hz
  have hel : Try.prog.elem 51 = 22 := by simp [Program.elem, Try.underlying51]
  have hu : Try.prog.underlying 51 = some (.slice (Try.prog.elem 51)) := by rw [hel]; exact Try.underlying51
  rw [run_slice_l W 51 _ n c hu .i64 (d : Int) (by omega) (by omega), hel]
  have hcd : c ≠ d := by omega
  simp [sizeOf, typeInfo, hi, hz.2.1, sliced, Result.andThen, hcd, Addr.add]
  exact fun e => e.symm
theorem idx_calls (h : St w base ga ca gb cb n m p A Z) {d c : Nat} (hd : d < n) (hn : n ≤ 255) (hc : c < m) {q : Addr} {W : World} (hq : W.cell? q = some (.int .i64 (c : Int))) (hb : Below w.heap.size w W) :
    Calls Try.prog 99 #[.slice (some ⟨ga, d, none⟩) (n - d) (ca - d), .func (.func 100) #[] #[.pointer (some q)]] W fun e w' => e = .returned (.int .i64 (pivot A d c)) ∧ Below W.heap.size W w' := by
  have h' := h.below hb
  obtain ⟨a, b, c', d', h1, h2, h3, h4, h5, h6⟩ := h'
  have eg := enters_id Try.func100 (by kernel_rfl) rfl
  have hat : ∀ j, j < n - d → d + j < (A.map ofL).length := fun j hj => by rw [List.length_map, h5.1]; omega
  unfold pivot
  rw [h5.1]
  refine indexFunc_calls (fun j => rd (ofL (row A (d + j))) (c : Int) != 0) 100 #[.pointer (some q)] eg (some ⟨ga, d, none⟩) (n - d) (ca - d) (fun j => sl a b (A.map ofL) (d + j)) W (by omega) (fun _ => ⟨⟨ga, d, none⟩, rfl, fun j hj => ?_⟩) (fun j hj => rfl) (fun W2 j hj hb2 => ?_)
  · have e : (⟨ga, d, none⟩ : Addr).add j = ⟨ga, d + j, none⟩ := by simp [Addr.add]
    rw [e]
    exact (h1.at_ (d + j) (hat j hj)).1
  · have hr := ((h1.below hb2).rows (d + j) (hat j hj))
    rw [map_getD] at hr
    show Calls Try.prog 100 #[sl a b (A.map ofL) (d + j), .pointer (some q)] W2 _
    unfold sl
    rw [map_getD]
    exact (pred_calls (a (d + j)) (b (d + j)) (ofL (row A (d + j))) c q W2 base hr (by rw [ofL_length, h5.2 _ (by omega)]; exact hc) (pw_cell_below hb2 hq)).mono fun e w' ⟨he, hb3⟩ => ⟨he, below_step hb2 hb3⟩
/-- The variable that the closure looks at. -/
def Col (w : World) (q kk : Nat) : Prop := (∃ cs, w.heap[q]? = some (.cells cs 3 (0, 0))) ∧ w.cell? ⟨q, 0, none⟩ = some (.int .i64 (kk : Int))
theorem Col.below {q kk : Nat} (h : Col w q kk) (hb : Below w.heap.size w w1) : Col w1 q kk := by
  obtain ⟨⟨cs, hc⟩, h2⟩ := h
  exact ⟨⟨cs, (hb.block q (blk_lt hc)).trans hc⟩, pw_cell_below hb h2⟩
theorem Col.far {q kk b j t : Nat} {cells : Array Value} (h : Col w q kk) (hb : w.heap[b]? = some (.cells cells t (0, 0))) (ht : t ≠ 3) (u : Value) : Col (w.setCell ⟨b, j, none⟩ u) q kk := by
  obtain ⟨⟨cs, hc⟩, h2⟩ := h
  have hne : q ≠ b := by
    rintro rfl
    rw [hc] at hb
    simp at hb
    exact ht hb.2.symm
  have hh := Below.heap_setCell w ⟨b, j, none⟩ u q hne
  exact ⟨⟨cs, hh.trans hc⟩, (World.cell?_of_block (w := w) hh).trans h2⟩
theorem St.types (h : St w base ga ca gb cb n m p A Z) : (∃ cells, w.heap[ga]? = some (.cells cells 22 (0, 0))) ∧ ∃ cells, w.heap[gb]? = some (.cells cells 22 (0, 0)) := by
  obtain ⟨a, b, c, d, h1, h2, h3⟩ := h
  exact ⟨h1.typed, h2.typed⟩
theorem St.drew (h : St w base ga ca gb cb n m p A Z) : St w.drew base ga ca gb cb n m p A Z := h.below (below_drew (Below.refl _ _))
end
end Go.Proofs.Ytbogmlckbkogiaa.H

/- Matrices over the field, as functions: sums, products, what undoes a turn of rows, and Cauchy's rows. Conditions: none. -/
namespace Go.Proofs.Ytbogmlckbkogiaa.Mx
open Go.Proofs.Ytbogmlckbkogiaa.Gf
set_option linter.unusedVariables false
abbrev Fm := Nat → Nat → B
/-- The sum of the first n. -/
def sm : Nat → (Nat → B) → B
  | 0, _ => 0#8
  | n + 1, f => sm n f ^^^ f n
theorem sm_congr {n : Nat} {f g : Nat → B} (h : ∀ i, i < n → f i = g i) : sm n f = sm n g := by
  induction n with
  | zero => rfl
  | succ n ih => simp only [sm]; rw [ih (fun i hi => h i (by omega)), h n (by omega)]
theorem sm_zero {n : Nat} {f : Nat → B} (h : ∀ i, i < n → f i = 0#8) : sm n f = 0#8 := by
  induction n with
  | zero => rfl
  | succ n ih => simp only [sm]; rw [ih (fun i hi => h i (by omega)), h n (by omega)]; rfl
theorem sm_add (n : Nat) (f g : Nat → B) : sm n (fun i => f i ^^^ g i) = sm n f ^^^ sm n g := by
  induction n with
  | zero => simp [sm]
  | succ n ih => simp only [sm]; rw [ih, xor_swap4]
theorem sm_mulL (n : Nat) (c : B) (f : Nat → B) : sm n (fun i => mul c (f i)) = mul c (sm n f) := by
  induction n with
  | zero => exact (mul_zero c).symm
  | succ n ih => simp only [sm]; rw [ih, mul_add]
theorem sm_mulR (n : Nat) (c : B) (f : Nat → B) : sm n (fun i => mul (f i) c) = mul (sm n f) c := by
  induction n with
  | zero => exact (zero_mul c).symm
  | succ n ih => simp only [sm]; rw [ih, add_mul]
theorem sm_swap (n m : Nat) (f : Nat → Nat → B) : sm n (fun i => sm m (f i)) = sm m (fun j => sm n (fun i => f i j)) := by
  induction n with
  | zero => exact (sm_zero (fun _ _ => rfl)).symm
  | succ n ih => simp only [sm]; rw [ih, ← sm_add]
theorem sm_single {n i : Nat} {f : Nat → B} (hi : i < n) (h : ∀ j, j < n → j ≠ i → f j = 0#8) : sm n f = f i := by
  induction n with
  | zero => omega
  | succ n ih =>
    simp only [sm]
    by_cases e : i = n
    · subst e
      rw [sm_zero (fun j hj => h j (by omega) (by omega)), BitVec.zero_xor]
    · rw [ih (by omega) (fun j hj hne => h j (by omega) hne), h n (by omega) (fun e2 => e e2.symm), BitVec.xor_zero]
/-- The product over n places. -/
def mm (n : Nat) (a b : Fm) : Fm := fun i j => sm n (fun k => mul (a i k) (b k j))
def I : Fm := fun i j => if i = j then 1#8 else 0#8
theorem mm_assoc (n p : Nat) (a b c : Fm) (i j : Nat) : mm p (mm n a b) c i j = mm n a (mm p b c) i j := by
  unfold mm
  rw [show (fun k => mul (sm n fun l => mul (a i l) (b l k)) (c k j)) = fun k => sm n fun l => mul (mul (a i l) (b l k)) (c k j) from funext fun k => (sm_mulR _ _ _).symm, sm_swap]
  refine sm_congr fun l _ => ?_
  rw [← sm_mulL]
  exact sm_congr fun k _ => mul_assoc _ _ _
theorem mm_congr {n : Nat} {a a' b b' : Fm} {i j : Nat} (h1 : ∀ k, k < n → a i k = a' i k) (h2 : ∀ k, k < n → b k j = b' k j) : mm n a b i j = mm n a' b' i j := sm_congr fun k hk => by rw [h1 k hk, h2 k hk]
theorem mm_IL {n : Nat} (a : Fm) {i : Nat} (j : Nat) (hi : i < n) : mm n I a i j = a i j := by
  unfold mm
  rw [sm_single hi (fun k _ hne => by unfold I; rw [if_neg (fun e => hne e.symm), zero_mul])]
  unfold I
  rw [if_pos rfl, one_mul]
theorem mm_IR {n : Nat} (a : Fm) (i : Nat) {j : Nat} (hj : j < n) : mm n a I i j = a i j := by
  unfold mm
  rw [sm_single hj (fun k _ hne => by unfold I; rw [if_neg hne, mul_zero])]
  unfold I
  rw [if_pos rfl, mul_one]
/-- E and F undo one another. -/
def Inv2 (n : Nat) (E F : Fm) : Prop := (∀ i j, i < n → j < n → mm n E F i j = I i j) ∧ ∀ i j, i < n → j < n → mm n F E i j = I i j
/-- A' is E times A, of n rows and m columns. -/
def Lt (n m : Nat) (E A A' : Fm) : Prop := ∀ i j, i < n → j < m → A' i j = mm n E A i j
/-- Both matrices were turned by one thing that can be undone. -/
def Rturn (n m p : Nat) (A Z A' Z' : Fm) : Prop := ∃ E F, Inv2 n E F ∧ Lt n m E A A' ∧ Lt n p E Z Z'
theorem Inv2.refl (n : Nat) : Inv2 n I I := ⟨fun i j hi _ => mm_IL I j hi, fun i j hi _ => mm_IL I j hi⟩
theorem Lt.refl (n m : Nat) (A : Fm) : Lt n m I A A := fun i j hi _ => (mm_IL A j hi).symm
theorem Rturn.refl (n m p : Nat) (A Z : Fm) : Rturn n m p A Z A Z := ⟨I, I, Inv2.refl n, Lt.refl n m A, Lt.refl n p Z⟩
theorem Lt.trans {n m : Nat} {E E' A A' A'' : Fm} (h : Lt n m E A A') (h' : Lt n m E' A' A'') : Lt n m (mm n E' E) A A'' := by
  intro i j hi hj
  rw [h' i j hi hj, mm_assoc]
  exact mm_congr (fun _ _ => rfl) (fun k hk => h k j hk hj)
theorem Inv2.half {n : Nat} {E F E' F' : Fm} (h : ∀ i j, i < n → j < n → mm n E F i j = I i j) (h' : ∀ i j, i < n → j < n → mm n E' F' i j = I i j) : ∀ i j, i < n → j < n → mm n (mm n E' E) (mm n F F') i j = I i j := by
  intro i j hi hj
  rw [mm_assoc, ← h' i j hi hj]
  refine mm_congr (fun _ _ => rfl) (fun k hk => ?_)
  rw [← mm_assoc, mm_congr (a' := I) (b' := F') (fun l hl => h k l hk hl) (fun _ _ => rfl), mm_IL _ _ hk]
theorem Inv2.trans {n : Nat} {E F E' F' : Fm} (h : Inv2 n E F) (h' : Inv2 n E' F') : Inv2 n (mm n E' E) (mm n F F') := ⟨Inv2.half h.1 h'.1, Inv2.half h'.2 h.2⟩
theorem Rturn.trans {n m p : Nat} {A Z A' Z' A'' Z'' : Fm} (h : Rturn n m p A Z A' Z') (h' : Rturn n m p A' Z' A'' Z'') : Rturn n m p A Z A'' Z'' := by
  obtain ⟨E, F, h1, h2, h3⟩ := h
  obtain ⟨E', F', h1', h2', h3'⟩ := h'
  exact ⟨_, _, h1.trans h1', h2.trans h2', h3.trans h3'⟩
theorem Rturn.congr {n m p : Nat} {A Z A' Z' A'' Z'' : Fm} (h : Rturn n m p A Z A' Z') (hA : ∀ i j, i < n → j < m → A'' i j = A' i j) (hZ : ∀ i j, i < n → j < p → Z'' i j = Z' i j) : Rturn n m p A Z A'' Z'' := by
  obtain ⟨E, F, h1, h2, h3⟩ := h
  exact ⟨E, F, h1, fun i j hi hj => (hA i j hi hj).trans (h2 i j hi hj), fun i j hi hj => (hZ i j hi hj).trans (h3 i j hi hj)⟩
/-- Two rows change places. -/
theorem Rturn.swap {n m p s t : Nat} (A Z : Fm) (hs : s < n) (ht : t < n) : Rturn n m p A Z (fun i => A (if i = t then s else if i = s then t else i)) (fun i => Z (if i = t then s else if i = s then t else i)) := by
  have hlt : ∀ i, i < n → (if i = t then s else if i = s then t else i) < n := by
    intro i hi
    by_cases e : i = t
    · rw [if_pos e]; exact hs
    · rw [if_neg e]
      by_cases e2 : i = s
      · rw [if_pos e2]; exact ht
      · rw [if_neg e2]; exact hi
  have hinv : ∀ i, (if (if i = t then s else if i = s then t else i) = t then s else if (if i = t then s else if i = s then t else i) = s then t else (if i = t then s else if i = s then t else i)) = i := by
    intro i
    by_cases e : i = t
    · subst e
      simp only [if_true]
      by_cases e2 : s = i
      · rw [if_pos e2, e2]
      · rw [if_neg e2]
    · simp only [if_neg e]
      by_cases e2 : i = s
      · subst e2; simp
      · simp [e2, e]
  have hE : ∀ (X : Fm) i j, i < n → mm n (fun i => I (if i = t then s else if i = s then t else i)) X i j = X (if i = t then s else if i = s then t else i) j := by
    intro X i j hi
    exact mm_IL (n := n) X (i := if i = t then s else if i = s then t else i) j (hlt i hi)
  have h2 : ∀ i j, i < n → j < n → mm n (fun i => I (if i = t then s else if i = s then t else i)) (fun i => I (if i = t then s else if i = s then t else i)) i j = I i j := by
    intro i j hi hj
    rw [hE _ i j hi, hinv]
  exact ⟨_, _, ⟨h2, h2⟩, fun i j hi hj => (hE A i j hi).symm, fun i j hi hj => (hE Z i j hi).symm⟩
/-- A row is multiplied. -/
theorem Rturn.scale {n m p d : Nat} {v : B} (A Z : Fm) (hv : v ≠ 0#8) : Rturn n m p A Z (fun i j => mul (if i = d then v else 1#8) (A i j)) (fun i j => mul (if i = d then v else 1#8) (Z i j)) := by
  have hE : ∀ (s : Nat → B) (X : Fm) i j, i < n → mm n (fun i l => mul (s i) (I i l)) X i j = mul (s i) (X i j) := by
    intro s X i j hi
    unfold mm
    rw [show (fun k => mul (mul (s i) (I i k)) (X k j)) = fun k => mul (s i) (mul (I i k) (X k j)) from funext fun k => mul_assoc _ _ _, sm_mulL]
    congr 1
    exact mm_IL X j hi
  refine ⟨fun i l => mul (if i = d then v else 1#8) (I i l), fun i l => mul (if i = d then inv v else 1#8) (I i l), ⟨fun i j hi hj => ?_, fun i j hi hj => ?_⟩, fun i j hi hj => (hE (fun i => if i = d then v else 1#8) A i j hi).symm, fun i j hi hj => (hE (fun i => if i = d then v else 1#8) Z i j hi).symm⟩
  · rw [hE (fun i => if i = d then v else 1#8) _ i j hi, ← mul_assoc]
    by_cases e : i = d
    · rw [if_pos e, if_pos e, mul_inv v hv, one_mul]
    · rw [if_neg e, if_neg e, one_mul, one_mul]
  · rw [hE (fun i => if i = d then inv v else 1#8) _ i j hi, ← mul_assoc]
    by_cases e : i = d
    · rw [if_pos e, if_pos e, inv_mul v hv, one_mul]
    · rw [if_neg e, if_neg e, one_mul, one_mul]
/-- A row's multiples are added to the others. -/
theorem Rturn.add {n m p d : Nat} (A Z : Fm) (x : Nat → B) (hd : d < n) (hx : x d = 0#8) : Rturn n m p A Z (fun i j => A i j ^^^ mul (x i) (A d j)) (fun i j => Z i j ^^^ mul (x i) (Z d j)) := by
  have hE : ∀ (X : Fm) i j, i < n → mm n (fun i l => I i l ^^^ mul (x i) (I d l)) X i j = X i j ^^^ mul (x i) (X d j) := by
    intro X i j hi
    unfold mm
    rw [show (fun k => mul (I i k ^^^ mul (x i) (I d k)) (X k j)) = fun k => mul (I i k) (X k j) ^^^ mul (x i) (mul (I d k) (X k j)) from funext fun k => by rw [add_mul, mul_assoc], sm_add, sm_mulL]
    congr 1
    · exact mm_IL X j hi
    · congr 1
      exact mm_IL X j hd
  have h2 : ∀ i j, i < n → j < n → mm n (fun i l => I i l ^^^ mul (x i) (I d l)) (fun i l => I i l ^^^ mul (x i) (I d l)) i j = I i j := by
    intro i j hi hj
    rw [hE _ i j hi, hx, zero_mul, BitVec.xor_zero, BitVec.xor_assoc, BitVec.xor_self, BitVec.xor_zero]
  exact ⟨_, _, ⟨h2, h2⟩, fun i j hi hj => (hE A i j hi).symm, fun i j hi hj => (hE Z i j hi).symm⟩
/-- If A was turned into the identity, beside it the identity into Z: Z is A's inverse on both sides. -/
theorem Rturn.inverse {n : Nat} {A A' Z' : Fm} (h : Rturn n n n A I A' Z') (hI : ∀ i j, i < n → j < n → A' i j = I i j) : (∀ i j, i < n → j < n → mm n Z' A i j = I i j) ∧ ∀ i j, i < n → j < n → mm n A Z' i j = I i j := by
  obtain ⟨E, F, h1, h2, h3⟩ := h
  have hZ : ∀ i j, i < n → j < n → Z' i j = E i j := fun i j hi hj => by rw [h3 i j hi hj, mm_IR _ _ hj]
  have hA : ∀ i j, i < n → j < n → A i j = F i j := by
    intro i j hi hj
    have e : mm n F (mm n E A) i j = A i j := by
      rw [← mm_assoc, mm_congr (a' := I) (b' := A) (fun k hk => h1.2 i k hi hk) (fun _ _ => rfl), mm_IL _ _ hi]
    rw [← e, mm_congr (a' := F) (b' := I) (fun _ _ => rfl) (fun k hk => by rw [← h2 k j hk hj, hI k j hk hj]), mm_IR _ _ hj]
  refine ⟨fun i j hi hj => ?_, fun i j hi hj => ?_⟩
  · rw [mm_congr (a' := E) (b' := A) (fun k hk => hZ i k hi hk) (fun _ _ => rfl), ← h2 i j hi hj, hI i j hi hj]
  · rw [mm_congr (a' := F) (b' := E) (fun k hk => hA i k hi hk) (fun k hk => hZ k j hk hj), h1.2 i j hi hj]
/-- If a row came to nothing, some of A's rows cancel out. -/
theorem Rturn.null {n m p : Nat} {A Z A' Z' : Fm} {d : Nat} (h : Rturn n m p A Z A' Z') (hd : d < n) (h0 : ∀ j, j < m → A' d j = 0#8) : ∃ y : Nat → B, (∀ j, j < m → sm n (fun k => mul (y k) (A k j)) = 0#8) ∧ ∃ k, k < n ∧ y k ≠ 0#8 := by
  obtain ⟨E, F, h1, h2, h3⟩ := h
  refine ⟨E d, fun j hj => (h2 d j hd hj).symm.trans (h0 j hj), Classical.byContradiction fun hn => ?_⟩
  have hz : ∀ k, k < n → E d k = 0#8 := fun k hk => Classical.byContradiction fun he => hn ⟨k, hk, he⟩
  have := h1.1 d d hd hd
  rw [show mm n E F d d = 0#8 from sm_zero fun k hk => by rw [hz k hk, zero_mul]] at this
  unfold I at this
  rw [if_pos rfl] at this
  exact absurd this (by decide)
/-- One side's inverse, where there is an inverse at all, is the other's. -/
theorem inv_right {n : Nat} {A X Y : Fm} (h1 : ∀ i j, i < n → j < n → mm n A Y i j = I i j) (h2 : ∀ i j, i < n → j < n → mm n X A i j = I i j) : ∀ i j, i < n → j < n → X i j = Y i j := by
  intro i j hi hj
  have e1 : mm n (mm n X A) Y i j = Y i j := by rw [mm_congr (a' := I) (b' := Y) (fun k hk => h2 i k hi hk) (fun _ _ => rfl), mm_IL _ _ hi]
  rw [← e1, mm_assoc, mm_congr (a' := X) (b' := I) (fun _ _ => rfl) (fun k hk => h1 k j hk hj), mm_IR _ _ hj]
/-! ### Cauchy's rows -/
theorem add_eq_zero {x y : B} (h : x ^^^ y = 0#8) : x = y := by
  have := congrArg (· ^^^ y) h
  simpa [BitVec.xor_assoc] using this
def sl : List B → (B → B) → B
  | [], _ => 0#8
  | x :: l, f => f x ^^^ sl l f
theorem sl_congr {l : List B} {f g : B → B} (h : ∀ x ∈ l, f x = g x) : sl l f = sl l g := by
  induction l with
  | nil => rfl
  | cons x l ih => simp only [sl]; rw [h x (by simp), ih (fun y hy => h y (by simp [hy]))]
theorem sl_zero {l : List B} {f : B → B} (h : ∀ x ∈ l, f x = 0#8) : sl l f = 0#8 := by
  induction l with
  | nil => rfl
  | cons x l ih => simp only [sl]; rw [h x (by simp), ih (fun y hy => h y (by simp [hy]))]; rfl
theorem sl_add (l : List B) (f g : B → B) : sl l (fun x => f x ^^^ g x) = sl l f ^^^ sl l g := by
  induction l with
  | nil => simp [sl]
  | cons x l ih => simp only [sl]; rw [ih, xor_swap4]
theorem sl_mulL (l : List B) (c : B) (f : B → B) : sl l (fun x => mul c (f x)) = mul c (sl l f) := by
  induction l with
  | nil => exact (mul_zero c).symm
  | cons x l ih => simp only [sl]; rw [ih, mul_add]
theorem mul_cancel {a b : B} (ha : a ≠ 0#8) (h : mul a b = 0#8) : b = 0#8 := Classical.byContradiction fun hb => mul_ne a b ha hb h
/-- (x0 + y) / (x + y) - (x0 + y0) / (x + y0) -/
theorem cauchy_term (x0 x y0 y : B) (h1 : x ^^^ y ≠ 0#8) (h2 : x ^^^ y0 ≠ 0#8) :
    mul (x0 ^^^ y) (inv (x ^^^ y)) ^^^ mul (x0 ^^^ y0) (inv (x ^^^ y0)) = mul (y0 ^^^ y) (mul (mul (x0 ^^^ x) (inv (x ^^^ y0))) (inv (x ^^^ y))) := by
  have e1 : mul (x0 ^^^ y) (inv (x ^^^ y)) = 1#8 ^^^ mul (x0 ^^^ x) (inv (x ^^^ y)) := by
    have : x0 ^^^ y = (x ^^^ y) ^^^ (x0 ^^^ x) := by
      rw [BitVec.xor_comm x0 x, xor_swap4, BitVec.xor_self, BitVec.zero_xor, BitVec.xor_comm]
    rw [this, add_mul, mul_inv _ h1]
  have e2 : mul (x0 ^^^ y0) (inv (x ^^^ y0)) = 1#8 ^^^ mul (x0 ^^^ x) (inv (x ^^^ y0)) := by
    have : x0 ^^^ y0 = (x ^^^ y0) ^^^ (x0 ^^^ x) := by
      rw [BitVec.xor_comm x0 x, xor_swap4, BitVec.xor_self, BitVec.zero_xor, BitVec.xor_comm]
    rw [this, add_mul, mul_inv _ h2]
  rw [e1, e2, xor_swap4, BitVec.xor_self, BitVec.zero_xor, ← mul_add]
  have e3 : inv (x ^^^ y) ^^^ inv (x ^^^ y0) = mul (y0 ^^^ y) (mul (inv (x ^^^ y0)) (inv (x ^^^ y))) := by
    have h3 : y0 ^^^ y = (x ^^^ y0) ^^^ (x ^^^ y) := by rw [xor_swap4, BitVec.xor_self, BitVec.zero_xor]
    rw [h3, add_mul, ← mul_assoc, mul_inv _ h2, one_mul]
    congr 1
    rw [mul_comm (inv (x ^^^ y0)), ← mul_assoc, mul_inv _ h1, one_mul]
  rw [e3, ← mul_assoc, ← mul_assoc, mul_comm (x0 ^^^ x), mul_assoc, mul_assoc, mul_assoc]
theorem cauchy_null : ∀ (P J : List B), P.Nodup → J.Nodup → (∀ x ∈ P, ∀ y ∈ J, x ≠ y) → P.length ≤ J.length → ∀ c : B → B, (∀ y ∈ J, sl P (fun x => mul (c x) (inv (x ^^^ y))) = 0#8) → ∀ x ∈ P, c x = 0#8 := by
  intro P
  induction P with
  | nil => intro J _ _ _ _ c _ x hx; simp at hx
  | cons x0 P ih =>
    intro J hP hJ hne hlen c h
    cases J with
    | nil => simp at hlen
    | cons y0 J =>
      rw [List.nodup_cons] at hP hJ
      have hn : ∀ x y, x ∈ x0 :: P → y ∈ y0 :: J → x ^^^ y ≠ 0#8 := fun x y hx hy e => hne x hx y hy (add_eq_zero e)
      have key : ∀ x ∈ P, mul (c x) (mul (x0 ^^^ x) (inv (x ^^^ y0))) = 0#8 := by
        refine ih J hP.2 hJ.2 (fun x hx y hy => hne x (by simp [hx]) y (by simp [hy])) (by simpa using hlen) _ ?_
        intro y hy
        have hy0 : y0 ^^^ y ≠ 0#8 := fun e => hJ.1 (by rw [add_eq_zero e]; exact hy)
        refine mul_cancel hy0 ?_
        rw [← sl_mulL]
        have a1 := h y (by simp [hy])
        have a2 := h y0 (by simp)
        have b1 : mul (x0 ^^^ y) (sl (x0 :: P) (fun x => mul (c x) (inv (x ^^^ y)))) ^^^ mul (x0 ^^^ y0) (sl (x0 :: P) (fun x => mul (c x) (inv (x ^^^ y0)))) = 0#8 := by rw [a1, a2, mul_zero, mul_zero]; rfl
        rw [← sl_mulL, ← sl_mulL, ← sl_add] at b1
        simp only [sl] at b1
        have b2 : mul (x0 ^^^ y) (mul (c x0) (inv (x0 ^^^ y))) ^^^ mul (x0 ^^^ y0) (mul (c x0) (inv (x0 ^^^ y0))) = 0#8 := by
          rw [mul_comm (c x0), ← mul_assoc, mul_inv _ (hn x0 y (by simp) (by simp [hy])), mul_comm (c x0) (inv (x0 ^^^ y0)), ← mul_assoc, mul_inv _ (hn x0 y0 (by simp) (by simp)), BitVec.xor_self]
        rw [b2, BitVec.zero_xor] at b1
        rw [← b1]
        refine sl_congr fun x hx => ?_
        have ht := cauchy_term x0 x y0 y (hn x y (by simp [hx]) (by simp [hy])) (hn x y0 (by simp [hx]) (by simp))
        have e1 : ∀ s t, mul s (mul (c x) t) = mul (c x) (mul s t) := fun s t => by rw [← mul_assoc, mul_comm s, mul_assoc]
        rw [e1, e1, ← mul_add, ht, mul_assoc, e1]
      have hx : ∀ x ∈ P, c x = 0#8 := by
        intro x hx
        have hne0 : x0 ^^^ x ≠ 0#8 := fun e => hP.1 (by rw [add_eq_zero e]; exact hx)
        have := key x hx
        rw [mul_comm] at this
        exact mul_cancel (mul_ne _ _ hne0 (inv_ne _ (hn x y0 (by simp [hx]) (by simp)))) this
      intro x hxm
      rcases List.mem_cons.1 hxm with rfl | hxm
      · have a2 := h y0 (by simp)
        simp only [sl] at a2
        rw [sl_zero (fun z hz => by rw [hx z hz, zero_mul]), BitVec.xor_zero, mul_comm] at a2
        exact mul_cancel (inv_ne _ (hn x y0 (by simp) (by simp))) a2
      · exact hx x hxm
end Go.Proofs.Ytbogmlckbkogiaa.Mx

/- What matrix.reduce reckons: how its rows are turned, what an inverse and a lost rank say. Conditions: rows of one length. -/
namespace Go.Proofs.Ytbogmlckbkogiaa.Red
open Go.RowKit Go.Proofs.YtbogmlckbkogiaaW.PrintWords Go.Proofs.Ytbogmlckbkogiaa.Leaf Go.Proofs.Ytbogmlckbkogiaa.Gf Go.Proofs.Ytbogmlckbkogiaa.H Go.Proofs.Ytbogmlckbkogiaa.Mx
set_option linter.unusedVariables false
theorem row_swap (A : Mat) (i j k : Nat) (hi : i < A.length) (hj : j < A.length) : row (swapM A i j) k = row A (if k = j then i else if k = i then j else k) := by
  unfold swapM
  rw [row_set _ _ _ _ (by simpa using hj), row_set _ _ _ _ hi]
  by_cases e : k = j
  · rw [if_pos e, if_pos e]
  · rw [if_neg e, if_neg e]
    by_cases e2 : k = i
    · rw [if_pos e2, if_pos e2]
    · rw [if_neg e2, if_neg e2]
theorem scF_at (v : B) (n : Nat) : ∀ (j0 : Nat) (r : List B) (j : Nat), j0 + n = r.length → at0 (scF v n j0 r) j = if j0 ≤ j ∧ j < r.length then mul (at0 r j) v else at0 r j := by
  induction n with
  | zero =>
    intro j0 r j h
    simp only [scF]
    rw [if_neg (by omega)]
  | succ n ih =>
    intro j0 r j h
    simp only [scF]
    rw [ih (j0 + 1) _ j (by rw [List.length_set]; omega), List.length_set, at0_set _ _ _ _ (by omega)]
    by_cases e : j0 = j
    · subst e
      rw [if_neg (by omega), if_pos rfl, if_pos (by omega)]
    · rw [if_neg e]
      by_cases h2 : j0 + 1 ≤ j ∧ j < r.length
      · rw [if_pos h2, if_pos (by omega)]
      · rw [if_neg h2, if_neg (by omega)]
theorem scale_at (v : B) (r : List B) (j : Nat) (hj : j < r.length) : at0 (scale v r) j = mul (at0 r j) v := by
  unfold scale
  rw [scF_at v r.length 0 r j (by omega), if_pos (by omega)]
theorem elF_row (c d : Nat) (n : Nat) : ∀ (i : Nat) (A Z : Mat), i + n = A.length → A.length = Z.length → d < A.length →
    (elF c d n i A Z).1.length = A.length ∧ (elF c d n i A Z).2.length = Z.length ∧
    (∀ k, row (elF c d n i A Z).1 k = if i ≤ k ∧ k < A.length ∧ k ≠ d ∧ el A k c ≠ 0#8 then am (row A k) (row A d) (el A k c) (row A k).length else row A k) ∧
    (∀ k, row (elF c d n i A Z).2 k = if i ≤ k ∧ k < A.length ∧ k ≠ d ∧ el A k c ≠ 0#8 then am (row Z k) (row Z d) (el A k c) (row Z k).length else row Z k) := by
  induction n with
  | zero =>
    intro i A Z h hl hd
    simp only [elF]
    exact ⟨trivial, trivial, fun k => by rw [if_neg (by omega)], fun k => by rw [if_neg (by omega)]⟩
  | succ n ih =>
    intro i A Z h hl hd
    simp only [elF]
    by_cases hc : i ≠ d ∧ el A i c ≠ 0#8
    · rw [if_pos hc]
      obtain ⟨h1, h2, h3, h4⟩ := ih (i + 1) (A.set i (am (row A i) (row A d) (el A i c) (row A i).length)) (Z.set i (am (row Z i) (row Z d) (el A i c) (row Z i).length)) (by rw [List.length_set]; omega) (by rw [List.length_set, List.length_set]; exact hl) (by rw [List.length_set]; exact hd)
      rw [List.length_set] at h1 h2 h3 h4
      have qk := fun k => row_set A i k (am (row A i) (row A d) (el A i c) (row A i).length) (by omega)
      have qz := fun k => row_set Z i k (am (row Z i) (row Z d) (el A i c) (row Z i).length) (by omega)
      have qd := (qk d).trans (if_neg (fun e : d = i => hc.1 e.symm))
      have qy := (qz d).trans (if_neg (fun e : d = i => hc.1 e.symm))
      have qe : ∀ k, k ≠ i → el (A.set i (am (row A i) (row A d) (el A i c) (row A i).length)) k c = el A k c := by
        intro k hk
        unfold el
        unfold el at qk
        rw [qk, if_neg hk]
      refine ⟨h1, h2, fun k => ?_, fun k => ?_⟩
      · by_cases e : k = i
        · rw [h3 k, if_neg (by omega), qk, if_pos e, e, if_pos ⟨Nat.le_refl _, by omega, hc.1, hc.2⟩]
        · rw [h3 k, qe k e, qk, if_neg e, qd]
          by_cases h5 : i + 1 ≤ k ∧ k < A.length ∧ k ≠ d ∧ el A k c ≠ 0#8
          · rw [if_pos h5, if_pos ⟨by omega, h5.2⟩]
          · rw [if_neg h5, if_neg (fun h6 => h5 ⟨by omega, h6.2⟩)]
      · by_cases e : k = i
        · rw [h4 k, if_neg (by omega), qz, if_pos e, e, if_pos ⟨Nat.le_refl _, by omega, hc.1, hc.2⟩]
        · rw [h4 k, qe k e, qz, if_neg e, qy]
          by_cases h5 : i + 1 ≤ k ∧ k < A.length ∧ k ≠ d ∧ el A k c ≠ 0#8
          · rw [if_pos h5, if_pos ⟨by omega, h5.2⟩]
          · rw [if_neg h5, if_neg (fun h6 => h5 ⟨by omega, h6.2⟩)]
    · rw [if_neg hc]
      obtain ⟨h1, h2, h3, h4⟩ := ih (i + 1) A Z (by omega) hl hd
      refine ⟨h1, h2, fun k => ?_, fun k => ?_⟩
      · rw [h3 k]
        by_cases e : k = i
        · subst e
          rw [if_neg (by omega), if_neg (fun h6 => hc h6.2.2)]
        · by_cases h5 : i + 1 ≤ k ∧ k < A.length ∧ k ≠ d ∧ el A k c ≠ 0#8
          · rw [if_pos h5, if_pos ⟨by omega, h5.2⟩]
          · rw [if_neg h5, if_neg (fun h6 => h5 ⟨by omega, h6.2⟩)]
      · rw [h4 k]
        by_cases e : k = i
        · subst e
          rw [if_neg (by omega), if_neg (fun h6 => hc h6.2.2)]
        · by_cases h5 : i + 1 ≤ k ∧ k < A.length ∧ k ≠ d ∧ el A k c ≠ 0#8
          · rw [if_pos h5, if_pos ⟨by omega, h5.2⟩]
          · rw [if_neg h5, if_neg (fun h6 => h5 ⟨by omega, h6.2⟩)]
theorem am_at (L M : List B) (s : B) (j : Nat) (hj : j < L.length) : at0 (am L M s L.length) j = at0 L j ^^^ mul (at0 M j) s := by
  rw [at0_am _ _ _ _ _ hj, if_pos hj]
/-- The turn of a column, element by element. -/
theorem stepF_spec {n m p : Nat} {A Z : Mat} (hA : Reg A n m) (hZ : Reg Z n p) {c d t : Nat} (hd : d < n) (ht : t < n) (hc : c < m) :
    Reg (stepF c d t A Z).1 n m ∧ Reg (stepF c d t A Z).2 n p ∧
    (∀ i j, i < n → j < m → el (stepF c d t A Z).1 i j = if i = d then mul (el A t j) (inv (el A t c)) else el A (if i = t then d else i) j ^^^ mul (mul (el A t j) (inv (el A t c))) (el A (if i = t then d else i) c)) ∧
    (∀ i j, i < n → j < p → el (stepF c d t A Z).2 i j = if i = d then mul (el Z t j) (inv (el A t c)) else el Z (if i = t then d else i) j ^^^ mul (mul (el Z t j) (inv (el A t c))) (el A (if i = t then d else i) c)) := by
  have hA1 := hA.swap ht hd
  have hZ1 := hZ.swap ht hd
  have rA := fun k => row_swap A t d k (by rw [hA.1]; exact ht) (by rw [hA.1]; exact hd)
  have rZ := fun k => row_swap Z t d k (by rw [hZ.1]; exact ht) (by rw [hZ.1]; exact hd)
  have sA : (swapM A t d).length = n := hA1.1
  have sZ : (swapM Z t d).length = n := hZ1.1
  have rAd : row (swapM A t d) d = row A t := by rw [rA, if_pos rfl]
  have rZd : row (swapM Z t d) d = row Z t := by rw [rZ, if_pos rfl]
  have hv : el (swapM A t d) d c = el A t c := by unfold el; rw [rAd]
  unfold stepF
  simp only []
  rw [hv, rAd, rZd]
  have hA2 : Reg ((swapM A t d).set d (scale (inv (el A t c)) (row A t))) n m := hA1.set hd (by rw [scale_length]; exact hA.2 t ht)
  have hZ2 : Reg ((swapM Z t d).set d (scale (inv (el A t c)) (row Z t))) n p := hZ1.set hd (by rw [scale_length]; exact hZ.2 t ht)
  have qA : ∀ k, row ((swapM A t d).set d (scale (inv (el A t c)) (row A t))) k = if k = d then scale (inv (el A t c)) (row A t) else row A (if k = t then d else k) := by
    intro k
    rw [row_set _ _ _ _ (by rw [sA]; exact hd), rA]
    by_cases e : k = d
    · rw [if_pos e, if_pos e]
    · rw [if_neg e, if_neg e, if_neg e]
  have qZ : ∀ k, row ((swapM Z t d).set d (scale (inv (el A t c)) (row Z t))) k = if k = d then scale (inv (el A t c)) (row Z t) else row Z (if k = t then d else k) := by
    intro k
    rw [row_set _ _ _ _ (by rw [sZ]; exact hd), rZ]
    by_cases e : k = d
    · rw [if_pos e, if_pos e]
    · rw [if_neg e, if_neg e, if_neg e]
  generalize (swapM A t d).set d (scale (inv (el A t c)) (row A t)) = A2 at *
  generalize (swapM Z t d).set d (scale (inv (el A t c)) (row Z t)) = Z2 at *
  obtain ⟨l1, l2, e1, e2⟩ := elF_row c d A2.length 0 A2 Z2 (by omega) (by rw [hA2.1, hZ2.1]) (by rw [hA2.1]; exact hd)
  have hs : ∀ i, i < n → (if i = t then d else i) < n := by
    intro i hi
    by_cases e : i = t
    · rw [if_pos e]; exact hd
    · rw [if_neg e]; exact hi
  refine ⟨⟨by rw [l1, hA2.1], fun i hi => ?_⟩, ⟨by rw [l2, hZ2.1], fun i hi => ?_⟩, fun i j hi hj => ?_, fun i j hi hj => ?_⟩
  · rw [e1]
    split
    · rw [am_length]; exact hA2.2 i hi
    · exact hA2.2 i hi
  · rw [e2]
    split
    · rw [am_length]; exact hZ2.2 i hi
    · exact hZ2.2 i hi
  · show at0 (row (elF c d A2.length 0 A2 Z2).1 i) j = _
    rw [e1, hA2.1]
    by_cases e : i = d
    · rw [if_neg (fun h => h.2.2.1 e), if_pos e, qA, if_pos e, scale_at _ _ _ (by rw [hA.2 t ht]; exact hj)]
      rfl
    · have q1 : row A2 i = row A (if i = t then d else i) := by rw [qA, if_neg e]
      have q2 : row A2 d = scale (inv (el A t c)) (row A t) := by rw [qA, if_pos rfl]
      have q3 : el A2 i c = el A (if i = t then d else i) c := by unfold el; rw [q1]
      rw [if_neg e, q3, q1, q2]
      by_cases hx : el A (if i = t then d else i) c = 0#8
      · rw [if_neg (fun h => h.2.2.2 hx), hx, mul_zero, BitVec.xor_zero]
        rfl
      · rw [if_pos ⟨Nat.zero_le _, hi, e, hx⟩, am_at _ _ _ _ (by rw [hA.2 _ (hs i hi)]; exact hj), scale_at _ _ _ (by rw [hA.2 t ht]; exact hj)]
        rfl
  · show at0 (row (elF c d A2.length 0 A2 Z2).2 i) j = _
    rw [e2, hA2.1]
    by_cases e : i = d
    · rw [if_neg (fun h => h.2.2.1 e), if_pos e, qZ, if_pos e, scale_at _ _ _ (by rw [hZ.2 t ht]; exact hj)]
      rfl
    · have q1 : row A2 i = row A (if i = t then d else i) := by rw [qA, if_neg e]
      have q3 : el A2 i c = el A (if i = t then d else i) c := by unfold el; rw [q1]
      have q4 : row Z2 i = row Z (if i = t then d else i) := by rw [qZ, if_neg e]
      have q5 : row Z2 d = scale (inv (el A t c)) (row Z t) := by rw [qZ, if_pos rfl]
      rw [if_neg e, q3, q4, q5]
      by_cases hx : el A (if i = t then d else i) c = 0#8
      · rw [if_neg (fun h => h.2.2.2 hx), hx, mul_zero, BitVec.xor_zero]
        rfl
      · rw [if_pos ⟨Nat.zero_le _, hi, e, hx⟩, am_at _ _ _ _ (by rw [hZ.2 _ (hs i hi)]; exact hj), scale_at _ _ _ (by rw [hZ.2 t ht]; exact hj)]
        rfl
theorem stepF_steps {n m p : Nat} {A Z : Mat} (hA : Reg A n m) (hZ : Reg Z n p) {c d t : Nat} (hd : d < n) (ht : t < n) (hc : c < m) (hx : el A t c ≠ 0#8) :
    Rturn n m p (el A) (el Z) (el (stepF c d t A Z).1) (el (stepF c d t A Z).2) := by
  obtain ⟨_, _, h1, h2⟩ := stepF_spec hA hZ hd ht hc
  have s1 := Rturn.swap (m := m) (p := p) (s := t) (t := d) (el A) (el Z) ht hd
  have s2 := s1.trans (Rturn.scale (d := d) _ _ (inv_ne _ hx))
  have s3 := s2.trans (Rturn.add (d := d) _ _ (fun i => if i = d then 0#8 else el A (if i = t then d else i) c) hd (if_pos rfl))
  refine s3.congr (fun i j hi hj => ?_) (fun i j hi hj => ?_)
  · rw [h1 i j hi hj]
    by_cases e : i = d
    · simp only [if_pos e, zero_mul, BitVec.xor_zero]
      rw [mul_comm]
    · simp only [if_neg e, one_mul, if_true]
      rw [mul_comm (el A (if i = t then d else i) c), mul_comm (inv (el A t c))]
  · rw [h2 i j hi hj]
    by_cases e : i = d
    · simp only [if_pos e, zero_mul, BitVec.xor_zero]
      rw [mul_comm]
    · simp only [if_neg e, one_mul, if_true]
      rw [mul_comm (el A (if i = t then d else i) c), mul_comm (inv (el A t c))]
/-- Where the pivot is. -/
theorem pivot_miss {n m : Nat} {A : Mat} (hA : Reg A n m) {d c : Nat} (h : pivot A d c < 0) : ∀ i, d ≤ i → i < n → el A i c = 0#8 := by
  intro i h1 h2
  unfold pivot at h
  have h3 : decide (0 ≤ firstP (fun j => rd (ofL (row A (d + j))) (c : Int) != 0) (A.length - d)) = false := decide_eq_false (by omega)
  rw [firstP_nonneg, List.any_eq_false] at h3
  have h4 := h3 (i - d) (List.mem_range.2 (by rw [hA.1]; omega))
  rw [show d + (i - d) = i by omega] at h4
  have h5 : rd (ofL (row A i)) (c : Int) = 0 := by simpa using h4
  rw [rd_ofL, ofB_eq_zero] at h5
  exact h5
theorem firstP_found {p : Nat → Bool} {n : Nat} (h : ¬ firstP p n < 0) : ∃ k : Nat, firstP p n = (k : Int) ∧ k < n ∧ p k = true ∧ ∀ j, j < k → p j = false := by
  unfold firstP at h ⊢
  cases e : (List.range n).find? p with
  | none => rw [e] at h; exact absurd (by decide) h
  | some k =>
    rw [List.find?_range_eq_some] at e
    exact ⟨k, rfl, List.mem_range.1 e.2.1, e.1, fun j hj => by simpa using e.2.2 j hj⟩
theorem pivot_hit {n m : Nat} {A : Mat} (hA : Reg A n m) {d c : Nat} (h : ¬ pivot A d c < 0) : ∃ t : Nat, pivot A d c = (t : Int) ∧ d + t < n ∧ el A (d + t) c ≠ 0#8 ∧ ∀ i, d ≤ i → i < d + t → el A i c = 0#8 := by
  obtain ⟨t, h1, h2, h3, h4⟩ := firstP_found h
  refine ⟨t, h1, by rw [hA.1] at h2; omega, fun e => ?_, fun i hi1 hi2 => ?_⟩
  · have h5 : rd (ofL (row A (d + t))) (c : Int) ≠ 0 := by simpa using h3
    rw [rd_ofL] at h5
    exact h5 ((ofB_eq_zero _).2 e)
  · have h5 := h4 (i - d) (by omega)
    rw [show d + (i - d) = i by omega] at h5
    have h6 : rd (ofL (row A i)) (c : Int) = 0 := by simpa using h5
    rw [rd_ofL, ofB_eq_zero] at h6
    exact h6
/-- How far the columns are: below row d nought, and where each column had a row: the identity. -/
def Done (n c d : Nat) (A : Mat) : Prop := d ≤ c ∧ (∀ i, d ≤ i → i < n → ∀ j, j < c → el A i j = 0#8) ∧ (d = c → ∀ i, i < n → ∀ j, j < c → el A i j = I i j)
theorem done_miss {n m c d : Nat} {A : Mat} (hA : Reg A n m) (h : Done n c d A) (hp : pivot A d c < 0) : Done n (c + 1) d A := by
  refine ⟨by have := h.1; omega, fun i h1 h2 j hj => ?_, fun e => by have := h.1; omega⟩
  by_cases e : j = c
  · subst e; exact pivot_miss hA hp i h1 h2
  · exact h.2.1 i h1 h2 j (by omega)
theorem done_step {n m p c d t : Nat} {A Z : Mat} (hA : Reg A n m) (hZ : Reg Z n p) (hd : d < n) (hdt : d ≤ t) (ht : t < n) (hc : c < m) (hx : el A t c ≠ 0#8) (h : Done n c d A) : Done n (c + 1) (d + 1) (stepF c d t A Z).1 := by
  obtain ⟨_, _, h1, _⟩ := stepF_spec hA hZ hd ht hc
  have hcol : ∀ i, i < n → i ≠ d → el (stepF c d t A Z).1 i c = 0#8 := by
    intro i hi e
    rw [h1 i c hi hc, if_neg e, mul_inv _ hx, one_mul, BitVec.xor_self]
  refine ⟨by have := h.1; omega, fun i hi1 hi2 j hj => ?_, fun e i hi j hj => ?_⟩
  · by_cases e : j = c
    · subst e; exact hcol i hi2 (by omega)
    · rw [h1 i j hi2 (by omega), if_neg (by omega), h.2.1 t hdt ht j (by omega), zero_mul, zero_mul, BitVec.xor_zero]
      by_cases e2 : i = t
      · rw [if_pos e2]; exact h.2.1 d (Nat.le_refl _) hd j (by omega)
      · rw [if_neg e2]; exact h.2.1 i (by omega) hi2 j (by omega)
  · have hdc : d = c := by omega
    by_cases e1 : j = c
    · subst e1
      by_cases e2 : i = d
      · rw [h1 i j hi hc, if_pos e2, mul_inv _ hx]
        unfold I
        rw [if_pos (by omega)]
      · rw [hcol i hi e2]
        unfold I
        rw [if_neg (by omega)]
    · rw [h1 i j hi (by omega), h.2.1 t hdt ht j (by omega), zero_mul, zero_mul, BitVec.xor_zero]
      by_cases e2 : i = d
      · rw [if_pos e2]
        unfold I
        rw [if_neg (by omega)]
      · rw [if_neg e2]
        by_cases e3 : i = t
        · rw [if_pos e3, h.2.1 d (Nat.le_refl _) hd j (by omega)]
          unfold I
          rw [if_neg (by omega)]
        · rw [if_neg e3]
          exact h.2.2 hdc i hi j (by omega)
theorem redF_spec {n m p : Nat} (fuel : Nat) : ∀ (c d : Nat) (A Z : Mat), c + fuel = m → d < n → Reg A n m → Reg Z n p →
    Reg (redF fuel c d A Z).2.1 n m ∧ Reg (redF fuel c d A Z).2.2 n p ∧ (redF fuel c d A Z).1 ≤ n ∧ Rturn n m p (el A) (el Z) (el (redF fuel c d A Z).2.1) (el (redF fuel c d A Z).2.2) ∧
    (Done n c d A → ((redF fuel c d A Z).1 < n → ∀ j, j < m → el (redF fuel c d A Z).2.1 (redF fuel c d A Z).1 j = 0#8) ∧ ((redF fuel c d A Z).1 = n → n = m → ∀ i, i < n → ∀ j, j < n → el (redF fuel c d A Z).2.1 i j = I i j)) := by
  induction fuel with
  | zero =>
    intro c d A Z hc hd hA hZ
    simp only [redF]
    refine ⟨hA, hZ, by omega, Rturn.refl _ _ _ _ _, fun h => ⟨fun _ j hj => h.2.1 d (Nat.le_refl _) hd j (by omega), fun e => by omega⟩⟩
  | succ fuel ih =>
    intro c d A Z hc hd hA hZ
    simp only [redF]
    by_cases hp : pivot A d c < 0
    · rw [if_pos hp]
      obtain ⟨r1, r2, r3, r4, r5⟩ := ih (c + 1) d A Z (by omega) hd hA hZ
      exact ⟨r1, r2, r3, r4, fun h => r5 (done_miss hA h hp)⟩
    · rw [if_neg hp]
      obtain ⟨t, e, ht, hx, _⟩ := pivot_hit hA hp
      rw [e, show ((t : Int)).toNat = t from rfl]
      have ht' : t + d < n := by omega
      have hx' : el A (t + d) c ≠ 0#8 := by rw [Nat.add_comm]; exact hx
      have hst := stepF_steps hA hZ hd ht' (show c < m by omega) hx'
      obtain ⟨g1, g2, _, _⟩ := stepF_spec hA hZ hd ht' (show c < m by omega)
      have hdn := fun h => done_step hA hZ hd (by omega : d ≤ t + d) ht' (show c < m by omega) hx' h
      generalize stepF c d (t + d) A Z = S at *
      by_cases he : d + 1 = A.length
      · rw [if_pos he]
        have hA1 := hA.1
        refine ⟨g1, g2, by omega, hst, fun h => ⟨fun h2 => by omega, fun _ hnm i hi j hj => ?_⟩⟩
        have hd1 := hdn h
        have hdc := h.1
        exact hd1.2.2 (by omega) i hi j (by omega)
      · rw [if_neg he]
        have hA1 := hA.1
        obtain ⟨r1, r2, r3, r4, r5⟩ := ih (c + 1) (d + 1) S.1 S.2 (by omega) (by omega) g1 g2
        exact ⟨r1, r2, r3, hst.trans r4, fun h => r5 (hdn h)⟩
theorem done_start (n : Nat) (A : Mat) : Done n 0 0 A := ⟨Nat.le_refl _, fun _ _ _ j hj => by omega, fun _ _ _ j hj => by omega⟩
/-- The identity. -/
def idM (n : Nat) : Mat := (List.range n).map fun i => (List.range n).map fun j => if i = j then 1#8 else 0#8
theorem row_map (n : Nat) (f : Nat → List B) (i : Nat) (hi : i < n) : row ((List.range n).map f) i = f i := by
  unfold row
  rw [List.getD_eq_getElem?_getD, List.getElem?_map, List.getElem?_range hi]
  rfl
theorem at0_map (n : Nat) (f : Nat → B) (i : Nat) (hi : i < n) : at0 ((List.range n).map f) i = f i := by
  unfold at0
  rw [List.getD_eq_getElem?_getD, List.getElem?_map, List.getElem?_range hi]
  rfl
/-- The matrix of n rows and m columns whose elements are told. -/
def matF (n m : Nat) (f : Fm) : Mat := (List.range n).map fun i => (List.range m).map (f i)
theorem matF_reg (n m : Nat) (f : Fm) : Reg (matF n m f) n m := ⟨by simp [matF], fun i hi => by unfold matF; rw [row_map _ _ _ hi]; simp⟩
theorem el_matF {n m : Nat} (f : Fm) {i j : Nat} (hi : i < n) (hj : j < m) : el (matF n m f) i j = f i j := by
  unfold el matF
  rw [row_map _ _ _ hi, at0_map _ _ _ hj]
theorem idM_eq (n : Nat) : idM n = matF n n I := rfl
theorem mat_ext {n m : Nat} {A C : Mat} (hA : Reg A n m) (hC : Reg C n m) (h : ∀ i j, i < n → j < m → el A i j = el C i j) : A = C := by
  refine List.ext_getElem (by rw [hA.1, hC.1]) fun i h1 h2 => ?_
  have hi : i < n := by rw [← hA.1]; exact h1
  have e1 : A[i] = row A i := by unfold row; rw [List.getD_eq_getElem?_getD, List.getElem?_eq_getElem h1]; rfl
  have e2 : C[i] = row C i := by unfold row; rw [List.getD_eq_getElem?_getD, List.getElem?_eq_getElem h2]; rfl
  rw [e1, e2]
  exact ext0 (by rw [hA.2 i hi, hC.2 i hi]) fun j hj => h i j hi (by rw [← hA.2 i hi]; exact hj)
/-- What Inverse tells: a matrix' inverse on both sides, if no rank is lost. -/
theorem inverse_yes {n : Nat} {A : Mat} (hn : 0 < n) (hA : Reg A n n) (h : (redF n 0 0 A (idM n)).1 = n) :
    Reg (redF n 0 0 A (idM n)).2.2 n n ∧ (∀ i j, i < n → j < n → mm n (el (redF n 0 0 A (idM n)).2.2) (el A) i j = I i j) ∧ ∀ i j, i < n → j < n → mm n (el A) (el (redF n 0 0 A (idM n)).2.2) i j = I i j := by
  obtain ⟨r1, r2, r3, r4, r5⟩ := redF_spec n 0 0 A (idM n) (by omega) hn hA (matF_reg n n I)
  have hI := (r5 (done_start n A)).2 h rfl
  have r4' : Rturn n n n (el A) I (el (redF n 0 0 A (idM n)).2.1) (el (redF n 0 0 A (idM n)).2.2) := by
    obtain ⟨E, F, h1, h2, h3⟩ := r4
    exact ⟨E, F, h1, h2, fun i j hi hj => (h3 i j hi hj).trans (mm_congr (fun _ _ => rfl) (fun k hk => el_matF I hk hj))⟩
  obtain ⟨q1, q2⟩ := r4'.inverse (fun i j hi hj => hI i hi j hj)
  exact ⟨r2, q1, q2⟩
/-- If a rank is lost, some rows cancel out. -/
theorem inverse_no {n : Nat} {A Z : Mat} {p : Nat} (hn : 0 < n) (hA : Reg A n n) (hZ : Reg Z n p) (h : (redF n 0 0 A Z).1 < n) : ∃ y : Nat → B, (∀ j, j < n → sm n (fun k => mul (y k) (el A k j)) = 0#8) ∧ ∃ k, k < n ∧ y k ≠ 0#8 := by
  obtain ⟨r1, r2, r3, r4, r5⟩ := redF_spec n 0 0 A Z (by omega) hn hA hZ
  exact r4.null h ((r5 (done_start n A)).1 h)
theorem redF_le {n m p : Nat} {A Z : Mat} (hn : 0 < n) (hA : Reg A n m) (hZ : Reg Z n p) : (redF m 0 0 A Z).1 ≤ n := (redF_spec m 0 0 A Z (by omega) hn hA hZ).2.2.1
end Go.Proofs.Ytbogmlckbkogiaa.Red

/- matrix.reduce, part two and a half: what a column's step keeps. Conditions: two matrices of the call's own, apart. -/
namespace Go.Proofs.Ytbogmlckbkogiaa.H
open Go.RowKit Go.Proofs.YtbogmlckbkogiaaW.PrintWords Go.Proofs.Ytbogmlckbkogiaa.Leaf Go.Proofs.Ytbogmlckbkogiaa.Gf Go.Proofs.Ytbogmlckbkogiaa.Red
set_option linter.unusedVariables false
theorem typed_set {w : World} {b t : Nat} (h : ∃ cs, w.heap[b]? = some (.cells cs t (0, 0))) (p : Addr) (u : Value) : ∃ cs, (w.setCell p u).heap[b]? = some (.cells cs t (0, 0)) := by
  obtain ⟨cs, hc⟩ := h
  by_cases e : b = p.block
  · subst e
    simp only [World.setCell, Array.getElem?_modify, if_true, hc]
    exact ⟨_, rfl⟩
  · exact ⟨cs, (Below.heap_setCell w p u b e).trans hc⟩
theorem cell_far {w : World} {p q : Addr} {v : Value} (h : w.cell? q = some v) (hne : q.block ≠ p.block) (u : Value) : (w.setCell p u).cell? q = some v :=
  (World.cell?_of_block (w := w) (Below.heap_setCell w p u q.block hne)).trans h
section
variable {w0 w w1 : World} {base ga ca gb cb n m p q kk dd : Nat} {A Z : Mat}
theorem Col.drew (h : Col w q kk) : Col w.drew q kk := h.below (below_drew (Below.refl _ _))
theorem St.exch (h : St w base ga ca gb cb n m p A Z) (hB : Below base w0 w) (hC : Col w q kk) {i j : Nat} (hi : i < n) (hj : j < n) {u v : Value} (hu : w.cell? ⟨ga, i, none⟩ = some u) (hv : w.cell? ⟨ga, j, none⟩ = some v) :
    St ((w.setCell ⟨ga, i, none⟩ v).setCell ⟨ga, j, none⟩ u).drew base ga ca gb cb n m p (swapM A i j) Z ∧ Below base w0 ((w.setCell ⟨ga, i, none⟩ v).setCell ⟨ga, j, none⟩ u).drew ∧ Col ((w.setCell ⟨ga, i, none⟩ v).setCell ⟨ga, j, none⟩ u).drew q kk := by
  obtain ⟨_, _, hg, _, _, _⟩ := h.reg
  obtain ⟨cs, hc⟩ := h.types.1
  obtain ⟨cs', hc'⟩ := typed_set h.types.1 ⟨ga, i, none⟩ v
  exact ⟨(h.swapA hi hj hu hv).drew, below_drew ((hB.setCell hg _).setCell hg _), ((hC.far hc (by decide) _).far hc' (by decide) _).drew⟩
/-- Behind the exchange: the two rows at dd are known by their blocks. -/
structure Sc (W w0 : World) (base ga ca gb cb n m p : Nat) (A Z : Mat) (q kk dd bA cA bZ cZ : Nat) : Prop where
  st : St W base ga ca gb cb n m p A Z
  bl : Below base w0 W
  col : Col W q kk
  ra : W.cell? ⟨ga, dd, none⟩ = some (.slice (some ⟨bA, 0, none⟩) m cA)
  rz : W.cell? ⟨gb, dd, none⟩ = some (.slice (some ⟨bZ, 0, none⟩) p cZ)
variable {bA cA bZ cZ : Nat}
theorem Sc.symm (h : Sc w w0 base ga ca gb cb n m p A Z q kk dd bA cA bZ cZ) : Sc w w0 base gb cb ga ca n p m Z A q kk dd bZ cZ bA cA := ⟨h.st.symm, h.bl, h.col, h.rz, h.ra⟩
theorem Sc.below (h : Sc w w0 base ga ca gb cb n m p A Z q kk dd bA cA bZ cZ) (hs : base ≤ w.heap.size) (hb : Below w.heap.size w w1) : Sc w1 w0 base ga ca gb cb n m p A Z q kk dd bA cA bZ cZ :=
  ⟨h.st.below hb, below_then h.bl hs hb, h.col.below hb, pw_cell_below hb h.ra, pw_cell_below hb h.rz⟩
theorem Sc.rw_ (h : Sc w w0 base ga ca gb cb n m p A Z q kk dd bA cA bZ cZ) (hd : dd < n) : Rw w base bA cA (ofL (row A dd)) := by
  obtain ⟨b, c, h1, _, h2⟩ := h.st.read dd hd
  rw [h.ra] at h1
  have := Option.some.inj h1
  injection this with t1 t2 t3
  injection t1 with t1
  injection t1 with t1
  subst t1 t3
  exact h2
theorem Sc.size (h : Sc w w0 base ga ca gb cb n m p A Z q kk dd bA cA bZ cZ) : base ≤ w.heap.size := by
  obtain ⟨_, _, h1, _, h2, _⟩ := h.st.reg
  omega
theorem Sc.put (h : Sc w w0 base ga ca gb cb n m p A Z q kk dd bA cA bZ cZ) (hd : dd < n) (j : Nat) (x : B) :
    Sc (w.setCell ⟨bA, j, none⟩ (.int .u8 (ofB x))) w0 base ga ca gb cb n m p (A.set dd ((row A dd).set j x)) Z q kk dd bA cA bZ cZ := by
  obtain ⟨h1, h2, h3, h4, h5⟩ := h.st.putA hd h.ra j x
  obtain ⟨cs, hc⟩ := (h.rw_ hd).typed
  exact ⟨h1, h.bl.setCell h2 _, h.col.far hc (by decide) _, cell_far h.ra (Ne.symm h3) _, cell_far h.rz (Ne.symm h4) _⟩
/-- The short list of the two rows. -/
def Pr (w : World) (g : Nat) (v : Nat → Value) : Prop := (∃ cs, w.heap[g]? = some (.cells cs 22 (0, 0))) ∧ ∀ i, i < 2 → w.cell? ⟨g, i, none⟩ = some (v i)
theorem Pr.below {g : Nat} {v : Nat → Value} (h : Pr w g v) (hb : Below w.heap.size w w1) : Pr w1 g v := by
  obtain ⟨⟨cs, hc⟩, h2⟩ := h
  exact ⟨⟨cs, (hb.block g (blk_lt hc)).trans hc⟩, fun i hi => pw_cell_below hb (h2 i hi)⟩
theorem Pr.put {g b t j : Nat} {v : Nat → Value} {cells : Array Value} (h : Pr w g v) (hb : w.heap[b]? = some (.cells cells t (0, 0))) (ht : t ≠ 22) (u : Value) : Pr (w.setCell ⟨b, j, none⟩ u) g v := by
  obtain ⟨⟨cs, hc⟩, h2⟩ := h
  have hne : g ≠ b := by
    rintro rfl
    rw [hc] at hb
    simp at hb
    exact ht hb.2.symm
  exact ⟨typed_set ⟨cs, hc⟩ _ _, fun i hi => cell_far (h2 i hi) hne _⟩
/-- Rows exchanged for new ones: the elimination's store. -/
theorem St.sum (h : St w base ga ca gb cb n m p A Z) (hB : Below base w0 w) (hC : Col w q kk) (hs : base ≤ w.heap.size) (hbl : Below w.heap.size w w1) {i : Nat} (hi : i < n) {v : Value} {r : List B} (hr : Kd.R (Kd.int .u8) 5 w1 w.heap.size (fun _ => True) v (ofL r)) (hl : r.length = m) (hm : 0 < m) :
    ∃ b c, v = .slice (some ⟨b, 0, none⟩) m c ∧ St (w1.setCell ⟨ga, i, none⟩ (.slice (some ⟨b, 0, none⟩) m c)) base ga ca gb cb n m p (A.set i r) Z ∧ Below base w0 (w1.setCell ⟨ga, i, none⟩ (.slice (some ⟨b, 0, none⟩) m c)) ∧ Col (w1.setCell ⟨ga, i, none⟩ (.slice (some ⟨b, 0, none⟩) m c)) q kk ∧
      w1.frozen? ⟨ga, i, none⟩ = false ∧ ∃ u, w1.cell? ⟨ga, i, none⟩ = some u := by
  obtain ⟨b, c, e, hR⟩ := Rw.of_R hr (by rw [ofL_length, hl]; exact hm)
  rw [ofL_length, hl] at e
  have hS1 := h.below hbl
  obtain ⟨_, _, hg, _⟩ := hS1.reg
  obtain ⟨cs, hc⟩ := hS1.types.1
  obtain ⟨b', c', h1, h2, _⟩ := hS1.read i hi
  have hR' : Rw w1 base b c (ofL r) := own_weaken hR hs
  exact ⟨b, c, e, h.rowA hi hbl hR' hR.base_ hl, (below_then hB hs hbl).setCell hg _, (hC.below hbl).far hc (by decide) _, h2, _, h1⟩
end
theorem set_self (A : Mat) (i : Nat) (hi : i < A.length) : A.set i (row A i) = A := by
  unfold row
  rw [List.getD_eq_getElem?_getD, List.getElem?_eq_getElem hi]
  simp
theorem set_set' (A : Mat) (i : Nat) (r s : List B) : (A.set i r).set i s = A.set i s := by rw [List.set_set]
theorem row_set_self (A : Mat) (i : Nat) (r : List B) (hi : i < A.length) : row (A.set i r) i = r := by rw [row_set _ _ _ _ hi, if_pos rfl]
def vv (u v : Value) (i : Nat) : Value := if i = 0 then u else v
theorem Sc.start {w0 w : World} {base ga ca gb cb n m p q kk dd bA cA bZ cZ : Nat} {A Z : Mat} (h : Sc w w0 base ga ca gb cb n m p A Z q kk dd bA cA bZ cZ) :
    Aside0 (Sc (w.alloc (.cells #[.slice (some ⟨bA, 0, none⟩) m cA, .slice (some ⟨bZ, 0, none⟩) p cZ] 22 (0, 0))).drew w0 base ga ca gb cb n m p A Z q kk dd bA cA bZ cZ) ∧ Aside0 (Pr (w.alloc (.cells #[.slice (some ⟨bA, 0, none⟩) m cA, .slice (some ⟨bZ, 0, none⟩) p cZ] 22 (0, 0))).drew w.heap.size (vv (.slice (some ⟨bA, 0, none⟩) m cA) (.slice (some ⟨bZ, 0, none⟩) p cZ))) := by
  refine ⟨⟨h.below h.size (below_drew ((Below.refl _ _).alloc (Nat.le_refl _) _))⟩, ⟨⟨_, heap_alloc_last w _⟩, fun i hi => ?_⟩⟩
  show (w.alloc _).cell? _ = _
  rw [cell_of_row _ _ i _ 22 (0, 0) (heap_alloc_new w _)]
  rcases (by omega : i = 0 ∨ i = 1) with rfl | rfl <;> rfl
/-- One of the two rows, whichever. -/
theorem Sc.pick {w0 w : World} {base ga ca gb cb n m p q kk dd bA cA bZ cZ : Nat} {A Z A2 Z2 : Mat} {iv : B} (hd : dd < n) (hm : 0 < m) (hp : 0 < p) (hA2 : A2 = A.set dd (scale iv (row A dd))) (hZ2 : Z2 = Z.set dd (scale iv (row Z dd))) (i : Nat) (hi : i < 2)
    (h : Sc w w0 base ga ca gb cb n m p (if 1 ≤ i then A2 else A) (if 2 ≤ i then Z2 else Z) q kk dd bA cA bZ cZ) :
    ∃ gX cX gY cY mX mY X Y bX kX bY kY, vv (.slice (some ⟨bA, 0, none⟩) m cA) (.slice (some ⟨bZ, 0, none⟩) p cZ) i = .slice (some ⟨bX, 0, none⟩) mX kX ∧ 0 < mX ∧ Aside0 (Sc w w0 base gX cX gY cY n mX mY X Y q kk dd bX kX bY kY) ∧
      Aside0 (∀ W, Sc W w0 base gX cX gY cY n mX mY (X.set dd (scale iv (row X dd))) Y q kk dd bX kX bY kY → Sc W w0 base ga ca gb cb n m p (if 1 ≤ i + 1 then A2 else A) (if 2 ≤ i + 1 then Z2 else Z) q kk dd bA cA bZ cZ) := by
  rcases (by omega : i = 0 ∨ i = 1) with rfl | rfl
  · refine ⟨ga, ca, gb, cb, m, p, A, Z, bA, cA, bZ, cZ, rfl, hm, ⟨by simpa using h⟩, ⟨fun W hW => ?_⟩⟩
    rw [← hA2] at hW
    simpa using hW
  · refine ⟨gb, cb, ga, ca, p, m, Z, A2, bZ, cZ, bA, cA, rfl, hp, ⟨by simpa using h.symm⟩, ⟨fun W hW => ?_⟩⟩
    rw [← hZ2] at hW
    simpa using hW.symm
theorem St.addm {w0 W : World} {base ga ca gb cb n m p q kk : Nat} {A Z : Mat} (h : St W base ga ca gb cb n m p A Z) (hB : Below base w0 W) (hC : Col W q kk) {i d : Nat} (hi : i < n) (hd : d < n) {bi ci bd cd : Nat} (hci : W.cell? ⟨ga, i, none⟩ = some (.slice (some ⟨bi, 0, none⟩) m ci)) (hcd : W.cell? ⟨ga, d, none⟩ = some (.slice (some ⟨bd, 0, none⟩) m cd)) (hm : 0 < m) (hm2 : m ≤ 255) (x : B) :
    Calls Try.prog 48 #[.slice (some ⟨bi, 0, none⟩) m ci, .slice (some ⟨bd, 0, none⟩) m cd, .int .u8 (ofB x)] W fun e w' => ∃ b c, e = .returned (.tuple #[.slice (some ⟨b, 0, none⟩) m c, .bool true]) ∧ w'.frozen? ⟨ga, i, none⟩ = false ∧ (∃ u, w'.cell? ⟨ga, i, none⟩ = some u) ∧
      Aside0 (St (w'.setCell ⟨ga, i, none⟩ (.slice (some ⟨b, 0, none⟩) m c)) base ga ca gb cb n m p (A.set i (am (row A i) (row A d) x (row A i).length)) Z) ∧ Aside0 (Below base w0 (w'.setCell ⟨ga, i, none⟩ (.slice (some ⟨b, 0, none⟩) m c))) ∧ Aside0 (Col (w'.setCell ⟨ga, i, none⟩ (.slice (some ⟨b, 0, none⟩) m c)) q kk) ∧ Below W.heap.size W w' := by
  obtain ⟨hA, _, hg, _, hg2, _⟩ := h.reg
  have hs : base ≤ W.heap.size := by omega
  have look : ∀ (k b c : Nat), k < n → W.cell? ⟨ga, k, none⟩ = some (.slice (some ⟨b, 0, none⟩) m c) → Rw W base b c (ofL (row A k)) := by
    intro k b c hk hc
    obtain ⟨b', c', h1, _, h2⟩ := h.read k hk
    rw [hc] at h1
    have := Option.some.inj h1
    injection this with t1 t2 t3
    injection t1 with t1
    injection t1 with t1
    subst t1 t3
    exact h2
  obtain ⟨r1, r1'⟩ := (look i bi ci hi hci).reads
  obtain ⟨r2, r2'⟩ := (look d bd cd hd hcd).reads
  have l1 : (row A i).length = m := hA.2 i hi
  have l2 : (row A d).length = m := hA.2 d hd
  obtain ⟨k0, hk0⟩ := gfAddMul (row A i) (row A d) x (by omega)
  have hf := hk0 k0 (Nat.le_refl _)
  unfold addMulB at hf
  rw [if_pos (by omega)] at hf
  have hcall := P.gf_AddMul.calls k0 _ ci (ofL (row A i)) _ cd (ofL (row A d)) (ofB x) _ _ W r1 r1' r2 r2' hf
  rw [ofL_length, ofL_length, l1, l2] at hcall
  rw [l1]
  refine hcall.mono ?_
  rintro e w' ⟨v, rfl, hR, hb⟩
  obtain ⟨b, c, rfl, s1, s2, s3, s4, s5⟩ := h.sum hB hC hs hb hi hR (by rw [am_length]; exact l1) hm
  exact ⟨b, c, rfl, s4, s5, ⟨s1⟩, ⟨s2⟩, ⟨s3⟩, hb⟩
end Go.Proofs.Ytbogmlckbkogiaa.H

/- The reference's Rank, part one: one matrix in memory, and what is reckoned. Conditions: rows of one length. -/
namespace Go.Proofs.Ytbogmlckbkogiaa.H
open Go.RowKit Go.Proofs.YtbogmlckbkogiaaW.PrintWords Go.Proofs.Ytbogmlckbkogiaa.Leaf Go.Proofs.Ytbogmlckbkogiaa.Gf Go.Proofs.Ytbogmlckbkogiaa.Red
set_option linter.unusedVariables false
/-- A matrix of the call's own. -/
def S1 (w : World) (base g c n m : Nat) (A : Mat) : Prop := ∃ id cap, Mt w base g c id cap (A.map ofL) ∧ Reg A n m
section
variable {w w0 w1 : World} {base g c n m : Nat} {A : Mat}
theorem S1.below (h : S1 w base g c n m A) (hb : Below w.heap.size w w1) : S1 w1 base g c n m A := by
  obtain ⟨a, b, h1, h2⟩ := h
  exact ⟨a, b, h1.below hb, h2⟩
theorem S1.drew (h : S1 w base g c n m A) : S1 w.drew base g c n m A := h.below (below_drew (Below.refl _ _))
theorem S1.reg (h : S1 w base g c n m A) : Reg A n m ∧ base ≤ g ∧ g < w.heap.size ∧ ∃ cells, w.heap[g]? = some (.cells cells 22 (0, 0)) := by
  obtain ⟨a, b, h1, h2⟩ := h
  exact ⟨h2, h1.gbase, h1.glt, h1.typed⟩
theorem S1.cap (h : S1 w base g c n m A) : n ≤ c := by
  obtain ⟨a, b, h1, h2⟩ := h
  have := own_le h1.outer
  rw [List.length_map] at this
  have := h2.1
  omega
theorem S1.read (h : S1 w base g c n m A) (i : Nat) (hi : i < n) :
    ∃ b c, w.cell? ⟨g, i, none⟩ = some (.slice (some ⟨b, 0, none⟩) m c) ∧ w.frozen? ⟨g, i, none⟩ = false ∧ Rw w base b c (ofL (row A i)) := by
  obtain ⟨a, b, h1, h5⟩ := h
  have hi' : i < (A.map ofL).length := by rw [List.length_map, h5.1]; exact hi
  have hat := h1.at_ i hi'
  have hr := h1.rows i hi'
  rw [map_getD] at hr
  refine ⟨a i, b i, ?_, hat.2, hr⟩
  rw [hat.1]
  unfold sl
  rw [map_getD, ofL_length, h5.2 i hi]
theorem S1.look (h : S1 w base g c n m A) {i b cp : Nat} (hi : i < n) (hc : w.cell? ⟨g, i, none⟩ = some (.slice (some ⟨b, 0, none⟩) m cp)) : Rw w base b cp (ofL (row A i)) := by
  obtain ⟨b', c', h1, _, h2⟩ := h.read i hi
  rw [hc] at h1
  have := Option.some.inj h1
  injection this with t1 t2 t3
  injection t1 with t1
  injection t1 with t1
  subst t1 t3
  exact h2
theorem S1.exch (h : S1 w base g c n m A) (hB : Below base w0 w) {i j : Nat} (hi : i < n) (hj : j < n) {u v : Value} (hu : w.cell? ⟨g, i, none⟩ = some u) (hv : w.cell? ⟨g, j, none⟩ = some v) :
    S1 ((w.setCell ⟨g, i, none⟩ v).setCell ⟨g, j, none⟩ u).drew base g c n m (swapM A i j) ∧ Below base w0 ((w.setCell ⟨g, i, none⟩ v).setCell ⟨g, j, none⟩ u).drew := by
  obtain ⟨_, hg, _, _⟩ := h.reg
  obtain ⟨a, b, h1, h5⟩ := h
  have hi' : i < (A.map ofL).length := by rw [List.length_map, h5.1]; exact hi
  have hj' : j < (A.map ofL).length := by rw [List.length_map, h5.1]; exact hj
  have e1 := (h1.at_ i hi').1
  have e2 := (h1.at_ j hj').1
  rw [hu] at e1
  rw [hv] at e2
  obtain rfl := Option.some.inj e1
  obtain rfl := Option.some.inj e2
  have hs := h1.swap i j hi' hj'
  rw [map_swap] at hs
  exact ⟨S1.drew ⟨_, _, hs, h5.swap hi hj⟩, below_drew ((hB.setCell hg _).setCell hg _)⟩
theorem S1.put (h : S1 w base g c n m A) (hB : Below base w0 w) {i : Nat} (hi : i < n) {b cp : Nat} (hb : w.cell? ⟨g, i, none⟩ = some (.slice (some ⟨b, 0, none⟩) m cp)) (j : Nat) (x : B) :
    S1 (w.setCell ⟨b, j, none⟩ (.int .u8 (ofB x))) base g c n m (A.set i ((row A i).set j x)) ∧ Below base w0 (w.setCell ⟨b, j, none⟩ (.int .u8 (ofB x))) ∧ b ≠ g := by
  have hbase := (h.look hi hb).base_
  obtain ⟨a, b', h1, h5⟩ := h
  have hi' : i < (A.map ofL).length := by rw [List.length_map, h5.1]; exact hi
  have e1 := (h1.at_ i hi').1
  rw [hb] at e1
  have e2 : b = a i := by
    have := Option.some.inj e1
    unfold sl at this
    injection this with t1 t2 t3
    injection t1 with t1
    injection t1 with t1
  subst e2
  have hp := h1.put i hi' j (ofB x)
  rw [map_getD, ofL_set, map_set] at hp
  exact ⟨⟨a, b', hp, h5.set hi (by rw [List.length_set]; exact h5.2 i hi)⟩, hB.setCell hbase _, h1.ne (h1.rows i hi')⟩
/-- Two different rows lie in different blocks. -/
theorem S1.apart (h : S1 w base g c n m A) {i j bi ci bj cj : Nat} (hi : i < n) (hj : j < n) (hij : i ≠ j) (h1 : w.cell? ⟨g, i, none⟩ = some (.slice (some ⟨bi, 0, none⟩) m ci)) (h2 : w.cell? ⟨g, j, none⟩ = some (.slice (some ⟨bj, 0, none⟩) m cj)) : bi ≠ bj := by
  obtain ⟨a, b, hM, h5⟩ := h
  have hi' : i < (A.map ofL).length := by rw [List.length_map, h5.1]; exact hi
  have hj' : j < (A.map ofL).length := by rw [List.length_map, h5.1]; exact hj
  have e1 := (hM.at_ i hi').1
  have e2 := (hM.at_ j hj').1
  rw [h1] at e1
  rw [h2] at e2
  have t1 : bi = a i := by
    have := Option.some.inj e1
    unfold sl at this
    injection this with t1 t2 t3
    injection t1 with t1
    injection t1 with t1
  have t2 : bj = a j := by
    have := Option.some.inj e2
    unfold sl at this
    injection this with t1 t2 t3
    injection t1 with t1
    injection t1 with t1
  rw [t1, t2]
  exact fun e => hij (hM.inj i j hi' hj' e)
end
theorem S1.of_S {w : World} {base : Nat} {v : Value} {A : Mat} {n m : Nat} (h : Kd.S (Kd.slice 5 (Kd.int .u8)) 22 w base (fun _ => True) v (A.map ofL)) (hA : Reg A n m) (hn : 0 < n) (hm : 0 < m) : ∃ g c, v = .slice (some ⟨g, 0, none⟩) n c ∧ S1 w base g c n m A := by
  obtain ⟨g, c, id, cap, e, h1, _⟩ := Mt.of_S h (by rw [List.length_map, hA.1]; exact hn) (fun i hi => by rw [List.length_map, hA.1] at hi; rw [map_getD, ofL_length, hA.2 i hi]; exact hm)
  rw [List.length_map, hA.1] at e
  exact ⟨g, c, e, id, cap, h1, hA⟩
end Go.Proofs.Ytbogmlckbkogiaa.H
namespace Go.Proofs.Ytbogmlckbkogiaa.Red
open Go.RowKit Go.Proofs.YtbogmlckbkogiaaW.PrintWords Go.Proofs.Ytbogmlckbkogiaa.Leaf Go.Proofs.Ytbogmlckbkogiaa.Gf Go.Proofs.Ytbogmlckbkogiaa.H Go.Proofs.Ytbogmlckbkogiaa.Mx
set_option linter.unusedVariables false
/-- A row's places from `j` on, `q` times another row's added. -/
def amG (q : B) (M : List B) : Nat → Nat → List B → List B
  | 0, _, r => r
  | n + 1, j, r => amG q M n (j + 1) (r.set j (at0 r j ^^^ mul q (at0 M j)))
theorem amG_length (q : B) (M : List B) (n : Nat) : ∀ (j : Nat) (r : List B), (amG q M n j r).length = r.length := by
  induction n with
  | zero => intro j r; rfl
  | succ n ih => intro j r; simp only [amG]; rw [ih, List.length_set]
theorem amG_at (q : B) (M : List B) (n : Nat) : ∀ (j0 : Nat) (r : List B) (j : Nat), j0 + n = r.length → at0 (amG q M n j0 r) j = if j0 ≤ j ∧ j < r.length then at0 r j ^^^ mul q (at0 M j) else at0 r j := by
  induction n with
  | zero =>
    intro j0 r j h
    simp only [amG]
    rw [if_neg (by omega)]
  | succ n ih =>
    intro j0 r j h
    simp only [amG]
    rw [ih (j0 + 1) _ j (by rw [List.length_set]; omega), List.length_set, at0_set _ _ _ _ (by omega)]
    by_cases e : j0 = j
    · subst e
      rw [if_neg (by omega), if_pos rfl, if_pos (by omega)]
    · rw [if_neg e]
      by_cases h2 : j0 + 1 ≤ j ∧ j < r.length
      · rw [if_pos h2, if_pos (by omega)]
      · rw [if_neg h2, if_neg (by omega)]
/-- The rows from `i` on, the one at `d` taken off so often that column `c` is nought there. -/
def rkE (c d : Nat) : Nat → Nat → Mat → Mat
  | 0, _, A => A
  | n + 1, i, A => rkE c d n (i + 1) (A.set i (amG (mul (el A i c) (inv (el A d c))) (row A d) (row A i).length 0 (row A i)))
def rkF : Nat → Nat → Nat → Mat → Nat
  | 0, _, d, _ => d
  | n + 1, c, d, A => if pivot A d c < 0 then rkF n (c + 1) d A else rkF n (c + 1) (d + 1) (rkE c d (A.length - (d + 1)) (d + 1) (swapM A ((pivot A d c).toNat + d) d))
theorem rkE_row (c d : Nat) (n : Nat) : ∀ (i : Nat) (A : Mat), i + n = A.length → d < i → d < A.length →
    (rkE c d n i A).length = A.length ∧ ∀ k, row (rkE c d n i A) k = if i ≤ k ∧ k < A.length then amG (mul (el A k c) (inv (el A d c))) (row A d) (row A k).length 0 (row A k) else row A k := by
  induction n with
  | zero =>
    intro i A h hd hd2
    simp only [rkE]
    exact ⟨trivial, fun k => by rw [if_neg (by omega)]⟩
  | succ n ih =>
    intro i A h hd hd2
    simp only [rkE]
    obtain ⟨h1, h2⟩ := ih (i + 1) (A.set i (amG (mul (el A i c) (inv (el A d c))) (row A d) (row A i).length 0 (row A i))) (by rw [List.length_set]; omega) (by omega) (by rw [List.length_set]; exact hd2)
    rw [List.length_set] at h1 h2
    have qk := fun k => row_set A i k (amG (mul (el A i c) (inv (el A d c))) (row A d) (row A i).length 0 (row A i)) (by omega)
    have qd := (qk d).trans (if_neg (by omega))
    have qe : ∀ k, k ≠ i → el (A.set i (amG (mul (el A i c) (inv (el A d c))) (row A d) (row A i).length 0 (row A i))) k c = el A k c := by
      intro k hk
      unfold el
      unfold el at qk
      rw [qk, if_neg hk]
    refine ⟨h1, fun k => ?_⟩
    by_cases e : k = i
    · rw [h2 k, if_neg (by omega), qk k, if_pos e, e, if_pos ⟨Nat.le_refl _, by omega⟩]
    · rw [h2 k, qe k e, qe d (by omega), qk k, if_neg e, qd]
      by_cases h5 : i + 1 ≤ k ∧ k < A.length
      · rw [if_pos h5, if_pos ⟨by omega, h5.2⟩]
      · rw [if_neg h5, if_neg (fun h6 => h5 ⟨by omega, h6.2⟩)]
theorem pivot_congr {n m d c : Nat} {A C : Mat} (hA : Reg A n m) (hC : Reg C n m) (h : ∀ i, d ≤ i → i < n → row A i = row C i) : pivot A d c = pivot C d c := by
  unfold pivot
  rw [hA.1, hC.1]
  unfold firstP
  have e : (List.range (n - d)).find? (fun j => rd (ofL (row A (d + j))) (c : Int) != 0) = (List.range (n - d)).find? (fun j => rd (ofL (row C (d + j))) (c : Int) != 0) := by
    have key : ∀ l : List Nat, (∀ j ∈ l, j < n - d) → l.find? (fun j => rd (ofL (row A (d + j))) (c : Int) != 0) = l.find? (fun j => rd (ofL (row C (d + j))) (c : Int) != 0) := by
      intro l
      induction l with
      | nil => intro _; rfl
      | cons a l ih =>
        intro hl
        simp only [List.find?_cons]
        rw [h (d + a) (by omega) (by have := hl a (by simp); omega), ih (fun j hj => hl j (by simp [hj]))]
    exact key _ (fun j hj => List.mem_range.1 hj)
  rw [e]
theorem rkE_reg {n m c d : Nat} {A : Mat} (hA : Reg A n m) (hd : d < n) : Reg (rkE c d (A.length - (d + 1)) (d + 1) A) n m := by
  have hl := hA.1
  obtain ⟨h1, h2⟩ := rkE_row c d (A.length - (d + 1)) (d + 1) A (by omega) (by omega) (by omega)
  refine ⟨by rw [h1, hl], fun i hi => ?_⟩
  rw [h2]
  split
  · rw [amG_length]; exact hA.2 i hi
  · exact hA.2 i hi
theorem rkF_full {n m : Nat} (fuel : Nat) : ∀ (c : Nat) (A : Mat), Reg A n m → rkF fuel c n A = n := by
  induction fuel with
  | zero => intro c A hA; rfl
  | succ fuel ih =>
    intro c A hA
    simp only [rkF]
    have : pivot A n c < 0 := by
      unfold pivot
      rw [hA.1, Nat.sub_self]
      unfold firstP
      simp
    rw [if_pos this]
    exact ih _ A hA
/-- The reference's rank is what reduce counts. -/
theorem rkF_eq {n m p : Nat} (fuel : Nat) : ∀ (c d : Nat) (A C Z : Mat), c + fuel = m → d < n → Reg A n m → Reg C n m → Reg Z n p → (∀ i, d ≤ i → i < n → row A i = row C i) → rkF fuel c d C = (redF fuel c d A Z).1 := by
  induction fuel with
  | zero => intro c d A C Z _ _ _ _ _ _; rfl
  | succ fuel ih =>
    intro c d A C Z hc hd hA hC hZ h
    simp only [rkF, redF]
    rw [← pivot_congr hA hC h]
    by_cases hp : pivot A d c < 0
    · rw [if_pos hp, if_pos hp]
      exact ih (c + 1) d A C Z (by omega) hd hA hC hZ h
    · rw [if_neg hp, if_neg hp]
      obtain ⟨t, e, ht, hx, _⟩ := pivot_hit hA hp
      rw [e, show ((t : Int)).toNat = t from rfl]
      have ht' : t + d < n := by omega
      have hx' : el A (t + d) c ≠ 0#8 := by rw [Nat.add_comm]; exact hx
      obtain ⟨g1, g2, g3, _⟩ := stepF_spec hA hZ hd ht' (show c < m by omega)
      have hsw := hC.swap ht' hd
      have hswl := hsw.1
      have hE := rkE_reg (c := c) hsw hd
      have hCl := hC.1
      rw [show C.length - (d + 1) = (swapM C (t + d) d).length - (d + 1) by rw [hswl, hCl]]
      by_cases he : d + 1 = A.length
      · rw [if_pos he]
        have hAl := hA.1
        rw [show d + 1 = n by omega] at hE ⊢
        exact rkF_full fuel (c + 1) _ hE
      · rw [if_neg he]
        have hAl := hA.1
        refine ih (c + 1) (d + 1) _ _ _ (by omega) (by omega) g1 hE g2 (fun i hi1 hi2 => ?_)
        obtain ⟨q1, q2⟩ := rkE_row c d ((swapM C (t + d) d).length - (d + 1)) (d + 1) (swapM C (t + d) d) (by omega) (by omega) (by omega)
        have rC := fun k => row_swap C (t + d) d k (by omega) (by omega)
        rw [q2, if_pos ⟨hi1, by omega⟩]
        refine ext0 (by rw [g1.2 i hi2, amG_length, hsw.2 i hi2]) (fun j hj => ?_)
        rw [g1.2 i hi2] at hj
        show el _ i j = _
        have hsi : (if i = t + d then d else i) < n := by split <;> omega
        have hrow : row C (if i = t + d then d else i) = row A (if i = t + d then d else i) := (h _ (by split <;> omega) hsi).symm
        have hrt : row C (t + d) = row A (t + d) := (h _ (by omega) ht').symm
        have hd' : row (swapM C (t + d) d) d = row A (t + d) := by rw [rC, if_pos rfl, hrt]
        have hi' : row (swapM C (t + d) d) i = row A (if i = t + d then d else i) := by rw [rC, if_neg (by omega), hrow]
        rw [g3 i j hi2 hj, if_neg (by omega), amG_at _ _ _ _ _ _ (by rw [Nat.zero_add]), if_pos (show 0 ≤ j ∧ j < (row (swapM C (t + d) d) i).length from ⟨Nat.zero_le _, by rw [hsw.2 i hi2]; exact hj⟩)]
        unfold el
        rw [hd', hi']
        congr 1
        have key : ∀ p v x : B, mul (mul p v) x = mul (mul x v) p := fun p v x => by rw [mul_assoc, mul_comm v x, mul_comm p]
        exact key _ _ _
theorem rank_same {n m p p' : Nat} {A Z Z' : Mat} (hn : 0 < n) (hA : Reg A n m) (hZ : Reg Z n p) (hZ' : Reg Z' n p') : (redF m 0 0 A Z).1 = (redF m 0 0 A Z').1 := by
  rw [← rkF_eq m 0 0 A A Z (by omega) hn hA hA hZ (fun _ _ _ => rfl), rkF_eq m 0 0 A A Z' (by omega) hn hA hA hZ' (fun _ _ _ => rfl)]
end Go.Proofs.Ytbogmlckbkogiaa.Red
