/- Words and walks that the claim StripeRefuses leans on (what it does not use is left out). -/
import Derived.Test.YtnfgiamdmfkcjaaDoorMStripeRefuses1
import Derived.Test.YtnfgiamdmfkcjaaDoorMStripeRefuses2
import Derived.Laws.CopyOwn
namespace Go.Proofs.YtnfgiamdmfkcjaaDoor.P
open Go.Proofs.YtnfgiamdmfkcjaaDoor.Leaf
open Go.RowKit Go.Proofs.YtnfgiamdmfkcjaaDoorW.PrintWords Go.Proofs.YtnfgiamdmfkcjaaDoorW.PrintLast Go.Proofs.YtnfgiamdmfkcjaaDoorW.PrintMore
attribute [local go_sem] max2_int min2_int max_two min_two max_three min_three max_four min_four   -- for this text's walks alone
set_option linter.unusedVariables false
set_option linter.unusedSimpArgs false
def gf_AddMul.l0 : Nat → List Int → List Int → Int → List Int → Int → Int → Option (List Int × Bool)
 | 0, _, _, _, _, _, _ => none
 | k + 1, x0, x1, x2, x8, x19, x20 => if x20 < x19 then (if 0 ≤ x20 then (if x20 < (x0.length : Int) then (if x20 < (x1.length : Int) then ((gf_Mul.f (rd x1 x20) x2).bind fun t106 => (if x20 < (x8.length : Int) then (gf_AddMul.l0 k x0 x1 x2 (x8.set (x20 : Int).toNat (Go.bits .xor .u8 (rd x0 x20) t106)) x19 (wrap64 (x20 + 1))) else (none))) else (none)) else (none)) else (none)) else (some (x8, true))
def gf_AddMul.f (k : Nat) (l0 : List Int) (l1 : List Int) (a2 : Int) : Option (List Int × Bool) := if (l0.length : Int) = (l1.length : Int) then (if 0 ≤ (l0.length : Int) then (if ((l0.length : Int) : Int).toNat ≤ 281474976710656 then ((some (List.replicate ((l0.length : Int) : Int).toNat 0 : List Int)).bind fun y101 => (gf_AddMul.l0 k l0 l1 a2 y101 (y101.length : Int) 0)) else (none)) else (none)) else (some (([] : List Int), false))
theorem gf_AddMul.mono_l : ∀ k, (∀ y0 y1 y2 y3 y4 y5, LeO (gf_AddMul.l0 k y0 y1 y2 y3 y4 y5) (gf_AddMul.l0 (k + 1) y0 y1 y2 y3 y4 y5))
 | 0 => fun _ _ _ _ _ _ r h => by simp [gf_AddMul.l0] at h
 | k + 1 => by
  have ih0 := gf_AddMul.mono_l k
  ·intro y0 y1 y2 y3 y4 y5
   unfold gf_AddMul.l0
   repeat' first
   | (with_reducible exact ih0 _ _ _ _ _ _)
   | (with_reducible exact LeO.refl _)
   | (with_reducible exact LeO.none _)
   | (with_reducible refine LeO.ite ?_ ?_)
   | (with_reducible refine LeO.bind ?_ (fun _ => ?_))
   | exact ih0 _ _ _ _ _ _
   | exact LeO.none _
   | refine LeO.ite ?_ ?_
   | refine LeO.bind ?_ (fun _ => ?_)
theorem gf_AddMul.mono : ∀ a0 a1 a2 k, LeO (gf_AddMul.f k a0 a1 a2) (gf_AddMul.f (k + 1) a0 a1 a2) := by
 intro a0 a1 a2 k
 have ih0 := gf_AddMul.mono_l k
 unfold gf_AddMul.f
 repeat' first
   | (with_reducible exact ih0 _ _ _ _ _ _)
   | (with_reducible exact LeO.refl _)
   | (with_reducible exact LeO.none _)
   | (with_reducible refine LeO.ite ?_ ?_)
   | (with_reducible refine LeO.bind ?_ (fun _ => ?_))
   | exact ih0 _ _ _ _ _ _
   | exact LeO.none _
   | refine LeO.ite ?_ ?_
   | refine LeO.bind ?_ (fun _ => ?_)
def gf_AddMul.T7 : Bool × List (List Nat × List Nat) := (true, [([], []), ([], []), ([], []), ([], []), ([2, 3], [2, 3]), ([4], [4]), ([], []), ([], []), ([6, 7], [6, 7]), ([8], [8]), ([], []), ([9, 10], [9, 10]), ([5, 11], [5, 11]), ([0, 1, 0, 1, 2, 3, 4, 5, 6, 7, 8, 9, 10, 11, 12], [0, 1]), ([13, 12, 11, 0, 1, 2, 3, 4, 5, 6, 7, 8, 9, 10, 11, 12], [12, 13])])
def gf_AddMul.B7 : List Nat := [0, 0, 0, 0, 12, 28, 0, 0, 192, 448, 0, 1984, 4092, 8191, 16383]
theorem gf_AddMul.tab7 : rtab .any (opsOf Tryd.f71 7) = gf_AddMul.T7 := by kernel_rfl
theorem gf_AddMul.bits7 : waitsOk gf_AddMul.T7.2 gf_AddMul.B7 = true := by kernel_rfl
set_option maxHeartbeats 8000000 in
set_option maxRecDepth 100000 in
theorem gf_AddMul.calls (k : Nat) (A0 : Option Addr) (c0 : Nat) (l0 : List Int) (A1 : Option Addr) (c1 : Nat) (l1 : List Int) (a2 : Int) (r1 : List Int) (r2 : Bool) (w : World) (hr0 : Kd.C (Kd.int .u8) w A0 l0.length l0) (hc0 : l0.length ≤ c0) (hr1 : Kd.C (Kd.int .u8) w A1 l1.length l1) (hc1 : l1.length ≤ c1) (h : gf_AddMul.f k l0 l1 a2 = some (r1, r2)) :
  Calls Tryd.prog 71 #[.slice A0 l0.length c0, .slice A1 l1.length c1, .int .u8 a2] w fun e w' => ∃ v0_ : Value, e = .returned (.tuple #[v0_, .bool r2]) ∧ Kd.R (Kd.int .u8) 5 w' w.heap.size (fun _ => True) v0_ r1 ∧ Below w.heap.size w w' := by
 have HR0 := Aside0.mk hr0
 have HC0 := Aside0.mk hc0
 clear hr0 hc0
 have HR1 := Aside0.mk hr1
 have HC1 := Aside0.mk hc1
 clear hr1 hc1
 have HB := Aside0.mk (Below.refl w.heap.size w)
 have H : (if (l0.length : Int) = (l1.length : Int) then (if 0 ≤ (l0.length : Int) then (if ((l0.length : Int) : Int).toNat ≤ 281474976710656 then ((some (List.replicate ((l0.length : Int) : Int).toNat 0 : List Int)).bind fun y101 => (gf_AddMul.l0 k l0 l1 a2 y101 (y101.length : Int) 0)) else (none)) else (none)) else (some (([] : List Int), false))) = some (r1, r2) := h
 clear h
 by_cases c4 : (l0.length : Int) = (l1.length : Int)
 ·rw [if_pos c4] at H
  have c4b0 : ((l0.length : Int) == (l1.length : Int)) = true := beq_iff_eq.mpr c4
  have c4b1 : ((l0.length : Int) != (l1.length : Int)) = false := bne_eq_false_iff_eq.mpr c4
  have c4b2 : (l0.length == l1.length) = true := by first | simpa using c4 | (simp at c4 ⊢; omega)
  clear c4
  by_cases c5 : 0 ≤ (l0.length : Int)
  ·rw [if_pos c5] at H
   have c5b0 := eq_true c5
   have c5b1 : decide (0 ≤ (l0.length : Int)) = true := decide_eq_true c5
   clear c5
   by_cases c6 : ((l0.length : Int) : Int).toNat ≤ 281474976710656
   ·rw [if_pos c6] at H
    have c6b0 := eq_true c6
    have c6b1 : decide (((l0.length : Int) : Int).toNat ≤ 281474976710656) = true := decide_eq_true c6
    clear c6
    obtain ⟨y101, hy101⟩ : ∃ y_ : List Int, y_ = (List.replicate ((l0.length : Int) : Int).toNat 0) := ⟨_, rfl⟩
    replace H : (gf_AddMul.l0 k l0 l1 a2 y101 (y101.length : Int) 0) = some (r1, r2) := by first | (rw [hy101]; with_reducible exact H) | (have H2_ := (Option.bind_some _ _).symm.trans H; rw [hy101]; with_reducible exact H2_) | (have H2_ := (Option.bind_some _ _).symm.trans H; with_reducible exact H2_) | with_reducible exact H | (rw [hy101]; exact H) | exact H
    have Ny101 := Aside0.mk hy101
    clear hy101
    have H' := Aside0.mk H
    clear H
    go_enter Tryd.func71, Tryd.ntmps71
    go_wp2_with (first | ((with_reducible refine gate_dst (N := 17) rfl ?_); refine Kd.R_make (Kd.int .u8) _ 5 rfl (N := 17) rfl 22 _ _ rfl (l0.length : Int) rfl rfl Tryd.underlying22 (.int .u8 0) 1 info5 rfl (by decide) (by omega) 0 (ok := fun _ => True) (okp := fun _ => True) rfl (fun _ hk => hk) trivial (of_decide_eq_true (by first | (with_reducible assumption) | assumption)) (Nat.le_trans (Nat.mul_le_mul_right _ (of_decide_eq_true (by first | (with_reducible assumption) | assumption) : (l0.length : Int).toNat ≤ 281474976710656)) (by omega)) (Below.refl _ _) (Nat.le_refl _) ?_; intro v102 w7 ho8 hb hg_ hnew_; clear hg_ hnew_; (first | rw [← Ny101.out] at ho8 | (simp only [Int.reduceToNat] at ho8; rw [← Ny101.out] at ho8)); have n0_ := Aside0.mk (Kd.R_lower ho8 (below_size (by repeat (first | (with_reducible first | exact HB.out | apply below_alloc | apply pw_below_drewN | apply below_drew1) | exact HB.out)))); have n1_ := Aside0.mk (below_step (by repeat (first | (with_reducible first | exact HB.out | apply below_alloc | apply pw_below_drewN | apply below_drew1) | exact HB.out)) hb); clear HB; have HO103 := n0_; have HB := n1_; clear n0_ n1_; clear hb ho8; obtain ⟨Ao9, co9, eo9⟩ := Kd.R_slice HO103.out; subst eo9))
    go_loopg [20] k (fun kq v20 w' => ∃ (x8_1 : List Int) (x20_1 : Int), v20 = .int .i64 x20_1 ∧ Aside0 (gf_AddMul.l0 kq l0 l1 a2 x8_1 (y101.length : Int) x20_1 = some (r1, r2)) ∧ Aside0 (kq ≤ k) ∧ Aside0 (Kd.R (Kd.int .u8) 5 w' w.heap.size (fun _ => True) (.slice Ao9 y101.length co9) x8_1) ∧ Aside0 (Below w.heap.size w w'))
    case atStart => exact ⟨(y101), (0), (by first | rfl | (simp; done) | (simp [*]; done)), H', ⟨Nat.le_refl _⟩, ⟨by (with_reducible repeat (first | apply Kd.R_alloc | apply Kd.R_drewN | apply Kd.R_drew)); exact HO103.out⟩, ⟨by repeat (first | (with_reducible first | exact HB.out | apply below_alloc | apply pw_below_drewN | apply below_drew1) | exact HB.out)⟩⟩
    case round =>
     clear H'
     try clear c1
     try clear p2
     try clear c4
     try clear c4b0
     try clear c4b1
     try clear c4b2
     try clear c5
     try clear c5b0
     try clear c5b1
     try clear c6
     try clear c6b0
     try clear c6b1
     try clear c7
     obtain ⟨x8_1, x20_1, rfl, HA, HK1, HO_8, HB⟩ := hrel
     have hl8_1 := (Kd.R_reads' HO_8.out).1
     rw [hl8_1] at HO_8
     (try simp only [hl8_1])
     cases gk with
     | zero => exact absurd HA.out (by simp [gf_AddMul.l0])
     | succ k1 =>
      have H := HA.out
      clear HA
      simp only [gf_AddMul.l0] at H
      by_cases c10 : x20_1 < (y101.length : Int)
      ·rw [if_pos c10] at H
       have c10b0 : decide (x20_1 < (y101.length : Int)) = true := decide_eq_true c10
       (try simp only [hl8_1] at c10b0)
       clear c10
       by_cases c11 : 0 ≤ x20_1
       ·rw [if_pos c11] at H
        have c11b0 : decide (0 ≤ x20_1) = true := decide_eq_true c11
        (try simp only [hl8_1] at c11b0)
        clear c11
        by_cases c12 : x20_1 < (l0.length : Int)
        ·rw [if_pos c12] at H
         have c12b0 : decide (x20_1 < (l0.length : Int)) = true := decide_eq_true c12
         (try simp only [hl8_1] at c12b0)
         clear c12
         by_cases c13 : x20_1 < (l1.length : Int)
         ·rw [if_pos c13] at H
          have c13b0 : decide (x20_1 < (l1.length : Int)) = true := decide_eq_true c13
          (try simp only [hl8_1] at c13b0)
          clear c13
          replace H := Option.bind_eq_some_iff.mp H
          obtain ⟨t106, A140, H⟩ := H
          replace H : (if x20_1 < (x8_1.length : Int) then (gf_AddMul.l0 k1 l0 l1 a2 (x8_1.set (x20_1 : Int).toNat (Go.bits .xor .u8 (rd l0 x20_1) t106)) (y101.length : Int) (wrap64 (x20_1 + 1))) else (none)) = some (r1, r2) := H
          have A14 := Aside0.mk A140
          clear A140
          by_cases c15 : x20_1 < (x8_1.length : Int)
          ·rw [if_pos c15] at H
           have c15b0 : decide (x20_1 < (x8_1.length : Int)) = true := decide_eq_true c15
           (try simp only [hl8_1] at c15b0)
           clear c15
           obtain ⟨y107, hy107⟩ : ∃ y_ : List Int, y_ = (x8_1.set (x20_1 : Int).toNat (Go.bits .xor .u8 (rd l0 x20_1) t106)) := ⟨_, rfl⟩
           replace H : (gf_AddMul.l0 k1 l0 l1 a2 y107 (y101.length : Int) (wrap64 (x20_1 + 1))) = some (r1, r2) := by first | (rw [hy107]; with_reducible exact H) | (have H2_ := (Option.bind_some _ _).symm.trans H; rw [hy107]; with_reducible exact H2_) | (have H2_ := (Option.bind_some _ _).symm.trans H; with_reducible exact H2_) | with_reducible exact H | (rw [hy107]; exact H) | exact H
           have Ny107 := Aside0.mk hy107
           clear hy107
           have H' := Aside0.mk H
           clear H
           try go_wp2
           have n0_ := Aside0.mk (Kd.R_drew HO_8.out)
           have n1_ := Aside0.mk (below_drew1 HB.out)
           clear HO_8
           clear HB
           have HO_8 := n0_
           have HB := n1_
           clear n0_ n1_
           have p104 : 0 ≤ (x20_1 : Int) := of_decide_eq_true (by first | (with_reducible assumption) | assumption)
           have q104 : x20_1 < (l0.length : Int) := of_decide_eq_true (by first | (with_reducible assumption) | assumption)
           obtain ⟨ad104, e104, hx104_0⟩ := Kd.at_int HR0.out x20_1 p104 q104
           have hw104_0 := hx104_0
           cases e104
           replace hx104_0 := (HB.out.cell (World.block_lt_of_cell? w _ hx104_0)).trans hx104_0
           replace p104 := eq_true p104
           replace q104 := eq_true q104
           have p105 : 0 ≤ (x20_1 : Int) := of_decide_eq_true (by first | (with_reducible assumption) | assumption)
           have q105 : x20_1 < (l1.length : Int) := of_decide_eq_true (by first | (with_reducible assumption) | assumption)
           obtain ⟨ad105, e105, hx105_0⟩ := Kd.at_int HR1.out x20_1 p105 q105
           have hw105_0 := hx105_0
           cases e105
           replace hx105_0 := (HB.out.cell (World.block_lt_of_cell? w _ hx105_0)).trans hx105_0
           replace p105 := eq_true p105
           replace q105 := eq_true q105
           refine start_ (n := 15) (S := fun w' => w'.cell? (ad104.add (x20_1).toNat) = some (.int .u8 (rd l0 x20_1)) ∧ w'.cell? (ad105.add (x20_1).toNat) = some (.int .u8 (rd l1 x20_1))) (ds := [14]) #[false, false, false, false, false, false, false, false, false, false, false, false, false, false, false] (by kernel_rfl) rfl rfl ⟨((HB.out.cell (World.block_lt_of_cell? w _ hw104_0)).trans hw104_0), ((HB.out.cell (World.block_lt_of_cell? w _ hw105_0)).trans hw105_0)⟩ (fun hHeld => ?_); refine with_tabW gf_AddMul.tab7 gf_AddMul.bits7 (fun HT_ HW_ => ?_)
           generalize wr.drew = w17 at HO_8 HB hx104_0 hx105_0 hHeld ⊢
           refine pure_ (i := 0) (N := some 23) (v := ?_) (a' := ?_) #[true, false, false, false, false, false, false, false, false, false, false, false, false, false, false] rfl rfl (any_of HT_.out (by kernel_rfl)) (fun _ _ _ h => h) (Or.inl ⟨by rfl, ?_⟩) ?_ ?_
           rotate_left
           ·intro w'
            go_simp
            with_reducible rfl
           rotate_left
           ·simp only [Act.put, List.setIfInBounds_toArray, List.set_cons_zero, List.set_cons_succ, i64_w, i32_w]
            rfl
           refine pure_ (i := 1) (N := some 24) (v := ?_) (a' := ?_) #[true, true, false, false, false, false, false, false, false, false, false, false, false, false, false] rfl rfl (any_of HT_.out (by kernel_rfl)) (fun _ _ _ h => h) (Or.inl ⟨by rfl, ?_⟩) ?_ ?_
           rotate_left
           ·intro w'
            go_simp
            with_reducible rfl
           rotate_left
           ·simp only [Act.put, List.setIfInBounds_toArray, List.set_cons_zero, List.set_cons_succ, i64_w, i32_w]
            rfl
           refine pure_ (i := 2) (N := some 25) (v := ?_) (a' := ?_) #[true, true, true, false, false, false, false, false, false, false, false, false, false, false, false] rfl rfl (any_of HT_.out (by kernel_rfl)) (fun _ _ _ h => h) (Or.inl ⟨by rfl, ?_⟩) ?_ ?_
           rotate_left
           ·intro w'
            go_simp
            with_reducible rfl
           rotate_left
           ·simp only [Act.put, List.setIfInBounds_toArray, List.set_cons_zero, List.set_cons_succ, i64_w, i32_w]
            rfl
           refine pure_ (i := 3) (N := some 26) (v := ?_) (a' := ?_) #[true, true, true, true, false, false, false, false, false, false, false, false, false, false, false] rfl rfl (any_of HT_.out (by kernel_rfl)) (fun _ _ _ h => h) (Or.inl ⟨by rfl, ?_⟩) ?_ ?_
           rotate_left
           ·intro w'
            go_simp
            with_reducible rfl
           rotate_left
           ·simp only [Act.put, List.setIfInBounds_toArray, List.set_cons_zero, List.set_cons_succ, i64_w, i32_w]
            rfl
           refine pure_ (i := 4) (N := some 27) (v := ?_) (a' := ?_) #[true, true, true, true, true, false, false, false, false, false, false, false, false, false, false] rfl rfl (any_of HT_.out (by kernel_rfl)) (fun _ _ _ h => h) (Or.inl ⟨by rfl, ?_⟩) ?_ ?_
           rotate_left
           ·intro w'
            go_simp
            with_reducible rfl
           rotate_left
           ·simp only [Act.put, List.setIfInBounds_toArray, List.set_cons_zero, List.set_cons_succ, i64_w, i32_w]
            rfl
           refine pure_ (i := 6) (N := some 29) (v := ?_) (a' := ?_) #[true, true, true, true, true, false, true, false, false, false, false, false, false, false, false] rfl rfl (any_of HT_.out (by kernel_rfl)) (fun _ _ _ h => h) (Or.inl ⟨by rfl, ?_⟩) ?_ ?_
           rotate_left
           ·intro w'
            go_simp
            with_reducible rfl
           rotate_left
           ·simp only [Act.put, List.setIfInBounds_toArray, List.set_cons_zero, List.set_cons_succ, i64_w, i32_w]
            rfl
           refine pure_ (i := 7) (N := some 30) (v := ?_) (a' := ?_) #[true, true, true, true, true, false, true, true, false, false, false, false, false, false, false] rfl rfl (any_of HT_.out (by kernel_rfl)) (fun _ _ _ h => h) (Or.inl ⟨by rfl, ?_⟩) ?_ ?_
           rotate_left
           ·intro w'
            go_simp
            with_reducible rfl
           rotate_left
           ·simp only [Act.put, List.setIfInBounds_toArray, List.set_cons_zero, List.set_cons_succ, i64_w, i32_w]
            rfl
           refine pure_ (i := 8) (N := some 31) (v := ?_) (a' := ?_) #[true, true, true, true, true, false, true, true, true, false, false, false, false, false, false] rfl rfl (any_of HT_.out (by kernel_rfl)) (fun _ _ _ h => h) (Or.inl ⟨by rfl, ?_⟩) ?_ ?_
           rotate_left
           ·intro w'
            go_simp
            with_reducible rfl
           rotate_left
           ·simp only [Act.put, List.setIfInBounds_toArray, List.set_cons_zero, List.set_cons_succ, i64_w, i32_w]
            rfl
           refine pure_ (i := 10) (N := some 33) (v := ?_) (a' := ?_) #[true, true, true, true, true, false, true, true, true, false, true, false, false, false, false] rfl rfl (any_of HT_.out (by kernel_rfl)) (fun _ _ _ h => h) (Or.inl ⟨by rfl, ?_⟩) ?_ ?_
           rotate_left
           ·intro w'
            go_simp
            with_reducible rfl
           rotate_left
           ·simp only [Act.put, List.setIfInBounds_toArray, List.set_cons_zero, List.set_cons_succ, i64_w, i32_w]
            rfl
           refine take_ (i := 5) (N := some 28) (v := ?_) (a' := ?_) #[true, true, true, true, true, true, true, true, true, false, true, false, false, false, false] rfl rfl (take_ofW HT_.out HW_.out (by kernel_rfl)) (fun _ _ _ h => h) (Or.inl ⟨by rfl, ?_⟩) hHeld ?_ ?_
           rotate_left
           ·rintro w' ⟨s0, s1⟩
            go_simp
            with_reducible rfl
           rotate_left
           ·simp only [Act.put, List.setIfInBounds_toArray, List.set_cons_zero, List.set_cons_succ, i64_w, i32_w]
            rfl
           refine take_ (i := 9) (N := some 32) (v := ?_) (a' := ?_) #[true, true, true, true, true, true, true, true, true, true, true, false, false, false, false] rfl rfl (take_ofW HT_.out HW_.out (by kernel_rfl)) (fun _ _ _ h => h) (Or.inl ⟨by rfl, ?_⟩) hHeld ?_ ?_
           rotate_left
           ·rintro w' ⟨s0, s1⟩
            go_simp
            with_reducible rfl
           rotate_left
           ·simp only [Act.put, List.setIfInBounds_toArray, List.set_cons_zero, List.set_cons_succ, i64_w, i32_w]
            rfl
           refine one_ (i := 11) (N := some 34) #[true, true, true, true, true, true, true, true, true, true, true, true, false, false, false] rfl rfl (one_of HT_.out (by kernel_rfl)) (by decide) (fun K hK => ?_)
           refine goes_ Tryd.func93 (by kernel_rfl) rfl #[.int .u8 (rd l1 x20_1), .int .u8 a2] (by rfl) rfl rfl (by (try simp only [List.map_toArray, List.map_cons, List.map_nil]); first | done | rfl | (simp only [List.length_drop, List.length_take]; rfl)) ?_
           with_reducible refine (gf_Mul.calls (rd l1 x20_1) a2 t106 _ A14.out).mono ?_
           rintro e w18 ⟨rfl, hb⟩
           refine ⟨_, rfl, ?_⟩
           have n0_ := Aside0.mk (Kd.R_below (by (with_reducible repeat (first | apply Kd.R_alloc | apply Kd.R_drewN | apply Kd.R_drew)); exact HO_8.out) hb)
           have n1_ := Aside0.mk (below_step (by repeat (first | (with_reducible first | exact HB.out | apply below_alloc | apply pw_below_drewN | apply below_drew1) | exact HB.out)) hb)
           clear HO_8
           clear HB
           have HO_8 := n0_
           have HB := n1_
           clear n0_ n1_
           (try clear hb)
           (try clear hb2)
           (try clear hk)
           (try clear hi)
           have p16 : 0 ≤ (x20_1 : Int) := of_decide_eq_true (by first | (with_reducible assumption) | assumption)
           have q16 : (x20_1 : Int) < ((x8_1.length : Int) : Int) := of_decide_eq_true (by first | (with_reducible assumption) | assumption)
           obtain ⟨go16, co16, eo16, gb16, gl16, cl16, HG16⟩ := Kd.R_form HO_8.out (by omega)
           (first | cases eo16 | (injection eo16 with ea_ en_ ec_; (first | subst ea_ | (injection ea_ with ea_; subst ea_)); subst ec_; clear en_))
           have GB16 := Aside0.mk gb16
           have GG16 := Aside0.mk HG16
           clear gb16 gl16 HG16
           obtain ⟨hx16_0, hf16_0⟩ := Kd.R_celln 0 HO_8.out (x20_1 : Int) p16 q16
           replace p16 := eq_true p16
           replace q16 := eq_true q16
           have HP19 := Kd.R_putn HO_8.out (x20_1 : Int) (Go.bits .xor .u8 (rd l0 x20_1) t106)
           rw [← Ny107.out] at HP19
           have HQ19 := Aside0.mk HP19
           clear HP19
           refine hK.out _ _ ⟨((HB.out.cell (World.block_lt_of_cell? w _ hw104_0)).trans hw104_0), ((HB.out.cell (World.block_lt_of_cell? w _ hw105_0)).trans hw105_0)⟩ (fun hHeld => ?_)
           clear hK K
           refine norm_ (a' := ?_) ?_ ?_
           rotate_left
           ·show Act.put _ (some 34) _ = _
            simp only [Act.put, List.setIfInBounds_toArray, List.set_cons_zero, List.set_cons_succ, i64_w, i32_w]
            rfl
           refine pure_ (i := 12) (N := some 35) (v := ?_) (a' := ?_) #[true, true, true, true, true, true, true, true, true, true, true, true, true, false, false] rfl rfl (any_of HT_.out (by kernel_rfl)) (fun _ _ _ h => h) (Or.inl ⟨by rfl, ?_⟩) ?_ ?_
           rotate_left
           ·intro w'
            go_simp
            with_reducible rfl
           rotate_left
           ·simp only [Act.put, List.setIfInBounds_toArray, List.set_cons_zero, List.set_cons_succ, i64_w, i32_w]
            rfl
           refine pure_ (i := 13) (N := some 36) (v := ?_) (a' := ?_) #[true, true, true, true, true, true, true, true, true, true, true, true, true, true, false] rfl rfl (any_of HT_.out (by kernel_rfl)) (fun _ _ _ h => h) (Or.inl ⟨by rfl, ?_⟩) ?_ ?_
           rotate_left
           ·intro w'
            go_simp
            with_reducible rfl
           rotate_left
           ·simp only [Act.put, List.setIfInBounds_toArray, List.set_cons_zero, List.set_cons_succ, i64_w, i32_w]
            rfl
           refine last_ (i := 14) (N := none) #[true, true, true, true, true, true, true, true, true, true, true, true, true, true, true] rfl rfl (one_of HT_.out (by kernel_rfl)) (by decide) (fun K hK => ?_)
           refine skip_ (w1 := ?_) (by rfl) rfl ?_ ?_
           rotate_left
           ·go_simp
            rfl
           refine hK.out _ _ ?_
           clear hK K
           refine done_ (done_of HT_.out (by kernel_rfl)) ?_
           try go_wp2
           (try simp only [← hl8_1])
           go_roundg k1
           case measure => have := HK1.out; omega
           case rel => exact ⟨(y107), (wrap64 (x20_1 + 1)), (by first | rfl | (simp; done) | (simp [*]; done)), H', ⟨by have := HK1.out; omega⟩, ⟨by (try simp only [hl8_1]); (with_reducible repeat (first | apply Kd.R_alloc | apply Kd.R_drewN | apply Kd.R_drew)); exact HQ19.out⟩, ⟨by repeat (first | (with_reducible first | exact HB.out | apply below_alloc | apply pw_below_drewN | apply below_drew1 | refine below_set ?_ GB16.out) | exact HB.out)⟩⟩
          ·rw [if_neg c15] at H
           exact absurd H (by simp)
         ·rw [if_neg c13] at H
          exact absurd H (by simp)
        ·rw [if_neg c12] at H
         exact absurd H (by simp)
       ·rw [if_neg c11] at H
        exact absurd H (by simp)
      ·rw [if_neg c10] at H
       have c10b0 : decide (x20_1 < (y101.length : Int)) = false := decide_eq_false c10
       (try simp only [hl8_1] at c10b0)
       clear c10
       simp only [Option.some.injEq, Prod.mk.injEq] at H
       obtain ⟨rfl, rfl⟩ := H
       go_wp2
       go_ret2
       exact ⟨_, by first | rfl | (simp [errW_none, errW_some] <;> rfl) | (simp [*, errW_none, errW_some] <;> rfl), by (with_reducible repeat (first | apply Kd.R_alloc | apply Kd.R_drewN | apply Kd.R_drew)); exact HO_8.out, by repeat (first | (with_reducible first | exact HB.out | apply below_alloc | apply pw_below_drewN | apply below_drew1) | exact HB.out)⟩
   ·rw [if_neg c6] at H
    exact absurd H (by simp)
  ·rw [if_neg c5] at H
   exact absurd H (by simp)
 ·rw [if_neg c4] at H
  have c4b0 : ((l0.length : Int) == (l1.length : Int)) = false := beq_eq_false_iff_ne.mpr c4
  have c4b1 : ((l0.length : Int) != (l1.length : Int)) = true := bne_iff_ne.mpr c4
  have c4b2 : (l0.length == l1.length) = false := by first | simpa using c4 | (simp at c4 ⊢; omega)
  simp only [Option.some.injEq, Prod.mk.injEq] at H
  obtain ⟨rfl, rfl⟩ := H
  go_enter Tryd.func71, Tryd.ntmps71
  go_wp2
  go_ret2
  exact ⟨_, by first | rfl | (simp [errW_none, errW_some] <;> rfl) | (simp [*, errW_none, errW_some] <;> rfl), by first | exact Kd.R_nil _ _ _ _ _ | exact Kd.N_nil _ _ _ _ _ | exact Kd.V_nil _ _ _ _ _ | exact Kd.Q_nil _ _ _ _ _ | exact Kd.S_nil _ _ _ _ _, by repeat (first | (with_reducible first | exact HB.out | apply below_alloc | apply pw_below_drewN | apply below_drew1) | exact HB.out)⟩
end Go.Proofs.YtnfgiamdmfkcjaaDoor.P
namespace Go.Proofs.YtnfgiamdmfkcjaaDoor.Gf
open Go.RowKit Go.Proofs.YtnfgiamdmfkcjaaDoorW.PrintWords Go.Proofs.YtnfgiamdmfkcjaaDoor.Leaf Go.Proofs.YtnfgiamdmfkcjaaDoor.P
/-- The numbers of a list of bytes. -/
def ofL (L : List B) : List Int := L.map ofB
/-- The byte at a place, nought behind the end. -/
def at0 (L : List B) (i : Nat) : B := L.getD i 0#8
theorem ofL_length (L : List B) : (ofL L).length = L.length := List.length_map _
theorem rd_ofL (L : List B) (i : Nat) : rd (ofL L) (i : Int) = ofB (at0 L i) := by
  unfold rd ofL at0
  simp only [List.getD_eq_getElem?_getD, List.getElem?_map, Int.toNat_natCast]
  cases L[i]? <;> rfl
theorem row_of {l : List Int} (h : ∀ x ∈ l, (Lit.int .u8 x).wf = true) : ∃ L : List B, l = ofL L := by
  refine ⟨l.map toB, ?_⟩
  unfold ofL
  rw [List.map_map]
  refine (List.map_id' l).symm.trans (List.map_congr_left fun x hx => ?_)
  have h1 : 0 ≤ x ∧ x ≤ 255 := by simpa [Lit.wf, IntKind.min, IntKind.max, IntKind.signed, IntKind.bits] using h x hx
  exact (ofB_toB x h1.1 (by omega)).symm
theorem ofL_set (L : List B) (i : Nat) (b : B) : (ofL L).set i (ofB b) = ofL (L.set i b) := by unfold ofL; rw [List.map_set]
theorem ofL_replicate (n : Nat) : List.replicate n (0 : Int) = ofL (List.replicate n 0#8) := by unfold ofL; rw [List.map_replicate]; rfl
/-- The row of `a + s * b`, its first `n` places done. -/
def am (L M : List B) (s : B) (n : Nat) : List B := (List.range L.length).map fun j => if j < n then at0 L j ^^^ mul (at0 M j) s else 0#8
theorem am_length (L M : List B) (s : B) (n : Nat) : (am L M s n).length = L.length := by unfold am; rw [List.length_map, List.length_range]
theorem at0_am (L M : List B) (s : B) (n j : Nat) (hj : j < L.length) : at0 (am L M s n) j = if j < n then at0 L j ^^^ mul (at0 M j) s else 0#8 := by
  unfold am
  show ((List.range L.length).map _).getD j 0#8 = _
  rw [List.getD_eq_getElem?_getD, List.getElem?_map, List.getElem?_range hj]
  rfl
theorem ext0 {L M : List B} (hl : L.length = M.length) (h : ∀ j, j < L.length → at0 L j = at0 M j) : L = M := by
  refine List.ext_getElem hl fun j h1 h2 => ?_
  have := h j h1
  unfold at0 at this
  simpa [List.getD_eq_getElem?_getD, h1, h2] using this
theorem at0_set (L : List B) (i j : Nat) (b : B) (hi : i < L.length) : at0 (L.set i b) j = if i = j then b else at0 L j := by
  unfold at0
  simp only [List.getD_eq_getElem?_getD, List.getElem?_set]
  by_cases h : i = j
  · subst h; simp [hi]
  · simp [h]
theorem am_set (L M : List B) (s : B) (i : Nat) (hi : i < L.length) : (am L M s i).set i (at0 L i ^^^ mul (at0 M i) s) = am L M s (i + 1) := by
  refine ext0 (by rw [List.length_set, am_length, am_length]) fun j hj => ?_
  rw [List.length_set, am_length] at hj
  rw [at0_set _ _ _ _ (by rw [am_length]; exact hi), at0_am _ _ _ _ _ hj, at0_am _ _ _ _ _ hj]
  by_cases h : i = j
  · subst h; rw [if_pos rfl, if_pos (by omega)]
  · rw [if_neg h]
    by_cases h2 : j < i
    · rw [if_pos h2, if_pos (by omega)]
    · rw [if_neg h2, if_neg (by omega)]
theorem am_zero (L M : List B) (s : B) : List.replicate L.length 0#8 = am L M s 0 := by
  refine ext0 (by rw [List.length_replicate, am_length]) fun j hj => ?_
  rw [List.length_replicate] at hj
  rw [at0_am _ _ _ _ _ hj, if_neg (by omega)]
  unfold at0
  simp [List.getD_eq_getElem?_getD, hj]
theorem gfAddMul_l0 (L M : List B) (s : B) (hL : L.length = M.length) (hs : L.length < 2 ^ 62) (n : Nat) : ∀ i : Nat, i + n = L.length → Ev (fun k => gf_AddMul.l0 k (ofL L) (ofL M) (ofB s) (ofL (am L M s i)) (L.length : Int) (i : Int)) (ofL (am L M s L.length), true) := by
  induction n with
  | zero =>
    intro i hi
    refine Ev.step (f := fun _ => some (ofL (am L M s i), true)) (fun k => ?_) ?_
    · simp only [gf_AddMul.l0]
      rw [if_neg (by omega)]
    · rw [show i = L.length by omega]
      exact Ev.now _
  | succ n ih =>
    intro i hi
    refine Ev.step (f := fun k => gf_AddMul.l0 k (ofL L) (ofL M) (ofB s) (ofL (am L M s (i + 1))) (L.length : Int) ((i + 1 : Nat) : Int)) (fun k => ?_) (ih (i + 1) (by omega))
    simp only [gf_AddMul.l0, ofL_length, am_length]
    rw [if_pos (by omega), if_pos (by omega), if_pos (by omega), if_pos (by omega), rd_ofL, rd_ofL, gfMul_eq, Option.bind_some, if_pos (by omega), xor_ofB, Int.toNat_natCast, ofL_set, am_set _ _ _ _ (by omega), w64 _ (by omega) (by omega)]
    rfl
def addMulB (L M : List B) (s : B) : List Int × Bool := if L.length = M.length then (ofL (am L M s L.length), true) else ([], false)
theorem gfAddMul (L M : List B) (s : B) (hs : L.length < 2 ^ 48) : Ev (fun k => gf_AddMul.f k (ofL L) (ofL M) (ofB s)) (addMulB L M s) := by
  unfold gf_AddMul.f addMulB
  simp only [ofL_length]
  by_cases h : L.length = M.length
  · simp only [show ((L.length : Int) = (M.length : Int)) = True from eq_true (by omega), show (0 ≤ (L.length : Int)) = True from eq_true (by omega), if_true, if_pos h]
    simp only [Int.toNat_natCast, show (L.length ≤ 281474976710656) = True from eq_true (by omega), if_true, Option.bind_some, Int.toNat_natCast, List.length_replicate]
    rw [ofL_replicate, am_zero L M s]
    exact gfAddMul_l0 L M s h (by omega) L.length 0 (by omega)
  · simp only [show ((L.length : Int) = (M.length : Int)) = False from eq_false (by omega), if_false, if_neg h]
    exact Ev.now _
end Go.Proofs.YtnfgiamdmfkcjaaDoor.Gf
namespace Go.Proofs.YtnfgiamdmfkcjaaDoor.H
open Go.RowKit Go.Proofs.YtnfgiamdmfkcjaaDoorW.PrintWords Go.Proofs.YtnfgiamdmfkcjaaDoor.Leaf
set_option linter.unusedVariables false
/-- A row of bytes at the head of a block of the call's own. -/
def Rw (w : World) (base id cap : Nat) (r : List Int) : Prop := w.ownsRow base 5 1 (.slice (some ⟨id, 0, none⟩) r.length cap) r.length (encs (Value.int .u8) r)
/-- The slice that leads to row `i`. -/
def sl (id cap : Nat → Nat) (A : List (List Int)) (i : Nat) : Value := .slice (some ⟨id i, 0, none⟩) (A.getD i []).length (cap i)
def up (f : Nat → Nat) (i x : Nat) : Nat → Nat := fun k => if k = i then x else f k
def tw (f : Nat → Nat) (i j : Nat) : Nat → Nat := fun k => if k = j then f i else if k = i then f j else f k
def swapL (A : List (List Int)) (i j : Nat) : List (List Int) := (A.set i (A.getD j [])).set j (A.getD i [])
theorem getD_set (A : List (List Int)) (i k : Nat) (r : List Int) (hi : i < A.length) : (A.set i r).getD k [] = if k = i then r else A.getD k [] := by
  simp only [List.getD_eq_getElem?_getD, List.getElem?_set]
  by_cases h : k = i
  · subst h; simp [hi]
  · simp [h, Ne.symm h]
theorem swapL_length (A : List (List Int)) (i j : Nat) : (swapL A i j).length = A.length := by simp [swapL]
theorem getD_swapL (A : List (List Int)) (i j k : Nat) (hi : i < A.length) (hj : j < A.length) : (swapL A i j).getD k [] = if k = j then A.getD i [] else if k = i then A.getD j [] else A.getD k [] := by
  unfold swapL
  rw [getD_set _ _ _ _ (by simpa using hj), getD_set _ _ _ _ hi]
structure Mt (w : World) (base g cp : Nat) (id cap : Nat → Nat) (A : List (List Int)) : Prop where
  outer : w.ownsRow base 22 1 (.slice (some ⟨g, 0, none⟩) A.length cp) A.length (encs (sl id cap A) (List.range A.length))
  rows : ∀ i, i < A.length → Rw w base (id i) (cap i) (A.getD i [])
  inj : ∀ i j, i < A.length → j < A.length → id i = id j → i = j
section
variable {w w1 : World} {base g cp b c : Nat} {id cap : Nat → Nat} {A : List (List Int)} {r : List Int}
theorem Rw.typed (h : Rw w base b c r) : ∃ cells, w.heap[b]? = some (.cells cells 5 (0, 0)) := own_typed h b rfl
theorem Rw.base_ (h : Rw w base b c r) : base ≤ b := own_base h b rfl
theorem Rw.lt (h : Rw w base b c r) : b < w.heap.size := own_lt h b rfl
theorem Rw.far (h : Rw w base b c r) {p : Addr} (hp : p.block ≠ b) (u : Value) : Rw (w.setCell p u) base b c r := own_setCell h (by simp [Value.ownBlock, hp]) u
theorem Rw.put (h : Rw w base b c r) (j : Nat) (x : Int) : Rw (w.setCell ⟨b, j, none⟩ (.int .u8 x)) base b c (r.set j x) := by
  have := (h.stored j (.int .u8 x)).1
  unfold Rw
  rw [List.length_set, show encs (Value.int .u8) (r.set j x) = (encs (Value.int .u8) r).set j (.int .u8 x) by simp [encs, List.map_set]]
  exact this
theorem Rw.cell (h : Rw w base b c r) (j : Nat) (hj : j < r.length) : w.cell? ⟨b, j, none⟩ = some (.int .u8 (rd r (j : Int))) ∧ w.frozen? ⟨b, j, none⟩ = false := by
  have := own_at_of (d := 0) h (j : Int) (by omega) (by omega)
  simpa [rdOf, rd] using this
theorem Rw.reads (h : Rw w base b c r) : Kd.C (Kd.int .u8) w (some ⟨b, 0, none⟩) r.length r ∧ r.length ≤ c := by
  have hR : Kd.R (Kd.int .u8) 5 w base (fun _ => True) (.slice (some ⟨b, 0, none⟩) r.length c) r := Kd.R_of_own h (fun _ _ => trivial)
  exact ⟨(Kd.R_reads' hR).2.2, (Kd.R_reads' hR).2.1⟩
theorem Rw.of_R {v : Value} (h : Kd.R (Kd.int .u8) 5 w base (fun _ => True) v r) (hp : 0 < r.length) : ∃ b c, v = .slice (some ⟨b, 0, none⟩) r.length c ∧ Rw w base b c r := by
  obtain ⟨g, cap, rfl, _⟩ := Kd.R_form h hp
  exact ⟨g, cap, rfl, Kd.own_of_R h⟩
theorem Mt.typed (h : Mt w base g cp id cap A) : ∃ cells, w.heap[g]? = some (.cells cells 22 (0, 0)) := own_typed h.outer g rfl
theorem Mt.gbase (h : Mt w base g cp id cap A) : base ≤ g := own_base h.outer g rfl
theorem Mt.glt (h : Mt w base g cp id cap A) : g < w.heap.size := own_lt h.outer g rfl
theorem Mt.ne (h : Mt w base g cp id cap A) (h2 : Rw w base b c r) : b ≠ g := by
  obtain ⟨cs, hc⟩ := h.typed
  obtain ⟨cs', hc'⟩ := h2.typed
  rintro rfl
  rw [hc] at hc'
  simp at hc'
theorem Mt.at_ (h : Mt w base g cp id cap A) (i : Nat) (hi : i < A.length) : w.cell? ⟨g, i, none⟩ = some (sl id cap A i) ∧ w.frozen? ⟨g, i, none⟩ = false := by
  have := own_at_of (d := 0) h.outer (i : Int) (by omega) (by omega)
  simpa [rdOf, List.getD_eq_getElem?_getD, List.getElem?_range hi] using this
theorem Mt.move (h : Mt w base g cp id cap A) (hm : ∀ k, (k = g ∨ ∃ i, i < A.length ∧ k = id i) → w1.heap[k]? = w.heap[k]?) : Mt w1 base g cp id cap A :=
  ⟨own_move h.outer (fun k hk => hm k (.inl (by simpa [Value.ownBlock] using hk.symm))), fun i hi => own_move (h.rows i hi) (fun k hk => hm k (.inr ⟨i, hi, by simpa [Value.ownBlock] using hk.symm⟩)), h.inj⟩
theorem Mt.lt (h : Mt w base g cp id cap A) (k : Nat) (hk : k = g ∨ ∃ i, i < A.length ∧ k = id i) : k < w.heap.size ∧ base ≤ k := by
  rcases hk with rfl | ⟨i, hi, rfl⟩
  · exact ⟨h.glt, h.gbase⟩
  · exact ⟨(h.rows i hi).lt, (h.rows i hi).base_⟩
theorem Mt.below (h : Mt w base g cp id cap A) (hb : Below w.heap.size w w1) : Mt w1 base g cp id cap A := h.move (fun k hk => hb.block k (h.lt k hk).1)
theorem Mt.far (h : Mt w base g cp id cap A) {p : Addr} (h0 : p.block ≠ g) (h1 : ∀ i, i < A.length → p.block ≠ id i) (u : Value) : Mt (w.setCell p u) base g cp id cap A :=
  h.move (fun k hk => Below.heap_setCell w p u k (by rcases hk with rfl | ⟨i, hi, rfl⟩; exact Ne.symm h0; exact Ne.symm (h1 i hi)))
theorem Mt.put (h : Mt w base g cp id cap A) (i : Nat) (hi : i < A.length) (j : Nat) (x : Int) : Mt (w.setCell ⟨id i, j, none⟩ (.int .u8 x)) base g cp id cap (A.set i ((A.getD i []).set j x)) := by
  have hsl : ∀ k, sl id cap (A.set i ((A.getD i []).set j x)) k = sl id cap A k := by
    intro k
    unfold sl
    rw [getD_set _ _ _ _ hi]
    by_cases hk : k = i
    · subst hk; rw [if_pos rfl, List.length_set]
    · rw [if_neg hk]
  refine ⟨?_, fun k hk => ?_, fun k l hk hl => h.inj k l (by simpa using hk) (by simpa using hl)⟩
  · rw [List.length_set, show encs (sl id cap (A.set i ((A.getD i []).set j x))) (List.range A.length) = encs (sl id cap A) (List.range A.length) from List.map_congr_left fun k _ => hsl k]
    exact own_setCell h.outer (by simp [Value.ownBlock, h.ne (h.rows i hi)]) _
  · rw [List.length_set] at hk
    rw [getD_set _ _ _ _ hi]
    by_cases e : k = i
    · subst e; rw [if_pos rfl]; exact (h.rows k hk).put j x
    · rw [if_neg e]; exact (h.rows k hk).far (fun e2 => e (h.inj k i hk hi e2.symm)) _
theorem encs_set {enc enc' : Nat → Value} {n i : Nat} {u : Value} (hi : i < n) (hu : enc' i = u) (hne : ∀ k, k < n → k ≠ i → enc' k = enc k) : (encs enc (List.range n)).set i u = encs enc' (List.range n) := by
  unfold encs
  refine List.ext_getElem (by simp) fun k h1 h2 => ?_
  simp only [List.length_set, List.length_map, List.length_range] at h1
  rw [List.getElem_set]
  by_cases e : i = k
  · subst e; simp [hu]
  · simp [e, hne k h1 (fun e2 => e e2.symm)]
theorem Mt.setRow (h : Mt w base g cp id cap A) (i : Nat) (hi : i < A.length) (hr : Rw w base b c r) (hb : ∀ k, k < A.length → k ≠ i → id k ≠ b) :
    Mt (w.setCell ⟨g, i, none⟩ (.slice (some ⟨b, 0, none⟩) r.length c)) base g cp (up id i b) (up cap i c) (A.set i r) := by
  have hbg := h.ne hr
  have h1 : sl (up id i b) (up cap i c) (A.set i r) i = .slice (some ⟨b, 0, none⟩) r.length c := by unfold sl up; rw [getD_set _ _ _ _ hi]; simp
  have h2 : ∀ k, k ≠ i → sl (up id i b) (up cap i c) (A.set i r) k = sl id cap A k := by intro k hk; unfold sl up; rw [getD_set _ _ _ _ hi]; simp [hk]
  refine ⟨?_, fun k hk => ?_, fun k l hk hl => ?_⟩
  · rw [List.length_set, ← encs_set (enc := sl id cap A) hi h1 (fun k _ hk => h2 k hk)]
    exact (h.outer.stored i _).1
  · rw [List.length_set] at hk
    rw [getD_set _ _ _ _ hi]
    unfold up
    by_cases e : k = i
    · rw [if_pos e, if_pos e, if_pos e]; exact hr.far (Ne.symm hbg) _
    · rw [if_neg e, if_neg e, if_neg e]; exact (h.rows k hk).far (Ne.symm (h.ne (h.rows k hk))) _
  · rw [List.length_set] at hk hl
    unfold up
    by_cases e : k = i <;> by_cases e2 : l = i
    · intro _; rw [e, e2]
    · rw [if_pos e, if_neg e2]; intro h3; exact absurd h3.symm (hb l hl e2)
    · rw [if_neg e, if_pos e2]; intro h3; exact absurd h3 (hb k hk e)
    · rw [if_neg e, if_neg e2]; exact h.inj k l hk hl
theorem Mt.swap (h : Mt w base g cp id cap A) (i j : Nat) (hi : i < A.length) (hj : j < A.length) :
    Mt ((w.setCell ⟨g, i, none⟩ (sl id cap A j)).setCell ⟨g, j, none⟩ (sl id cap A i)) base g cp (tw id i j) (tw cap i j) (swapL A i j) := by
  have hs : ∀ k, sl (tw id i j) (tw cap i j) (swapL A i j) k = if k = j then sl id cap A i else if k = i then sl id cap A j else sl id cap A k := by
    intro k
    unfold sl tw
    rw [getD_swapL _ _ _ _ hi hj]
    by_cases e : k = j
    · simp [e]
    · by_cases e2 : k = i
      · subst e2; simp [e]
      · simp [e, e2]
  have h1 := h.outer.stored i (sl id cap A j)
  have h2 := h1.1.stored j (sl id cap A i)
  refine ⟨?_, fun k hk => ?_, fun k l hk hl => ?_⟩
  · rw [swapL_length]
    have e : ((encs (sl id cap A) (List.range A.length)).set i (sl id cap A j)).set j (sl id cap A i) = encs (sl (tw id i j) (tw cap i j) (swapL A i j)) (List.range A.length) := by
      rw [encs_set (enc := sl id cap A) (enc' := fun k => if k = i then sl id cap A j else sl id cap A k) hi (by simp) (fun k _ hk => by simp [hk]),
        encs_set (enc' := sl (tw id i j) (tw cap i j) (swapL A i j)) hj (by rw [hs]; simp) (fun k _ hk => by rw [hs]; simp [hk])]
    rw [← e]
    exact h2.1
  · rw [swapL_length] at hk
    have far : ∀ m, m < A.length → Rw ((w.setCell ⟨g, i, none⟩ (sl id cap A j)).setCell ⟨g, j, none⟩ (sl id cap A i)) base (id m) (cap m) (A.getD m []) := by
      intro m hm
      have hne := Ne.symm (h.ne (h.rows m hm))
      exact ((h.rows m hm).far hne _).far hne _
    rw [getD_swapL _ _ _ _ hi hj]
    unfold tw
    by_cases e : k = j
    · rw [if_pos e, if_pos e, if_pos e]; exact far i hi
    · rw [if_neg e, if_neg e, if_neg e]
      by_cases e2 : k = i
      · rw [if_pos e2, if_pos e2, if_pos e2]; exact far j hj
      · rw [if_neg e2, if_neg e2, if_neg e2]; exact far k hk
  · rw [swapL_length] at hk hl
    intro h3
    unfold tw at h3
    by_cases e : k = j <;> by_cases e2 : l = j
    · omega
    · rw [if_pos e, if_neg e2] at h3
      by_cases e3 : l = i
      · rw [if_pos e3] at h3; have := h.inj i j hi hj h3; omega
      · rw [if_neg e3] at h3; have := h.inj i l hi hl h3; omega
    · rw [if_neg e, if_pos e2] at h3
      by_cases e3 : k = i
      · rw [if_pos e3] at h3; have := h.inj j i hj hi h3; omega
      · rw [if_neg e3] at h3; have := h.inj k i hk hi h3; omega
    · rw [if_neg e, if_neg e2] at h3
      by_cases e3 : k = i <;> by_cases e4 : l = i
      · omega
      · rw [if_pos e3, if_neg e4] at h3; have := h.inj j l hj hl h3; omega
      · rw [if_neg e3, if_pos e4] at h3; have := h.inj k j hk hj h3; omega
      · rw [if_neg e3, if_neg e4] at h3; exact h.inj k l hk hl h3
theorem Mt.of_S {ok : Nat → Prop} {v : Value} (h : Kd.S (Kd.slice 5 (Kd.int .u8)) 22 w base ok v A) (h0 : 0 < A.length) (hr : ∀ i, i < A.length → 0 < (A.getD i []).length) :
    ∃ g cp id cap, v = .slice (some ⟨g, 0, none⟩) A.length cp ∧ Mt w base g cp id cap A ∧ ok g ∧ ∀ i, i < A.length → ok (id i) := by
  obtain ⟨g, cp, hv, _⟩ := Kd.S_form h h0
  obtain ⟨f, hok, inner, ho, hrp⟩ := h
  rw [List.length_zipIdx] at ho
  have hl : inner.length = A.length := by have := ho.1; rw [show (Kd.tag f (Kd.slice 5 (Kd.int .u8))).sz = 1 from rfl] at this; omega
  have key : ∀ i, i < A.length → ∃ b c, inner[i]? = some (.slice (some ⟨b, 0, none⟩) (A.getD i []).length c) ∧ Rw w base b c (A.getD i []) ∧ f b = i ∧ ok b := by
    intro i hi
    have hAi : A[i]? = some (A.getD i []) := by rw [List.getD_eq_getElem?_getD, List.getElem?_eq_getElem hi]; rfl
    obtain ⟨vi, hc, hR⟩ := hrp.2 i (A.getD i [], i) (Kd.zip_at hAi)
    obtain ⟨b, c, rfl, hb⟩ := Kd.R_form hR (hr i hi)
    have hci : (inner.drop i).take 1 = [.slice (some ⟨b, 0, none⟩) (A.getD i []).length c] := by simpa [Kd.tag, Kd.slice] using hc
    refine ⟨b, c, ?_, Kd.own_of_R hR, ?_, ?_⟩
    · have := congrArg (fun l => l[0]?) hci
      simpa [List.getElem?_take, List.getElem?_drop] using this
    · exact (hR.1 b rfl).2
    · exact (hR.1 b rfl).1.1
  let id : Nat → Nat := fun i => if hi : i < A.length then (key i hi).choose else 0
  let cap : Nat → Nat := fun i => if hi : i < A.length then (key i hi).choose_spec.choose else 0
  have kid : ∀ i, i < A.length → inner[i]? = some (.slice (some ⟨id i, 0, none⟩) (A.getD i []).length (cap i)) ∧ Rw w base (id i) (cap i) (A.getD i []) ∧ f (id i) = i ∧ ok (id i) := by
    intro i hi
    have := (key i hi).choose_spec.choose_spec
    simp only [id, cap, hi, dite_true]
    exact this
  subst hv
  refine ⟨g, cp, id, cap, rfl, ⟨?_, fun i hi => (kid i hi).2.1, fun i j hi hj e => ?_⟩, hok g rfl, fun i hi => (kid i hi).2.2.2⟩
  · have e : inner = encs (sl id cap A) (List.range A.length) := by
      unfold encs
      refine List.ext_getElem? fun i => ?_
      by_cases hi : i < A.length
      · rw [(kid i hi).1, List.getElem?_map, List.getElem?_range hi]
        rfl
      · rw [List.getElem?_eq_none (by omega), List.getElem?_eq_none (by simp; omega)]
    rw [← e]
    exact ho
  · have h1 := (kid i hi).2.2.1
    have h2 := (kid j hj).2.2.1
    rw [e] at h1
    omega
theorem Mt.to_S (h : Mt w base g cp id cap A) : Kd.S (Kd.slice 5 (Kd.int .u8)) 22 w base (fun k => k = g ∨ ∃ i, i < A.length ∧ k = id i) (.slice (some ⟨g, 0, none⟩) A.length cp) A := by
  refine ⟨fun k => ((List.range A.length).find? fun i => id i == k).getD 0, fun k hk => .inl (by simpa [Value.ownBlock] using hk.symm), encs (sl id cap A) (List.range A.length), ?_, ?_⟩
  · rw [List.length_zipIdx]; exact h.outer
  · refine ⟨by show (encs (sl id cap A) (List.range A.length)).length = A.zipIdx.length * 1; simp [encs], fun j p hj => ?_⟩
    have hj' : A.zipIdx[j]? = some p := hj
    rw [List.getElem?_zipIdx] at hj'
    obtain ⟨r, hr, rfl⟩ := Option.map_eq_some_iff.1 hj'
    have hlt : j < A.length := (List.getElem?_eq_some_iff.1 hr).1
    have hrD : A.getD j [] = r := by rw [List.getD_eq_getElem?_getD, hr]; rfl
    refine ⟨sl id cap A j, ?_, ?_⟩
    · show ((encs (sl id cap A) (List.range A.length)).drop (j * 1)).take 1 = _
      rw [Nat.mul_one]
      refine List.ext_getElem? fun k => ?_
      cases k with
      | zero => simp [encs, List.getElem?_drop, List.getElem?_range hlt]
      | succ k => simp [List.getElem?_take]
    · unfold sl
      rw [hrD]
      have hro := h.rows j hlt
      rw [hrD] at hro
      refine Kd.R_of_own hro fun k hk => ?_
      have hk' : k = id j := by simpa [Value.ownBlock] using hk.symm
      subst hk'
      refine ⟨⟨.inr ⟨j, hlt, rfl⟩, ?_⟩, ?_⟩
      · simp only [Value.ownBlock]
        intro e
        exact h.ne hro (Option.some.inj e)
      · show ((List.range A.length).find? fun i => id i == id j).getD 0 = 0 + j
        have : (List.range A.length).find? (fun i => id i == id j) = some j := by
          rw [List.find?_range_eq_some]
          refine ⟨by simp, by simpa using hlt, fun i hi => ?_⟩
          have : id i ≠ id j := fun e => by have := h.inj i j (by omega) hlt e; omega
          simpa using this
        rw [this]
        simp
end
end Go.Proofs.YtnfgiamdmfkcjaaDoor.H
namespace Go.Proofs.YtnfgiamdmfkcjaaDoor.H
open Go.RowKit Go.Proofs.YtnfgiamdmfkcjaaDoorW.PrintWords Go.Proofs.YtnfgiamdmfkcjaaDoor.Leaf
set_option linter.unusedVariables false
set_option maxRecDepth 100000 in
theorem pred_calls (b cp : Nat) (r : List Int) (c : Nat) (q : Addr) (w : World) (base : Nat) (hr : Rw w base b cp r) (hc : c < r.length) (hq : w.cell? q = some (.int .i64 (c : Int))) :
    Calls Tryd.prog 92 #[.slice (some ⟨b, 0, none⟩) r.length cp, .pointer (some q)] w fun e w' => e = .returned (.bool (rd r (c : Int) != 0)) ∧ Below w.heap.size w w' := by
  obtain ⟨h1, h2⟩ := hr.cell c hc
  have hlt : (c : Int) < (r.length : Int) := by omega
  have h0 : (0 : Int) ≤ (c : Int) := by omega
  clear hr
  go_enter Tryd.func92, Tryd.ntmps92
  go_wp2
  go_ret
  exact ⟨rfl, Below.refl _ _⟩
end Go.Proofs.YtnfgiamdmfkcjaaDoor.H
namespace Go.Proofs.YtnfgiamdmfkcjaaDoor.Red
open Go.RowKit Go.Proofs.YtnfgiamdmfkcjaaDoorW.PrintWords Go.Proofs.YtnfgiamdmfkcjaaDoor.Leaf Go.Proofs.YtnfgiamdmfkcjaaDoor.Gf Go.Proofs.YtnfgiamdmfkcjaaDoor.H
abbrev Mat := List (List B)
def row (A : Mat) (i : Nat) : List B := A.getD i []
def el (A : Mat) (i j : Nat) : B := at0 (row A i) j
def swapM (A : Mat) (i j : Nat) : Mat := (A.set i (row A j)).set j (row A i)
/-- A row's places from `j` on, times `v`. -/
def scF (v : B) : Nat → Nat → List B → List B
  | 0, _, r => r
  | n + 1, j, r => scF v n (j + 1) (r.set j (mul (at0 r j) v))
def scale (v : B) (r : List B) : List B := scF v r.length 0 r
/-- The rows from `i` on, the one at `d` taken off so often that column `c` is nought there. -/
def elF (c d : Nat) : Nat → Nat → Mat → Mat → Mat × Mat
  | 0, _, A, Z => (A, Z)
  | n + 1, i, A, Z => if i ≠ d ∧ el A i c ≠ 0#8 then elF c d n (i + 1) (A.set i (am (row A i) (row A d) (el A i c) (row A i).length)) (Z.set i (am (row Z i) (row Z d) (el A i c) (row Z i).length)) else elF c d n (i + 1) A Z
/-- One column's step: the row at `t` is the pivot. -/
def stepF (c d t : Nat) (A Z : Mat) : Mat × Mat :=
  let A1 := swapM A t d
  let Z1 := swapM Z t d
  let v := inv (el A1 d c)
  let A2 := A1.set d (scale v (row A1 d))
  let Z2 := Z1.set d (scale v (row Z1 d))
  elF c d A2.length 0 A2 Z2
/-- Where the pivot is, counted from `d` on; -1 if there is none. -/
def pivot (A : Mat) (d c : Nat) : Int := firstP (fun j => rd (ofL (row A (d + j))) (c : Int) != 0) (A.length - d)
def redF : Nat → Nat → Nat → Mat → Mat → Nat × Mat × Mat
  | 0, _, d, A, Z => (d, A, Z)
  | n + 1, c, d, A, Z => if pivot A d c < 0 then redF n (c + 1) d A Z else
      if d + 1 = A.length then (d + 1, stepF c d ((pivot A d c).toNat + d) A Z) else redF n (c + 1) (d + 1) (stepF c d ((pivot A d c).toNat + d) A Z).1 (stepF c d ((pivot A d c).toNat + d) A Z).2
/-- All rows of one length. -/
def Reg (A : Mat) (n m : Nat) : Prop := A.length = n ∧ ∀ i, i < n → (row A i).length = m
theorem row_set (A : Mat) (i k : Nat) (r : List B) (hi : i < A.length) : row (A.set i r) k = if k = i then r else row A k := by
  unfold row
  simp only [List.getD_eq_getElem?_getD, List.getElem?_set]
  by_cases h : k = i
  · subst h; simp [hi]
  · simp [h, Ne.symm h]
theorem Reg.set {A : Mat} {n m : Nat} (h : Reg A n m) {i : Nat} (hi : i < n) {r : List B} (hr : r.length = m) : Reg (A.set i r) n m := by
  refine ⟨by rw [List.length_set]; exact h.1, fun k hk => ?_⟩
  rw [row_set _ _ _ _ (by rw [h.1]; exact hi)]
  by_cases e : k = i
  · rw [if_pos e]; exact hr
  · rw [if_neg e]; exact h.2 k hk
theorem Reg.swap {A : Mat} {n m : Nat} (h : Reg A n m) {i j : Nat} (hi : i < n) (hj : j < n) : Reg (swapM A i j) n m := (h.set hi (h.2 j hj)).set hj (h.2 i hi)
theorem map_getD (A : Mat) (i : Nat) : (A.map ofL).getD i [] = ofL (row A i) := by
  unfold row
  simp only [List.getD_eq_getElem?_getD, List.getElem?_map]
  cases A[i]? <;> rfl
theorem map_set (A : Mat) (i : Nat) (r : List B) : (A.map ofL).set i (ofL r) = (A.set i r).map ofL := by rw [List.map_set]
theorem map_swap (A : Mat) (i j : Nat) : swapL (A.map ofL) i j = (swapM A i j).map ofL := by
  unfold swapL swapM
  rw [map_getD, map_getD, map_set, map_set]
theorem scF_length (v : B) (n : Nat) : ∀ (j : Nat) (r : List B), (scF v n j r).length = r.length := by
  induction n with
  | zero => intro j r; rfl
  | succ n ih => intro j r; simp only [scF]; rw [ih, List.length_set]
theorem scale_length (v : B) (r : List B) : (scale v r).length = r.length := scF_length _ _ _ _
end Go.Proofs.YtnfgiamdmfkcjaaDoor.Red
namespace Go.Proofs.YtnfgiamdmfkcjaaDoor.Mx
open Go.Proofs.YtnfgiamdmfkcjaaDoor.Gf
set_option linter.unusedVariables false
abbrev Fm := Nat → Nat → B
/-- The sum of the first n. -/
def sm : Nat → (Nat → B) → B
  | 0, _ => 0#8
  | n + 1, f => sm n f ^^^ f n
theorem sm_congr {n : Nat} {f g : Nat → B} (h : ∀ i, i < n → f i = g i) : sm n f = sm n g := by
  induction n with
  | zero => rfl
  | succ n ih => simp only [sm]; rw [ih (fun i hi => h i (by omega)), h n (by omega)]
theorem sm_zero {n : Nat} {f : Nat → B} (h : ∀ i, i < n → f i = 0#8) : sm n f = 0#8 := by
  induction n with
  | zero => rfl
  | succ n ih => simp only [sm]; rw [ih (fun i hi => h i (by omega)), h n (by omega)]; rfl
theorem sm_add (n : Nat) (f g : Nat → B) : sm n (fun i => f i ^^^ g i) = sm n f ^^^ sm n g := by
  induction n with
  | zero => simp [sm]
  | succ n ih => simp only [sm]; rw [ih, xor_swap4]
theorem sm_mulL (n : Nat) (c : B) (f : Nat → B) : sm n (fun i => mul c (f i)) = mul c (sm n f) := by
  induction n with
  | zero => exact (mul_zero c).symm
  | succ n ih => simp only [sm]; rw [ih, mul_add]
theorem sm_mulR (n : Nat) (c : B) (f : Nat → B) : sm n (fun i => mul (f i) c) = mul (sm n f) c := by
  induction n with
  | zero => exact (zero_mul c).symm
  | succ n ih => simp only [sm]; rw [ih, add_mul]
theorem sm_swap (n m : Nat) (f : Nat → Nat → B) : sm n (fun i => sm m (f i)) = sm m (fun j => sm n (fun i => f i j)) := by
  induction n with
  | zero => exact (sm_zero (fun _ _ => rfl)).symm
  | succ n ih => simp only [sm]; rw [ih, ← sm_add]
theorem sm_single {n i : Nat} {f : Nat → B} (hi : i < n) (h : ∀ j, j < n → j ≠ i → f j = 0#8) : sm n f = f i := by
  induction n with
  | zero => omega
  | succ n ih =>
    simp only [sm]
    by_cases e : i = n
    · subst e
      rw [sm_zero (fun j hj => h j (by omega) (by omega)), BitVec.zero_xor]
    · rw [ih (by omega) (fun j hj hne => h j (by omega) hne), h n (by omega) (fun e2 => e e2.symm), BitVec.xor_zero]
/-- The product over n places. -/
def mm (n : Nat) (a b : Fm) : Fm := fun i j => sm n (fun k => mul (a i k) (b k j))
def I : Fm := fun i j => if i = j then 1#8 else 0#8
theorem mm_assoc (n p : Nat) (a b c : Fm) (i j : Nat) : mm p (mm n a b) c i j = mm n a (mm p b c) i j := by
  unfold mm
  rw [show (fun k => mul (sm n fun l => mul (a i l) (b l k)) (c k j)) = fun k => sm n fun l => mul (mul (a i l) (b l k)) (c k j) from funext fun k => (sm_mulR _ _ _).symm, sm_swap]
  refine sm_congr fun l _ => ?_
  rw [← sm_mulL]
  exact sm_congr fun k _ => mul_assoc _ _ _
theorem mm_congr {n : Nat} {a a' b b' : Fm} {i j : Nat} (h1 : ∀ k, k < n → a i k = a' i k) (h2 : ∀ k, k < n → b k j = b' k j) : mm n a b i j = mm n a' b' i j := sm_congr fun k hk => by rw [h1 k hk, h2 k hk]
theorem mm_IL {n : Nat} (a : Fm) {i : Nat} (j : Nat) (hi : i < n) : mm n I a i j = a i j := by
  unfold mm
  rw [sm_single hi (fun k _ hne => by unfold I; rw [if_neg (fun e => hne e.symm), zero_mul])]
  unfold I
  rw [if_pos rfl, one_mul]
theorem mm_IR {n : Nat} (a : Fm) (i : Nat) {j : Nat} (hj : j < n) : mm n a I i j = a i j := by
  unfold mm
  rw [sm_single hj (fun k _ hne => by unfold I; rw [if_neg hne, mul_zero])]
  unfold I
  rw [if_pos rfl, mul_one]
/-- E and F undo one another. -/
def Inv2 (n : Nat) (E F : Fm) : Prop := (∀ i j, i < n → j < n → mm n E F i j = I i j) ∧ ∀ i j, i < n → j < n → mm n F E i j = I i j
/-- A' is E times A, of n rows and m columns. -/
def Lt (n m : Nat) (E A A' : Fm) : Prop := ∀ i j, i < n → j < m → A' i j = mm n E A i j
/-- Both matrices were turned by one thing that can be undone. -/
def Rturn (n m p : Nat) (A Z A' Z' : Fm) : Prop := ∃ E F, Inv2 n E F ∧ Lt n m E A A' ∧ Lt n p E Z Z'
theorem Inv2.refl (n : Nat) : Inv2 n I I := ⟨fun i j hi _ => mm_IL I j hi, fun i j hi _ => mm_IL I j hi⟩
theorem Lt.refl (n m : Nat) (A : Fm) : Lt n m I A A := fun i j hi _ => (mm_IL A j hi).symm
theorem Rturn.refl (n m p : Nat) (A Z : Fm) : Rturn n m p A Z A Z := ⟨I, I, Inv2.refl n, Lt.refl n m A, Lt.refl n p Z⟩
theorem Lt.trans {n m : Nat} {E E' A A' A'' : Fm} (h : Lt n m E A A') (h' : Lt n m E' A' A'') : Lt n m (mm n E' E) A A'' := by
  intro i j hi hj
  rw [h' i j hi hj, mm_assoc]
  exact mm_congr (fun _ _ => rfl) (fun k hk => h k j hk hj)
theorem Inv2.half {n : Nat} {E F E' F' : Fm} (h : ∀ i j, i < n → j < n → mm n E F i j = I i j) (h' : ∀ i j, i < n → j < n → mm n E' F' i j = I i j) : ∀ i j, i < n → j < n → mm n (mm n E' E) (mm n F F') i j = I i j := by
  intro i j hi hj
  rw [mm_assoc, ← h' i j hi hj]
  refine mm_congr (fun _ _ => rfl) (fun k hk => ?_)
  rw [← mm_assoc, mm_congr (a' := I) (b' := F') (fun l hl => h k l hk hl) (fun _ _ => rfl), mm_IL _ _ hk]
theorem Inv2.trans {n : Nat} {E F E' F' : Fm} (h : Inv2 n E F) (h' : Inv2 n E' F') : Inv2 n (mm n E' E) (mm n F F') := ⟨Inv2.half h.1 h'.1, Inv2.half h'.2 h.2⟩
theorem Rturn.trans {n m p : Nat} {A Z A' Z' A'' Z'' : Fm} (h : Rturn n m p A Z A' Z') (h' : Rturn n m p A' Z' A'' Z'') : Rturn n m p A Z A'' Z'' := by
  obtain ⟨E, F, h1, h2, h3⟩ := h
  obtain ⟨E', F', h1', h2', h3'⟩ := h'
  exact ⟨_, _, h1.trans h1', h2.trans h2', h3.trans h3'⟩
theorem Rturn.congr {n m p : Nat} {A Z A' Z' A'' Z'' : Fm} (h : Rturn n m p A Z A' Z') (hA : ∀ i j, i < n → j < m → A'' i j = A' i j) (hZ : ∀ i j, i < n → j < p → Z'' i j = Z' i j) : Rturn n m p A Z A'' Z'' := by
  obtain ⟨E, F, h1, h2, h3⟩ := h
  exact ⟨E, F, h1, fun i j hi hj => (hA i j hi hj).trans (h2 i j hi hj), fun i j hi hj => (hZ i j hi hj).trans (h3 i j hi hj)⟩
/-- Two rows change places. -/
theorem Rturn.swap {n m p s t : Nat} (A Z : Fm) (hs : s < n) (ht : t < n) : Rturn n m p A Z (fun i => A (if i = t then s else if i = s then t else i)) (fun i => Z (if i = t then s else if i = s then t else i)) := by
  have hlt : ∀ i, i < n → (if i = t then s else if i = s then t else i) < n := by
    intro i hi
    by_cases e : i = t
    · rw [if_pos e]; exact hs
    · rw [if_neg e]
      by_cases e2 : i = s
      · rw [if_pos e2]; exact ht
      · rw [if_neg e2]; exact hi
  have hinv : ∀ i, (if (if i = t then s else if i = s then t else i) = t then s else if (if i = t then s else if i = s then t else i) = s then t else (if i = t then s else if i = s then t else i)) = i := by
    intro i
    by_cases e : i = t
    · subst e
      simp only [if_true]
      by_cases e2 : s = i
      · rw [if_pos e2, e2]
      · rw [if_neg e2]
    · simp only [if_neg e]
      by_cases e2 : i = s
      · subst e2; simp
      · simp [e2, e]
  have hE : ∀ (X : Fm) i j, i < n → mm n (fun i => I (if i = t then s else if i = s then t else i)) X i j = X (if i = t then s else if i = s then t else i) j := by
    intro X i j hi
    exact mm_IL (n := n) X (i := if i = t then s else if i = s then t else i) j (hlt i hi)
  have h2 : ∀ i j, i < n → j < n → mm n (fun i => I (if i = t then s else if i = s then t else i)) (fun i => I (if i = t then s else if i = s then t else i)) i j = I i j := by
    intro i j hi hj
    rw [hE _ i j hi, hinv]
  exact ⟨_, _, ⟨h2, h2⟩, fun i j hi hj => (hE A i j hi).symm, fun i j hi hj => (hE Z i j hi).symm⟩
/-- A row is multiplied. -/
theorem Rturn.scale {n m p d : Nat} {v : B} (A Z : Fm) (hv : v ≠ 0#8) : Rturn n m p A Z (fun i j => mul (if i = d then v else 1#8) (A i j)) (fun i j => mul (if i = d then v else 1#8) (Z i j)) := by
  have hE : ∀ (s : Nat → B) (X : Fm) i j, i < n → mm n (fun i l => mul (s i) (I i l)) X i j = mul (s i) (X i j) := by
    intro s X i j hi
    unfold mm
    rw [show (fun k => mul (mul (s i) (I i k)) (X k j)) = fun k => mul (s i) (mul (I i k) (X k j)) from funext fun k => mul_assoc _ _ _, sm_mulL]
    congr 1
    exact mm_IL X j hi
  refine ⟨fun i l => mul (if i = d then v else 1#8) (I i l), fun i l => mul (if i = d then inv v else 1#8) (I i l), ⟨fun i j hi hj => ?_, fun i j hi hj => ?_⟩, fun i j hi hj => (hE (fun i => if i = d then v else 1#8) A i j hi).symm, fun i j hi hj => (hE (fun i => if i = d then v else 1#8) Z i j hi).symm⟩
  · rw [hE (fun i => if i = d then v else 1#8) _ i j hi, ← mul_assoc]
    by_cases e : i = d
    · rw [if_pos e, if_pos e, mul_inv v hv, one_mul]
    · rw [if_neg e, if_neg e, one_mul, one_mul]
  · rw [hE (fun i => if i = d then inv v else 1#8) _ i j hi, ← mul_assoc]
    by_cases e : i = d
    · rw [if_pos e, if_pos e, inv_mul v hv, one_mul]
    · rw [if_neg e, if_neg e, one_mul, one_mul]
/-- A row's multiples are added to the others. -/
theorem Rturn.add {n m p d : Nat} (A Z : Fm) (x : Nat → B) (hd : d < n) (hx : x d = 0#8) : Rturn n m p A Z (fun i j => A i j ^^^ mul (x i) (A d j)) (fun i j => Z i j ^^^ mul (x i) (Z d j)) := by
  have hE : ∀ (X : Fm) i j, i < n → mm n (fun i l => I i l ^^^ mul (x i) (I d l)) X i j = X i j ^^^ mul (x i) (X d j) := by
    intro X i j hi
    unfold mm
    rw [show (fun k => mul (I i k ^^^ mul (x i) (I d k)) (X k j)) = fun k => mul (I i k) (X k j) ^^^ mul (x i) (mul (I d k) (X k j)) from funext fun k => by rw [add_mul, mul_assoc], sm_add, sm_mulL]
    congr 1
    · exact mm_IL X j hi
    · congr 1
      exact mm_IL X j hd
  have h2 : ∀ i j, i < n → j < n → mm n (fun i l => I i l ^^^ mul (x i) (I d l)) (fun i l => I i l ^^^ mul (x i) (I d l)) i j = I i j := by
    intro i j hi hj
    rw [hE _ i j hi, hx, zero_mul, BitVec.xor_zero, BitVec.xor_assoc, BitVec.xor_self, BitVec.xor_zero]
  exact ⟨_, _, ⟨h2, h2⟩, fun i j hi hj => (hE A i j hi).symm, fun i j hi hj => (hE Z i j hi).symm⟩
/-- If A was turned into the identity, beside it the identity into Z: Z is A's inverse on both sides. -/
theorem Rturn.inverse {n : Nat} {A A' Z' : Fm} (h : Rturn n n n A I A' Z') (hI : ∀ i j, i < n → j < n → A' i j = I i j) : (∀ i j, i < n → j < n → mm n Z' A i j = I i j) ∧ ∀ i j, i < n → j < n → mm n A Z' i j = I i j := by
  obtain ⟨E, F, h1, h2, h3⟩ := h
  have hZ : ∀ i j, i < n → j < n → Z' i j = E i j := fun i j hi hj => by rw [h3 i j hi hj, mm_IR _ _ hj]
  have hA : ∀ i j, i < n → j < n → A i j = F i j := by
    intro i j hi hj
    have e : mm n F (mm n E A) i j = A i j := by
      rw [← mm_assoc, mm_congr (a' := I) (b' := A) (fun k hk => h1.2 i k hi hk) (fun _ _ => rfl), mm_IL _ _ hi]
    rw [← e, mm_congr (a' := F) (b' := I) (fun _ _ => rfl) (fun k hk => by rw [← h2 k j hk hj, hI k j hk hj]), mm_IR _ _ hj]
  refine ⟨fun i j hi hj => ?_, fun i j hi hj => ?_⟩
  · rw [mm_congr (a' := E) (b' := A) (fun k hk => hZ i k hi hk) (fun _ _ => rfl), ← h2 i j hi hj, hI i j hi hj]
  · rw [mm_congr (a' := F) (b' := E) (fun k hk => hA i k hi hk) (fun k hk => hZ k j hk hj), h1.2 i j hi hj]
/-- If a row came to nothing, some of A's rows cancel out. -/
theorem Rturn.null {n m p : Nat} {A Z A' Z' : Fm} {d : Nat} (h : Rturn n m p A Z A' Z') (hd : d < n) (h0 : ∀ j, j < m → A' d j = 0#8) : ∃ y : Nat → B, (∀ j, j < m → sm n (fun k => mul (y k) (A k j)) = 0#8) ∧ ∃ k, k < n ∧ y k ≠ 0#8 := by
  obtain ⟨E, F, h1, h2, h3⟩ := h
  refine ⟨E d, fun j hj => (h2 d j hd hj).symm.trans (h0 j hj), Classical.byContradiction fun hn => ?_⟩
  have hz : ∀ k, k < n → E d k = 0#8 := fun k hk => Classical.byContradiction fun he => hn ⟨k, hk, he⟩
  have := h1.1 d d hd hd
  rw [show mm n E F d d = 0#8 from sm_zero fun k hk => by rw [hz k hk, zero_mul]] at this
  unfold I at this
  rw [if_pos rfl] at this
  exact absurd this (by decide)
theorem add_eq_zero {x y : B} (h : x ^^^ y = 0#8) : x = y := by
  have := congrArg (· ^^^ y) h
  simpa [BitVec.xor_assoc] using this
def sl : List B → (B → B) → B
  | [], _ => 0#8
  | x :: l, f => f x ^^^ sl l f
theorem sl_congr {l : List B} {f g : B → B} (h : ∀ x ∈ l, f x = g x) : sl l f = sl l g := by
  induction l with
  | nil => rfl
  | cons x l ih => simp only [sl]; rw [h x (by simp), ih (fun y hy => h y (by simp [hy]))]
theorem sl_zero {l : List B} {f : B → B} (h : ∀ x ∈ l, f x = 0#8) : sl l f = 0#8 := by
  induction l with
  | nil => rfl
  | cons x l ih => simp only [sl]; rw [h x (by simp), ih (fun y hy => h y (by simp [hy]))]; rfl
theorem sl_add (l : List B) (f g : B → B) : sl l (fun x => f x ^^^ g x) = sl l f ^^^ sl l g := by
  induction l with
  | nil => simp [sl]
  | cons x l ih => simp only [sl]; rw [ih, xor_swap4]
theorem sl_mulL (l : List B) (c : B) (f : B → B) : sl l (fun x => mul c (f x)) = mul c (sl l f) := by
  induction l with
  | nil => exact (mul_zero c).symm
  | cons x l ih => simp only [sl]; rw [ih, mul_add]
theorem mul_cancel {a b : B} (ha : a ≠ 0#8) (h : mul a b = 0#8) : b = 0#8 := Classical.byContradiction fun hb => mul_ne a b ha hb h
/-- (x0 + y) / (x + y) - (x0 + y0) / (x + y0) -/
theorem cauchy_term (x0 x y0 y : B) (h1 : x ^^^ y ≠ 0#8) (h2 : x ^^^ y0 ≠ 0#8) :
    mul (x0 ^^^ y) (inv (x ^^^ y)) ^^^ mul (x0 ^^^ y0) (inv (x ^^^ y0)) = mul (y0 ^^^ y) (mul (mul (x0 ^^^ x) (inv (x ^^^ y0))) (inv (x ^^^ y))) := by
  have e1 : mul (x0 ^^^ y) (inv (x ^^^ y)) = 1#8 ^^^ mul (x0 ^^^ x) (inv (x ^^^ y)) := by
    have : x0 ^^^ y = (x ^^^ y) ^^^ (x0 ^^^ x) := by
      rw [BitVec.xor_comm x0 x, xor_swap4, BitVec.xor_self, BitVec.zero_xor, BitVec.xor_comm]
    rw [this, add_mul, mul_inv _ h1]
  have e2 : mul (x0 ^^^ y0) (inv (x ^^^ y0)) = 1#8 ^^^ mul (x0 ^^^ x) (inv (x ^^^ y0)) := by
    have : x0 ^^^ y0 = (x ^^^ y0) ^^^ (x0 ^^^ x) := by
      rw [BitVec.xor_comm x0 x, xor_swap4, BitVec.xor_self, BitVec.zero_xor, BitVec.xor_comm]
    rw [this, add_mul, mul_inv _ h2]
  rw [e1, e2, xor_swap4, BitVec.xor_self, BitVec.zero_xor, ← mul_add]
  have e3 : inv (x ^^^ y) ^^^ inv (x ^^^ y0) = mul (y0 ^^^ y) (mul (inv (x ^^^ y0)) (inv (x ^^^ y))) := by
    have h3 : y0 ^^^ y = (x ^^^ y0) ^^^ (x ^^^ y) := by rw [xor_swap4, BitVec.xor_self, BitVec.zero_xor]
    rw [h3, add_mul, ← mul_assoc, mul_inv _ h2, one_mul]
    congr 1
    rw [mul_comm (inv (x ^^^ y0)), ← mul_assoc, mul_inv _ h1, one_mul]
  rw [e3, ← mul_assoc, ← mul_assoc, mul_comm (x0 ^^^ x), mul_assoc, mul_assoc, mul_assoc]
theorem cauchy_null : ∀ (P J : List B), P.Nodup → J.Nodup → (∀ x ∈ P, ∀ y ∈ J, x ≠ y) → P.length ≤ J.length → ∀ c : B → B, (∀ y ∈ J, sl P (fun x => mul (c x) (inv (x ^^^ y))) = 0#8) → ∀ x ∈ P, c x = 0#8 := by
  intro P
  induction P with
  | nil => intro J _ _ _ _ c _ x hx; simp at hx
  | cons x0 P ih =>
    intro J hP hJ hne hlen c h
    cases J with
    | nil => simp at hlen
    | cons y0 J =>
      rw [List.nodup_cons] at hP hJ
      have hn : ∀ x y, x ∈ x0 :: P → y ∈ y0 :: J → x ^^^ y ≠ 0#8 := fun x y hx hy e => hne x hx y hy (add_eq_zero e)
      have key : ∀ x ∈ P, mul (c x) (mul (x0 ^^^ x) (inv (x ^^^ y0))) = 0#8 := by
        refine ih J hP.2 hJ.2 (fun x hx y hy => hne x (by simp [hx]) y (by simp [hy])) (by simpa using hlen) _ ?_
        intro y hy
        have hy0 : y0 ^^^ y ≠ 0#8 := fun e => hJ.1 (by rw [add_eq_zero e]; exact hy)
        refine mul_cancel hy0 ?_
        rw [← sl_mulL]
        have a1 := h y (by simp [hy])
        have a2 := h y0 (by simp)
        have b1 : mul (x0 ^^^ y) (sl (x0 :: P) (fun x => mul (c x) (inv (x ^^^ y)))) ^^^ mul (x0 ^^^ y0) (sl (x0 :: P) (fun x => mul (c x) (inv (x ^^^ y0)))) = 0#8 := by rw [a1, a2, mul_zero, mul_zero]; rfl
        rw [← sl_mulL, ← sl_mulL, ← sl_add] at b1
        simp only [sl] at b1
        have b2 : mul (x0 ^^^ y) (mul (c x0) (inv (x0 ^^^ y))) ^^^ mul (x0 ^^^ y0) (mul (c x0) (inv (x0 ^^^ y0))) = 0#8 := by
          rw [mul_comm (c x0), ← mul_assoc, mul_inv _ (hn x0 y (by simp) (by simp [hy])), mul_comm (c x0) (inv (x0 ^^^ y0)), ← mul_assoc, mul_inv _ (hn x0 y0 (by simp) (by simp)), BitVec.xor_self]
        rw [b2, BitVec.zero_xor] at b1
        rw [← b1]
        refine sl_congr fun x hx => ?_
        have ht := cauchy_term x0 x y0 y (hn x y (by simp [hx]) (by simp [hy])) (hn x y0 (by simp [hx]) (by simp))
        have e1 : ∀ s t, mul s (mul (c x) t) = mul (c x) (mul s t) := fun s t => by rw [← mul_assoc, mul_comm s, mul_assoc]
        rw [e1, e1, ← mul_add, ht, mul_assoc, e1]
      have hx : ∀ x ∈ P, c x = 0#8 := by
        intro x hx
        have hne0 : x0 ^^^ x ≠ 0#8 := fun e => hP.1 (by rw [add_eq_zero e]; exact hx)
        have := key x hx
        rw [mul_comm] at this
        exact mul_cancel (mul_ne _ _ hne0 (inv_ne _ (hn x y0 (by simp [hx]) (by simp)))) this
      intro x hxm
      rcases List.mem_cons.1 hxm with rfl | hxm
      · have a2 := h y0 (by simp)
        simp only [sl] at a2
        rw [sl_zero (fun z hz => by rw [hx z hz, zero_mul]), BitVec.xor_zero, mul_comm] at a2
        exact mul_cancel (inv_ne _ (hn x y0 (by simp) (by simp))) a2
      · exact hx x hxm
end Go.Proofs.YtnfgiamdmfkcjaaDoor.Mx
namespace Go.Proofs.YtnfgiamdmfkcjaaDoor.Red
open Go.RowKit Go.Proofs.YtnfgiamdmfkcjaaDoorW.PrintWords Go.Proofs.YtnfgiamdmfkcjaaDoor.Leaf Go.Proofs.YtnfgiamdmfkcjaaDoor.Gf Go.Proofs.YtnfgiamdmfkcjaaDoor.H Go.Proofs.YtnfgiamdmfkcjaaDoor.Mx
set_option linter.unusedVariables false
theorem row_swap (A : Mat) (i j k : Nat) (hi : i < A.length) (hj : j < A.length) : row (swapM A i j) k = row A (if k = j then i else if k = i then j else k) := by
  unfold swapM
  rw [row_set _ _ _ _ (by simpa using hj), row_set _ _ _ _ hi]
  by_cases e : k = j
  · rw [if_pos e, if_pos e]
  · rw [if_neg e, if_neg e]
    by_cases e2 : k = i
    · rw [if_pos e2, if_pos e2]
    · rw [if_neg e2, if_neg e2]
theorem scF_at (v : B) (n : Nat) : ∀ (j0 : Nat) (r : List B) (j : Nat), j0 + n = r.length → at0 (scF v n j0 r) j = if j0 ≤ j ∧ j < r.length then mul (at0 r j) v else at0 r j := by
  induction n with
  | zero =>
    intro j0 r j h
    simp only [scF]
    rw [if_neg (by omega)]
  | succ n ih =>
    intro j0 r j h
    simp only [scF]
    rw [ih (j0 + 1) _ j (by rw [List.length_set]; omega), List.length_set, at0_set _ _ _ _ (by omega)]
    by_cases e : j0 = j
    · subst e
      rw [if_neg (by omega), if_pos rfl, if_pos (by omega)]
    · rw [if_neg e]
      by_cases h2 : j0 + 1 ≤ j ∧ j < r.length
      · rw [if_pos h2, if_pos (by omega)]
      · rw [if_neg h2, if_neg (by omega)]
theorem scale_at (v : B) (r : List B) (j : Nat) (hj : j < r.length) : at0 (scale v r) j = mul (at0 r j) v := by
  unfold scale
  rw [scF_at v r.length 0 r j (by omega), if_pos (by omega)]
theorem elF_row (c d : Nat) (n : Nat) : ∀ (i : Nat) (A Z : Mat), i + n = A.length → A.length = Z.length → d < A.length →
    (elF c d n i A Z).1.length = A.length ∧ (elF c d n i A Z).2.length = Z.length ∧
    (∀ k, row (elF c d n i A Z).1 k = if i ≤ k ∧ k < A.length ∧ k ≠ d ∧ el A k c ≠ 0#8 then am (row A k) (row A d) (el A k c) (row A k).length else row A k) ∧
    (∀ k, row (elF c d n i A Z).2 k = if i ≤ k ∧ k < A.length ∧ k ≠ d ∧ el A k c ≠ 0#8 then am (row Z k) (row Z d) (el A k c) (row Z k).length else row Z k) := by
  induction n with
  | zero =>
    intro i A Z h hl hd
    simp only [elF]
    exact ⟨trivial, trivial, fun k => by rw [if_neg (by omega)], fun k => by rw [if_neg (by omega)]⟩
  | succ n ih =>
    intro i A Z h hl hd
    simp only [elF]
    by_cases hc : i ≠ d ∧ el A i c ≠ 0#8
    · rw [if_pos hc]
      obtain ⟨h1, h2, h3, h4⟩ := ih (i + 1) (A.set i (am (row A i) (row A d) (el A i c) (row A i).length)) (Z.set i (am (row Z i) (row Z d) (el A i c) (row Z i).length)) (by rw [List.length_set]; omega) (by rw [List.length_set, List.length_set]; exact hl) (by rw [List.length_set]; exact hd)
      rw [List.length_set] at h1 h2 h3 h4
      have qk := fun k => row_set A i k (am (row A i) (row A d) (el A i c) (row A i).length) (by omega)
      have qz := fun k => row_set Z i k (am (row Z i) (row Z d) (el A i c) (row Z i).length) (by omega)
      have qd := (qk d).trans (if_neg (fun e : d = i => hc.1 e.symm))
      have qy := (qz d).trans (if_neg (fun e : d = i => hc.1 e.symm))
      have qe : ∀ k, k ≠ i → el (A.set i (am (row A i) (row A d) (el A i c) (row A i).length)) k c = el A k c := by
        intro k hk
        unfold el
        unfold el at qk
        rw [qk, if_neg hk]
      refine ⟨h1, h2, fun k => ?_, fun k => ?_⟩
      · by_cases e : k = i
        · rw [h3 k, if_neg (by omega), qk, if_pos e, e, if_pos ⟨Nat.le_refl _, by omega, hc.1, hc.2⟩]
        · rw [h3 k, qe k e, qk, if_neg e, qd]
          by_cases h5 : i + 1 ≤ k ∧ k < A.length ∧ k ≠ d ∧ el A k c ≠ 0#8
          · rw [if_pos h5, if_pos ⟨by omega, h5.2⟩]
          · rw [if_neg h5, if_neg (fun h6 => h5 ⟨by omega, h6.2⟩)]
      · by_cases e : k = i
        · rw [h4 k, if_neg (by omega), qz, if_pos e, e, if_pos ⟨Nat.le_refl _, by omega, hc.1, hc.2⟩]
        · rw [h4 k, qe k e, qz, if_neg e, qy]
          by_cases h5 : i + 1 ≤ k ∧ k < A.length ∧ k ≠ d ∧ el A k c ≠ 0#8
          · rw [if_pos h5, if_pos ⟨by omega, h5.2⟩]
          · rw [if_neg h5, if_neg (fun h6 => h5 ⟨by omega, h6.2⟩)]
    · rw [if_neg hc]
      obtain ⟨h1, h2, h3, h4⟩ := ih (i + 1) A Z (by omega) hl hd
      refine ⟨h1, h2, fun k => ?_, fun k => ?_⟩
      · rw [h3 k]
        by_cases e : k = i
        · subst e
          rw [if_neg (by omega), if_neg (fun h6 => hc h6.2.2)]
        · by_cases h5 : i + 1 ≤ k ∧ k < A.length ∧ k ≠ d ∧ el A k c ≠ 0#8
          · rw [if_pos h5, if_pos ⟨by omega, h5.2⟩]
          · rw [if_neg h5, if_neg (fun h6 => h5 ⟨by omega, h6.2⟩)]
      · rw [h4 k]
        by_cases e : k = i
        · subst e
          rw [if_neg (by omega), if_neg (fun h6 => hc h6.2.2)]
        · by_cases h5 : i + 1 ≤ k ∧ k < A.length ∧ k ≠ d ∧ el A k c ≠ 0#8
          · rw [if_pos h5, if_pos ⟨by omega, h5.2⟩]
          · rw [if_neg h5, if_neg (fun h6 => h5 ⟨by omega, h6.2⟩)]
theorem am_at (L M : List B) (s : B) (j : Nat) (hj : j < L.length) : at0 (am L M s L.length) j = at0 L j ^^^ mul (at0 M j) s := by
  rw [at0_am _ _ _ _ _ hj, if_pos hj]
/-- The turn of a column, element by element. -/
theorem stepF_spec {n m p : Nat} {A Z : Mat} (hA : Reg A n m) (hZ : Reg Z n p) {c d t : Nat} (hd : d < n) (ht : t < n) (hc : c < m) :
    Reg (stepF c d t A Z).1 n m ∧ Reg (stepF c d t A Z).2 n p ∧
    (∀ i j, i < n → j < m → el (stepF c d t A Z).1 i j = if i = d then mul (el A t j) (inv (el A t c)) else el A (if i = t then d else i) j ^^^ mul (mul (el A t j) (inv (el A t c))) (el A (if i = t then d else i) c)) ∧
    (∀ i j, i < n → j < p → el (stepF c d t A Z).2 i j = if i = d then mul (el Z t j) (inv (el A t c)) else el Z (if i = t then d else i) j ^^^ mul (mul (el Z t j) (inv (el A t c))) (el A (if i = t then d else i) c)) := by
  have hA1 := hA.swap ht hd
  have hZ1 := hZ.swap ht hd
  have rA := fun k => row_swap A t d k (by rw [hA.1]; exact ht) (by rw [hA.1]; exact hd)
  have rZ := fun k => row_swap Z t d k (by rw [hZ.1]; exact ht) (by rw [hZ.1]; exact hd)
  have sA : (swapM A t d).length = n := hA1.1
  have sZ : (swapM Z t d).length = n := hZ1.1
  have rAd : row (swapM A t d) d = row A t := by rw [rA, if_pos rfl]
  have rZd : row (swapM Z t d) d = row Z t := by rw [rZ, if_pos rfl]
  have hv : el (swapM A t d) d c = el A t c := by unfold el; rw [rAd]
  unfold stepF
  simp only []
  rw [hv, rAd, rZd]
  have hA2 : Reg ((swapM A t d).set d (scale (inv (el A t c)) (row A t))) n m := hA1.set hd (by rw [scale_length]; exact hA.2 t ht)
  have hZ2 : Reg ((swapM Z t d).set d (scale (inv (el A t c)) (row Z t))) n p := hZ1.set hd (by rw [scale_length]; exact hZ.2 t ht)
  have qA : ∀ k, row ((swapM A t d).set d (scale (inv (el A t c)) (row A t))) k = if k = d then scale (inv (el A t c)) (row A t) else row A (if k = t then d else k) := by
    intro k
    rw [row_set _ _ _ _ (by rw [sA]; exact hd), rA]
    by_cases e : k = d
    · rw [if_pos e, if_pos e]
    · rw [if_neg e, if_neg e, if_neg e]
  have qZ : ∀ k, row ((swapM Z t d).set d (scale (inv (el A t c)) (row Z t))) k = if k = d then scale (inv (el A t c)) (row Z t) else row Z (if k = t then d else k) := by
    intro k
    rw [row_set _ _ _ _ (by rw [sZ]; exact hd), rZ]
    by_cases e : k = d
    · rw [if_pos e, if_pos e]
    · rw [if_neg e, if_neg e, if_neg e]
  generalize (swapM A t d).set d (scale (inv (el A t c)) (row A t)) = A2 at *
  generalize (swapM Z t d).set d (scale (inv (el A t c)) (row Z t)) = Z2 at *
  obtain ⟨l1, l2, e1, e2⟩ := elF_row c d A2.length 0 A2 Z2 (by omega) (by rw [hA2.1, hZ2.1]) (by rw [hA2.1]; exact hd)
  have hs : ∀ i, i < n → (if i = t then d else i) < n := by
    intro i hi
    by_cases e : i = t
    · rw [if_pos e]; exact hd
    · rw [if_neg e]; exact hi
  refine ⟨⟨by rw [l1, hA2.1], fun i hi => ?_⟩, ⟨by rw [l2, hZ2.1], fun i hi => ?_⟩, fun i j hi hj => ?_, fun i j hi hj => ?_⟩
  · rw [e1]
    split
    · rw [am_length]; exact hA2.2 i hi
    · exact hA2.2 i hi
  · rw [e2]
    split
    · rw [am_length]; exact hZ2.2 i hi
    · exact hZ2.2 i hi
  · show at0 (row (elF c d A2.length 0 A2 Z2).1 i) j = _
    rw [e1, hA2.1]
    by_cases e : i = d
    · rw [if_neg (fun h => h.2.2.1 e), if_pos e, qA, if_pos e, scale_at _ _ _ (by rw [hA.2 t ht]; exact hj)]
      rfl
    · have q1 : row A2 i = row A (if i = t then d else i) := by rw [qA, if_neg e]
      have q2 : row A2 d = scale (inv (el A t c)) (row A t) := by rw [qA, if_pos rfl]
      have q3 : el A2 i c = el A (if i = t then d else i) c := by unfold el; rw [q1]
      rw [if_neg e, q3, q1, q2]
      by_cases hx : el A (if i = t then d else i) c = 0#8
      · rw [if_neg (fun h => h.2.2.2 hx), hx, mul_zero, BitVec.xor_zero]
        rfl
      · rw [if_pos ⟨Nat.zero_le _, hi, e, hx⟩, am_at _ _ _ _ (by rw [hA.2 _ (hs i hi)]; exact hj), scale_at _ _ _ (by rw [hA.2 t ht]; exact hj)]
        rfl
  · show at0 (row (elF c d A2.length 0 A2 Z2).2 i) j = _
    rw [e2, hA2.1]
    by_cases e : i = d
    · rw [if_neg (fun h => h.2.2.1 e), if_pos e, qZ, if_pos e, scale_at _ _ _ (by rw [hZ.2 t ht]; exact hj)]
      rfl
    · have q1 : row A2 i = row A (if i = t then d else i) := by rw [qA, if_neg e]
      have q3 : el A2 i c = el A (if i = t then d else i) c := by unfold el; rw [q1]
      have q4 : row Z2 i = row Z (if i = t then d else i) := by rw [qZ, if_neg e]
      have q5 : row Z2 d = scale (inv (el A t c)) (row Z t) := by rw [qZ, if_pos rfl]
      rw [if_neg e, q3, q4, q5]
      by_cases hx : el A (if i = t then d else i) c = 0#8
      · rw [if_neg (fun h => h.2.2.2 hx), hx, mul_zero, BitVec.xor_zero]
        rfl
      · rw [if_pos ⟨Nat.zero_le _, hi, e, hx⟩, am_at _ _ _ _ (by rw [hZ.2 _ (hs i hi)]; exact hj), scale_at _ _ _ (by rw [hZ.2 t ht]; exact hj)]
        rfl
theorem stepF_steps {n m p : Nat} {A Z : Mat} (hA : Reg A n m) (hZ : Reg Z n p) {c d t : Nat} (hd : d < n) (ht : t < n) (hc : c < m) (hx : el A t c ≠ 0#8) :
    Rturn n m p (el A) (el Z) (el (stepF c d t A Z).1) (el (stepF c d t A Z).2) := by
  obtain ⟨_, _, h1, h2⟩ := stepF_spec hA hZ hd ht hc
  have s1 := Rturn.swap (m := m) (p := p) (s := t) (t := d) (el A) (el Z) ht hd
  have s2 := s1.trans (Rturn.scale (d := d) _ _ (inv_ne _ hx))
  have s3 := s2.trans (Rturn.add (d := d) _ _ (fun i => if i = d then 0#8 else el A (if i = t then d else i) c) hd (if_pos rfl))
  refine s3.congr (fun i j hi hj => ?_) (fun i j hi hj => ?_)
  · rw [h1 i j hi hj]
    by_cases e : i = d
    · simp only [if_pos e, zero_mul, BitVec.xor_zero]
      rw [mul_comm]
    · simp only [if_neg e, one_mul, if_true]
      rw [mul_comm (el A (if i = t then d else i) c), mul_comm (inv (el A t c))]
  · rw [h2 i j hi hj]
    by_cases e : i = d
    · simp only [if_pos e, zero_mul, BitVec.xor_zero]
      rw [mul_comm]
    · simp only [if_neg e, one_mul, if_true]
      rw [mul_comm (el A (if i = t then d else i) c), mul_comm (inv (el A t c))]
/-- Where the pivot is. -/
theorem pivot_miss {n m : Nat} {A : Mat} (hA : Reg A n m) {d c : Nat} (h : pivot A d c < 0) : ∀ i, d ≤ i → i < n → el A i c = 0#8 := by
  intro i h1 h2
  unfold pivot at h
  have h3 : decide (0 ≤ firstP (fun j => rd (ofL (row A (d + j))) (c : Int) != 0) (A.length - d)) = false := decide_eq_false (by omega)
  rw [firstP_nonneg, List.any_eq_false] at h3
  have h4 := h3 (i - d) (List.mem_range.2 (by rw [hA.1]; omega))
  rw [show d + (i - d) = i by omega] at h4
  have h5 : rd (ofL (row A i)) (c : Int) = 0 := by simpa using h4
  rw [rd_ofL, ofB_eq_zero] at h5
  exact h5
theorem firstP_found {p : Nat → Bool} {n : Nat} (h : ¬ firstP p n < 0) : ∃ k : Nat, firstP p n = (k : Int) ∧ k < n ∧ p k = true ∧ ∀ j, j < k → p j = false := by
  unfold firstP at h ⊢
  cases e : (List.range n).find? p with
  | none => rw [e] at h; exact absurd (by decide) h
  | some k =>
    rw [List.find?_range_eq_some] at e
    exact ⟨k, rfl, List.mem_range.1 e.2.1, e.1, fun j hj => by simpa using e.2.2 j hj⟩
theorem pivot_hit {n m : Nat} {A : Mat} (hA : Reg A n m) {d c : Nat} (h : ¬ pivot A d c < 0) : ∃ t : Nat, pivot A d c = (t : Int) ∧ d + t < n ∧ el A (d + t) c ≠ 0#8 ∧ ∀ i, d ≤ i → i < d + t → el A i c = 0#8 := by
  obtain ⟨t, h1, h2, h3, h4⟩ := firstP_found h
  refine ⟨t, h1, by rw [hA.1] at h2; omega, fun e => ?_, fun i hi1 hi2 => ?_⟩
  · have h5 : rd (ofL (row A (d + t))) (c : Int) ≠ 0 := by simpa using h3
    rw [rd_ofL] at h5
    exact h5 ((ofB_eq_zero _).2 e)
  · have h5 := h4 (i - d) (by omega)
    rw [show d + (i - d) = i by omega] at h5
    have h6 : rd (ofL (row A i)) (c : Int) = 0 := by simpa using h5
    rw [rd_ofL, ofB_eq_zero] at h6
    exact h6
/-- How far the columns are: below row d nought, and where each column had a row: the identity. -/
def Done (n c d : Nat) (A : Mat) : Prop := d ≤ c ∧ (∀ i, d ≤ i → i < n → ∀ j, j < c → el A i j = 0#8) ∧ (d = c → ∀ i, i < n → ∀ j, j < c → el A i j = I i j)
theorem done_miss {n m c d : Nat} {A : Mat} (hA : Reg A n m) (h : Done n c d A) (hp : pivot A d c < 0) : Done n (c + 1) d A := by
  refine ⟨by have := h.1; omega, fun i h1 h2 j hj => ?_, fun e => by have := h.1; omega⟩
  by_cases e : j = c
  · subst e; exact pivot_miss hA hp i h1 h2
  · exact h.2.1 i h1 h2 j (by omega)
theorem done_step {n m p c d t : Nat} {A Z : Mat} (hA : Reg A n m) (hZ : Reg Z n p) (hd : d < n) (hdt : d ≤ t) (ht : t < n) (hc : c < m) (hx : el A t c ≠ 0#8) (h : Done n c d A) : Done n (c + 1) (d + 1) (stepF c d t A Z).1 := by
  obtain ⟨_, _, h1, _⟩ := stepF_spec hA hZ hd ht hc
  have hcol : ∀ i, i < n → i ≠ d → el (stepF c d t A Z).1 i c = 0#8 := by
    intro i hi e
    rw [h1 i c hi hc, if_neg e, mul_inv _ hx, one_mul, BitVec.xor_self]
  refine ⟨by have := h.1; omega, fun i hi1 hi2 j hj => ?_, fun e i hi j hj => ?_⟩
  · by_cases e : j = c
    · subst e; exact hcol i hi2 (by omega)
    · rw [h1 i j hi2 (by omega), if_neg (by omega), h.2.1 t hdt ht j (by omega), zero_mul, zero_mul, BitVec.xor_zero]
      by_cases e2 : i = t
      · rw [if_pos e2]; exact h.2.1 d (Nat.le_refl _) hd j (by omega)
      · rw [if_neg e2]; exact h.2.1 i (by omega) hi2 j (by omega)
  · have hdc : d = c := by omega
    by_cases e1 : j = c
    · subst e1
      by_cases e2 : i = d
      · rw [h1 i j hi hc, if_pos e2, mul_inv _ hx]
        unfold I
        rw [if_pos (by omega)]
      · rw [hcol i hi e2]
        unfold I
        rw [if_neg (by omega)]
    · rw [h1 i j hi (by omega), h.2.1 t hdt ht j (by omega), zero_mul, zero_mul, BitVec.xor_zero]
      by_cases e2 : i = d
      · rw [if_pos e2]
        unfold I
        rw [if_neg (by omega)]
      · rw [if_neg e2]
        by_cases e3 : i = t
        · rw [if_pos e3, h.2.1 d (Nat.le_refl _) hd j (by omega)]
          unfold I
          rw [if_neg (by omega)]
        · rw [if_neg e3]
          exact h.2.2 hdc i hi j (by omega)
theorem redF_spec {n m p : Nat} (fuel : Nat) : ∀ (c d : Nat) (A Z : Mat), c + fuel = m → d < n → Reg A n m → Reg Z n p →
    Reg (redF fuel c d A Z).2.1 n m ∧ Reg (redF fuel c d A Z).2.2 n p ∧ (redF fuel c d A Z).1 ≤ n ∧ Rturn n m p (el A) (el Z) (el (redF fuel c d A Z).2.1) (el (redF fuel c d A Z).2.2) ∧
    (Done n c d A → ((redF fuel c d A Z).1 < n → ∀ j, j < m → el (redF fuel c d A Z).2.1 (redF fuel c d A Z).1 j = 0#8) ∧ ((redF fuel c d A Z).1 = n → n = m → ∀ i, i < n → ∀ j, j < n → el (redF fuel c d A Z).2.1 i j = I i j)) := by
  induction fuel with
  | zero =>
    intro c d A Z hc hd hA hZ
    simp only [redF]
    refine ⟨hA, hZ, by omega, Rturn.refl _ _ _ _ _, fun h => ⟨fun _ j hj => h.2.1 d (Nat.le_refl _) hd j (by omega), fun e => by omega⟩⟩
  | succ fuel ih =>
    intro c d A Z hc hd hA hZ
    simp only [redF]
    by_cases hp : pivot A d c < 0
    · rw [if_pos hp]
      obtain ⟨r1, r2, r3, r4, r5⟩ := ih (c + 1) d A Z (by omega) hd hA hZ
      exact ⟨r1, r2, r3, r4, fun h => r5 (done_miss hA h hp)⟩
    · rw [if_neg hp]
      obtain ⟨t, e, ht, hx, _⟩ := pivot_hit hA hp
      rw [e, show ((t : Int)).toNat = t from rfl]
      have ht' : t + d < n := by omega
      have hx' : el A (t + d) c ≠ 0#8 := by rw [Nat.add_comm]; exact hx
      have hst := stepF_steps hA hZ hd ht' (show c < m by omega) hx'
      obtain ⟨g1, g2, _, _⟩ := stepF_spec hA hZ hd ht' (show c < m by omega)
      have hdn := fun h => done_step hA hZ hd (by omega : d ≤ t + d) ht' (show c < m by omega) hx' h
      generalize stepF c d (t + d) A Z = S at *
      by_cases he : d + 1 = A.length
      · rw [if_pos he]
        have hA1 := hA.1
        refine ⟨g1, g2, by omega, hst, fun h => ⟨fun h2 => by omega, fun _ hnm i hi j hj => ?_⟩⟩
        have hd1 := hdn h
        have hdc := h.1
        exact hd1.2.2 (by omega) i hi j (by omega)
      · rw [if_neg he]
        have hA1 := hA.1
        obtain ⟨r1, r2, r3, r4, r5⟩ := ih (c + 1) (d + 1) S.1 S.2 (by omega) (by omega) g1 g2
        exact ⟨r1, r2, r3, hst.trans r4, fun h => r5 (hdn h)⟩
theorem done_start (n : Nat) (A : Mat) : Done n 0 0 A := ⟨Nat.le_refl _, fun _ _ _ j hj => by omega, fun _ _ _ j hj => by omega⟩
/-- The identity. -/
def idM (n : Nat) : Mat := (List.range n).map fun i => (List.range n).map fun j => if i = j then 1#8 else 0#8
theorem row_map (n : Nat) (f : Nat → List B) (i : Nat) (hi : i < n) : row ((List.range n).map f) i = f i := by
  unfold row
  rw [List.getD_eq_getElem?_getD, List.getElem?_map, List.getElem?_range hi]
  rfl
theorem at0_map (n : Nat) (f : Nat → B) (i : Nat) (hi : i < n) : at0 ((List.range n).map f) i = f i := by
  unfold at0
  rw [List.getD_eq_getElem?_getD, List.getElem?_map, List.getElem?_range hi]
  rfl
/-- The matrix of n rows and m columns whose elements are told. -/
def matF (n m : Nat) (f : Fm) : Mat := (List.range n).map fun i => (List.range m).map (f i)
theorem matF_reg (n m : Nat) (f : Fm) : Reg (matF n m f) n m := ⟨by simp [matF], fun i hi => by unfold matF; rw [row_map _ _ _ hi]; simp⟩
theorem el_matF {n m : Nat} (f : Fm) {i j : Nat} (hi : i < n) (hj : j < m) : el (matF n m f) i j = f i j := by
  unfold el matF
  rw [row_map _ _ _ hi, at0_map _ _ _ hj]
theorem idM_eq (n : Nat) : idM n = matF n n I := rfl
theorem mat_ext {n m : Nat} {A C : Mat} (hA : Reg A n m) (hC : Reg C n m) (h : ∀ i j, i < n → j < m → el A i j = el C i j) : A = C := by
  refine List.ext_getElem (by rw [hA.1, hC.1]) fun i h1 h2 => ?_
  have hi : i < n := by rw [← hA.1]; exact h1
  have e1 : A[i] = row A i := by unfold row; rw [List.getD_eq_getElem?_getD, List.getElem?_eq_getElem h1]; rfl
  have e2 : C[i] = row C i := by unfold row; rw [List.getD_eq_getElem?_getD, List.getElem?_eq_getElem h2]; rfl
  rw [e1, e2]
  exact ext0 (by rw [hA.2 i hi, hC.2 i hi]) fun j hj => h i j hi (by rw [← hA.2 i hi]; exact hj)
/-- What Inverse tells: a matrix' inverse on both sides, if no rank is lost. -/
theorem inverse_yes {n : Nat} {A : Mat} (hn : 0 < n) (hA : Reg A n n) (h : (redF n 0 0 A (idM n)).1 = n) :
    Reg (redF n 0 0 A (idM n)).2.2 n n ∧ (∀ i j, i < n → j < n → mm n (el (redF n 0 0 A (idM n)).2.2) (el A) i j = I i j) ∧ ∀ i j, i < n → j < n → mm n (el A) (el (redF n 0 0 A (idM n)).2.2) i j = I i j := by
  obtain ⟨r1, r2, r3, r4, r5⟩ := redF_spec n 0 0 A (idM n) (by omega) hn hA (matF_reg n n I)
  have hI := (r5 (done_start n A)).2 h rfl
  have r4' : Rturn n n n (el A) I (el (redF n 0 0 A (idM n)).2.1) (el (redF n 0 0 A (idM n)).2.2) := by
    obtain ⟨E, F, h1, h2, h3⟩ := r4
    exact ⟨E, F, h1, h2, fun i j hi hj => (h3 i j hi hj).trans (mm_congr (fun _ _ => rfl) (fun k hk => el_matF I hk hj))⟩
  obtain ⟨q1, q2⟩ := r4'.inverse (fun i j hi hj => hI i hi j hj)
  exact ⟨r2, q1, q2⟩
/-- If a rank is lost, some rows cancel out. -/
theorem inverse_no {n : Nat} {A Z : Mat} {p : Nat} (hn : 0 < n) (hA : Reg A n n) (hZ : Reg Z n p) (h : (redF n 0 0 A Z).1 < n) : ∃ y : Nat → B, (∀ j, j < n → sm n (fun k => mul (y k) (el A k j)) = 0#8) ∧ ∃ k, k < n ∧ y k ≠ 0#8 := by
  obtain ⟨r1, r2, r3, r4, r5⟩ := redF_spec n 0 0 A Z (by omega) hn hA hZ
  exact r4.null h ((r5 (done_start n A)).1 h)
theorem redF_le {n m p : Nat} {A Z : Mat} (hn : 0 < n) (hA : Reg A n m) (hZ : Reg Z n p) : (redF m 0 0 A Z).1 ≤ n := (redF_spec m 0 0 A Z (by omega) hn hA hZ).2.2.1
end Go.Proofs.YtnfgiamdmfkcjaaDoor.Red
namespace Go.Proofs.YtnfgiamdmfkcjaaDoor.H
open Go.RowKit Go.Proofs.YtnfgiamdmfkcjaaDoorW.PrintWords Go.Proofs.YtnfgiamdmfkcjaaDoor.Leaf Go.Proofs.YtnfgiamdmfkcjaaDoor.Gf Go.Proofs.YtnfgiamdmfkcjaaDoor.Red
set_option linter.unusedVariables false
set_option linter.unusedSimpArgs false
/-- An outer row of k places, the first ones laid. -/
structure Mp (w : World) (base g cp k : Nat) (id cap : Nat → Nat) (A : List (List Int)) : Prop where
  outer : ∃ fc : Nat → Value, w.ownsRow base 22 1 (.slice (some ⟨g, 0, none⟩) k cp) k (encs (fun j => if j < A.length then sl id cap A j else fc j) (List.range k))
  rows : ∀ i, i < A.length → Rw w base (id i) (cap i) (A.getD i [])
  inj : ∀ i j, i < A.length → j < A.length → id i = id j → i = j
  le : A.length ≤ k
section
variable {w w0 w1 : World} {base g cp k b c : Nat} {id cap : Nat → Nat} {A : List (List Int)} {r : List Int}
theorem Mp.typed (h : Mp w base g cp k id cap A) : ∃ cells, w.heap[g]? = some (.cells cells 22 (0, 0)) := by obtain ⟨fc, ho⟩ := h.outer; exact own_typed ho g rfl
theorem Mp.gbase (h : Mp w base g cp k id cap A) : base ≤ g := by obtain ⟨fc, ho⟩ := h.outer; exact own_base ho g rfl
theorem Mp.glt (h : Mp w base g cp k id cap A) : g < w.heap.size := by obtain ⟨fc, ho⟩ := h.outer; exact own_lt ho g rfl
theorem Mp.ne (h : Mp w base g cp k id cap A) (h2 : Rw w base b c r) : b ≠ g := by
  obtain ⟨cs, hc⟩ := h.typed
  obtain ⟨cs', hc'⟩ := h2.typed
  rintro rfl
  rw [hc] at hc'
  simp at hc'
theorem Mp.move (h : Mp w base g cp k id cap A) (hm : ∀ q, (q = g ∨ ∃ i, i < A.length ∧ q = id i) → w1.heap[q]? = w.heap[q]?) : Mp w1 base g cp k id cap A := by
  obtain ⟨fc, ho⟩ := h.outer
  exact ⟨⟨fc, own_move ho (fun q hq => hm q (.inl (by simpa [Value.ownBlock] using hq.symm)))⟩, fun i hi => own_move (h.rows i hi) (fun q hq => hm q (.inr ⟨i, hi, by simpa [Value.ownBlock] using hq.symm⟩)), h.inj, h.le⟩
theorem Mp.lt (h : Mp w base g cp k id cap A) (q : Nat) (hq : q = g ∨ ∃ i, i < A.length ∧ q = id i) : q < w.heap.size ∧ base ≤ q := by
  rcases hq with rfl | ⟨i, hi, rfl⟩
  · exact ⟨h.glt, h.gbase⟩
  · exact ⟨(h.rows i hi).lt, (h.rows i hi).base_⟩
theorem Mp.below (h : Mp w base g cp k id cap A) (hb : Below w.heap.size w w1) : Mp w1 base g cp k id cap A := h.move (fun q hq => hb.block q (h.lt q hq).1)
theorem Mp.at_ (h : Mp w base g cp k id cap A) (i : Nat) (hi : i < A.length) : w.cell? ⟨g, i, none⟩ = some (sl id cap A i) ∧ w.frozen? ⟨g, i, none⟩ = false := by
  obtain ⟨fc, ho⟩ := h.outer
  have hk := h.le
  have := own_at_of (d := 0) ho (i : Int) (by omega) (by omega)
  simpa [rdOf, List.getD_eq_getElem?_getD, List.getElem?_range (show i < k by omega), hi] using this
theorem Mp.free (h : Mp w base g cp k id cap A) (i : Nat) (hi : i < k) : (∃ u, w.cell? ⟨g, i, none⟩ = some u) ∧ w.frozen? ⟨g, i, none⟩ = false := by
  obtain ⟨fc, ho⟩ := h.outer
  have := own_at_of (d := 0) ho (i : Int) (by omega) (by omega)
  exact ⟨⟨_, by simpa using this.1⟩, by simpa using this.2⟩
theorem Mp.start {v : Value} {ok : Nat → Prop} (h : Kd.S (Kd.slice 5 (Kd.int .u8)) 22 w base ok v (List.replicate k [])) (hk : 0 < k) : ∃ g cp, v = .slice (some ⟨g, 0, none⟩) k cp ∧ Mp w base g cp k (fun _ => 0) (fun _ => 0) [] := by
  obtain ⟨g, cp, e, _⟩ := Kd.S_form h (by rw [List.length_replicate]; exact hk)
  rw [List.length_replicate] at e
  obtain ⟨inner, ho⟩ := Kd.S_own h
  rw [List.length_replicate, e] at ho
  refine ⟨g, cp, e, ⟨⟨fun j => inner.getD j undef, ?_⟩, fun i hi => absurd hi (Nat.not_lt_zero _), fun i j hi => absurd hi (Nat.not_lt_zero _), Nat.zero_le _⟩⟩
  have hl : inner.length = k := by have := ho.1; rw [show (Kd.slice 5 (Kd.int .u8)).sz = 1 from rfl] at this; omega
  have e2 : inner = encs (fun j => if j < ([] : List (List Int)).length then sl (fun _ => 0) (fun _ => 0) [] j else inner.getD j undef) (List.range k) := by
    unfold encs
    refine List.ext_getElem (by simp [hl]) fun j h1 h2 => ?_
    simp [List.getD_eq_getElem?_getD, h1]
  rw [← e2]
  exact ho
theorem Mp.add (h : Mp w base g cp k id cap A) (hi : A.length < k) (hr : Rw w base b c r) (hb : ∀ j, j < A.length → id j ≠ b) :
    Mp (w.setCell ⟨g, A.length, none⟩ (.slice (some ⟨b, 0, none⟩) r.length c)) base g cp k (up id A.length b) (up cap A.length c) (A ++ [r]) := by
  obtain ⟨fc, ho⟩ := h.outer
  have hbg := h.ne hr
  have hget : ∀ j, j < A.length → (A ++ [r]).getD j [] = A.getD j [] := fun j hj => by simp [List.getD_eq_getElem?_getD, List.getElem?_append_left hj]
  have hlast : (A ++ [r]).getD A.length [] = r := by simp [List.getD_eq_getElem?_getD]
  refine ⟨⟨fc, ?_⟩, fun i hi2 => ?_, fun i j hi2 hj2 => ?_, by rw [List.length_append]; simp; omega⟩
  · have := (ho.stored A.length (.slice (some ⟨b, 0, none⟩) r.length c)).1
    have e : (encs (fun j => if j < A.length then sl id cap A j else fc j) (List.range k)).set A.length (.slice (some ⟨b, 0, none⟩) r.length c) = encs (fun j => if j < (A ++ [r]).length then sl (up id A.length b) (up cap A.length c) (A ++ [r]) j else fc j) (List.range k) := by
      refine encs_set hi ?_ (fun j hj hne => ?_)
      · rw [if_pos (by rw [List.length_append]; simp)]
        unfold sl up
        rw [hlast, if_pos rfl, if_pos rfl]
      · by_cases e1 : j < A.length
        · rw [if_pos e1, if_pos (by rw [List.length_append]; simp; omega)]
          unfold sl up
          rw [hget j e1, if_neg hne, if_neg hne]
        · rw [if_neg e1, if_neg (by rw [List.length_append]; simp; omega)]
    rw [← e]
    exact this
  · rw [List.length_append] at hi2
    simp only [List.length_cons, List.length_nil, Nat.zero_add] at hi2
    unfold up
    by_cases e : i = A.length
    · rw [if_pos e, if_pos e, e, hlast]
      exact hr.far (Ne.symm hbg) _
    · rw [if_neg e, if_neg e, hget i (by omega)]
      exact (h.rows i (by omega)).far (Ne.symm (h.ne (h.rows i (by omega)))) _
  · rw [List.length_append] at hi2 hj2
    simp only [List.length_cons, List.length_nil, Nat.zero_add] at hi2 hj2
    unfold up
    by_cases e : i = A.length <;> by_cases e2 : j = A.length
    · intro _; rw [e, e2]
    · rw [if_pos e, if_neg e2]; intro h3; exact absurd h3.symm (hb j (by omega))
    · rw [if_neg e, if_pos e2]; intro h3; exact absurd h3 (hb i (by omega))
    · rw [if_neg e, if_neg e2]; exact h.inj i j (by omega) (by omega)
/-- A copy into a row. -/
theorem Rw.splice (h : Rw w base b c r) : ∃ cur : Array Value, w.heap[b]? = some (.cells cur 5 (0, 0)) ∧ ∀ (off : Nat) (cs : List Int), off + cs.length ≤ r.length →
    off + cs.length ≤ cur.size ∧ Rw (w.setRow b (cur.toList.take off ++ (encs (Value.int .u8) cs ++ cur.toList.drop (off + cs.length))).toArray) base b c (splice r off cs) := by
  obtain ⟨hl, h0 | ⟨g', cap', cur, e, hb, hg, hnc, hcm, hcs, htake⟩⟩ := h
  · exact absurd h0.1 (by simp)
  · simp only [Value.slice.injEq, Option.some.injEq, Addr.mk.injEq, and_true, true_and] at e
    obtain ⟨rfl, rfl⟩ := e
    refine ⟨cur, hg, fun off cs hfit => ?_⟩
    have hsz : off + cs.length ≤ cur.size := by omega
    refine ⟨hsz, ?_⟩
    have hls : (Go.splice r off cs).length = r.length := length_splice r off cs hfit
    refine ⟨?_, .inr ⟨b, c, (cur.toList.take off ++ (encs (Value.int .u8) cs ++ cur.toList.drop (off + cs.length))).toArray, ?_, hb, setRow_heap w b cur _ 5 (0, 0) hg, by rw [hls]; exact hnc, hcm, ?_, ?_⟩⟩
    · simp [encs]
    · rfl
    · simp [encs]; omega
    · simp only [Nat.mul_one] at htake ⊢
      rw [List.toList_toArray, hls]
      unfold Go.splice encs
      rw [List.map_append, List.map_append, List.map_take, List.map_drop]
      unfold encs at htake
      rw [← htake, List.take_take, List.take_append, List.take_append, List.take_take]
      have t1 : (cur.toList.take off).length = off := by rw [List.length_take, Array.length_toList]; omega
      rw [t1]
      congr 1
      · rw [Nat.min_eq_right (by omega), Nat.min_eq_left (by omega)]
      · congr 1
        · rw [List.take_of_length_le (by rw [List.length_map]; omega)]
        · rw [List.length_map, List.drop_take]
          congr 1
          omega
theorem Mp.copy (h : Mp w base g cp k id cap A) {i : Nat} (hi : i < A.length) {cells : Array Value} {s : List Int} (hs : s.length = (A.getD i []).length) (hr : Rw (w.setRow (id i) cells) base (id i) (cap i) s) : Mp (w.setRow (id i) cells) base g cp k id cap (A.set i s) := by
  obtain ⟨fc, ho⟩ := h.outer
  have hgi := h.ne (h.rows i hi)
  have hsl : ∀ j, (if j < (A.set i s).length then sl id cap (A.set i s) j else fc j) = if j < A.length then sl id cap A j else fc j := by
    intro j
    rw [List.length_set]
    by_cases e : j < A.length
    · rw [if_pos e, if_pos e]
      unfold sl
      rw [getD_set _ _ _ _ hi]
      by_cases e2 : j = i
      · subst e2; rw [if_pos rfl, hs]
      · rw [if_neg e2]
    · rw [if_neg e, if_neg e]
  refine ⟨⟨fc, ?_⟩, fun j hj => ?_, fun j l hj hl => h.inj j l (by simpa using hj) (by simpa using hl), by rw [List.length_set]; exact h.le⟩
  · rw [show encs (fun j => if j < (A.set i s).length then sl id cap (A.set i s) j else fc j) (List.range k) = encs (fun j => if j < A.length then sl id cap A j else fc j) (List.range k) from List.map_congr_left fun j _ => hsl j]
    exact own_move ho (fun q hq => setRow_other w (id i) q cells (by
      have : q = g := by simpa [Value.ownBlock] using hq.symm
      rw [this]
      exact Ne.symm hgi))
  · rw [List.length_set] at hj
    rw [getD_set _ _ _ _ hi]
    by_cases e : j = i
    · subst e; rw [if_pos rfl]; exact hr
    · rw [if_neg e]
      exact own_move (h.rows j hj) (fun q hq => setRow_other w (id i) q cells (by
        have : q = id j := by simpa [Value.ownBlock] using hq.symm
        rw [this]
        exact fun e2 => e (h.inj j i hj hi e2)))
theorem Mp.full (h : Mp w base g cp k id cap A) (hk : A.length = k) : Mt w base g cp id cap A := by
  obtain ⟨fc, ho⟩ := h.outer
  subst hk
  refine ⟨?_, h.rows, h.inj⟩
  rw [show encs (sl id cap A) (List.range A.length) = encs (fun j => if j < A.length then sl id cap A j else fc j) (List.range A.length) from List.map_congr_left fun j hj => (if_pos (List.mem_range.1 hj)).symm]
  exact ho
end
end Go.Proofs.YtnfgiamdmfkcjaaDoor.H
namespace Go.Proofs.YtnfgiamdmfkcjaaDoor.Red
open Go.RowKit Go.Proofs.YtnfgiamdmfkcjaaDoorW.PrintWords Go.Proofs.YtnfgiamdmfkcjaaDoor.Leaf Go.Proofs.YtnfgiamdmfkcjaaDoor.Gf Go.Proofs.YtnfgiamdmfkcjaaDoor.H
/-- Row i of what is dealt out, the first s units laid. -/
def spR (k n : Nat) (L : List B) (i s : Nat) : List B := (List.range n).map fun x => if x < s * 16 then at0 L ((x / 16 * k + i) * 16 + x % 16) else 0#8
def spM (k n : Nat) (L : List B) : Mat := (List.range k).map fun i => spR k n L i (n / 16)
theorem spR_length (k n : Nat) (L : List B) (i s : Nat) : (spR k n L i s).length = n := by simp [spR]
theorem spM_reg (k n : Nat) (L : List B) : Reg (spM k n L) k n := ⟨by simp [spM], fun i hi => by unfold spM; rw [row_map _ _ _ hi, spR_length]⟩
theorem at0_splice (L : List B) (off : Nat) (cs : List B) (x : Nat) (h : off + cs.length ≤ L.length) : at0 (splice L off cs) x = if off ≤ x ∧ x < off + cs.length then at0 cs (x - off) else at0 L x := by
  unfold splice at0
  simp only [List.getD_eq_getElem?_getD]
  have t1 : (L.take off).length = off := by rw [List.length_take]; omega
  by_cases h1 : x < off
  · rw [List.getElem?_append_left (by omega), List.getElem?_take, if_pos h1, if_neg (by omega)]
  · rw [List.getElem?_append_right (by omega), t1]
    by_cases h2 : x < off + cs.length
    · rw [List.getElem?_append_left (by omega), if_pos ⟨by omega, h2⟩]
    · rw [List.getElem?_append_right (by omega), List.getElem?_drop, if_neg (by omega), show off + cs.length + (x - off - cs.length) = x by omega]
theorem at0_out (L : List B) (x : Nat) (h : L.length ≤ x) : at0 L x = 0#8 := by
  unfold at0
  rw [List.getD_eq_getElem?_getD, List.getElem?_eq_none h]
  rfl
theorem spR_next (k n : Nat) (L : List B) (i s : Nat) (hs : (s + 1) * 16 ≤ n) (hat : (s * k + i) * 16 < L.length) : splice (spR k n L i s) (s * 16) ((L.drop ((s * k + i) * 16)).take 16) = spR k n L i (s + 1) := by
  have hl : ((L.drop ((s * k + i) * 16)).take 16).length ≤ 16 := List.length_take_le _ _
  have hfit : s * 16 + ((L.drop ((s * k + i) * 16)).take 16).length ≤ (spR k n L i s).length := by rw [spR_length]; omega
  refine ext0 (by rw [length_splice _ _ _ hfit, spR_length, spR_length]) fun x hx => ?_
  rw [length_splice _ _ _ hfit, spR_length] at hx
  rw [at0_splice _ _ _ _ hfit]
  have e : ∀ s', at0 (spR k n L i s') x = if x < s' * 16 then at0 L ((x / 16 * k + i) * 16 + x % 16) else 0#8 := fun s' => at0_map _ _ _ hx
  rw [e, e]
  by_cases h1 : x < s * 16
  · rw [if_neg (by omega), if_pos h1, if_pos (by omega)]
  · by_cases h2 : x < (s + 1) * 16
    · rw [if_pos h2]
      have hxs : x / 16 = s := by omega
      rw [hxs]
      have hx16 : (s * k + i) * 16 + x % 16 = (s * k + i) * 16 + (x - s * 16) := by omega
      rw [hx16]
      by_cases h3 : x < s * 16 + ((L.drop ((s * k + i) * 16)).take 16).length
      · rw [if_pos ⟨by omega, h3⟩]
        unfold at0
        simp only [List.getD_eq_getElem?_getD, List.getElem?_take, List.getElem?_drop]
        rw [if_pos (by omega)]
      · rw [if_neg (by omega), if_neg h1, at0_out]
        rw [List.length_take, List.length_drop] at h3
        omega
    · rw [if_neg (by omega), if_neg h1, if_neg h2]
theorem spR_skip (k n : Nat) (L : List B) (i s : Nat) (hat : L.length ≤ (s * k + i) * 16) : spR k n L i (s + 1) = spR k n L i s := by
  unfold spR
  refine List.map_congr_left fun x hx => ?_
  by_cases h1 : x < s * 16
  · rw [if_pos (by omega), if_pos h1]
  · rw [if_neg h1]
    by_cases h2 : x < (s + 1) * 16
    · rw [if_pos h2, show x / 16 = s by omega, at0_out _ _ (by omega)]
    · rw [if_neg h2]
theorem spR_zero (k n : Nat) (L : List B) (i : Nat) : spR k n L i 0 = List.replicate n 0#8 := by
  refine List.ext_getElem (by simp [spR]) fun x h1 h2 => ?_
  simp [spR]
end Go.Proofs.YtnfgiamdmfkcjaaDoor.Red
namespace Go.Proofs.YtnfgiamdmfkcjaaDoor.P
open Go.Proofs.YtnfgiamdmfkcjaaDoor.Leaf
open Go.RowKit Go.Proofs.YtnfgiamdmfkcjaaDoorW.PrintWords Go.Proofs.YtnfgiamdmfkcjaaDoorW.PrintLast Go.Proofs.YtnfgiamdmfkcjaaDoorW.PrintMore
attribute [local go_sem] max2_int min2_int max_two min_two max_three min_three max_four min_four   -- for this text's walks alone
set_option linter.unusedVariables false
set_option linter.unusedSimpArgs false
def matrix_zeros.l0 : Nat → Int → List (List Int) → Int → Int → Option ((List (List Int)))
 | 0, _, _, _, _ => none
 | k + 1, x1, x5, x10, x11 => if x11 < x10 then (if 0 ≤ x1 then (if (x1 : Int).toNat ≤ 281474976710656 then (if 0 ≤ x11 then (if x11 < (x5.length : Int) then (matrix_zeros.l0 k x1 (x5.set (x11 : Int).toNat (List.replicate (x1 : Int).toNat 0)) x10 (wrap64 (x11 + 1))) else (none)) else (none)) else (none)) else (none)) else (some x5)
def matrix_zeros.f (k : Nat) (a0 : Int) (a1 : Int) : Option ((List (List Int))) := if 0 ≤ a0 then (if (a0 : Int).toNat ≤ 11728124029610 then ((some (List.replicate (a0 : Int).toNat [] : List (List Int))).bind fun y101 => (matrix_zeros.l0 k a1 y101 (y101.length : Int) 0)) else (none)) else (none)
theorem matrix_zeros.mono_l : ∀ k, (∀ y0 y1 y2 y3, LeO (matrix_zeros.l0 k y0 y1 y2 y3) (matrix_zeros.l0 (k + 1) y0 y1 y2 y3))
 | 0 => fun _ _ _ _ r h => by simp [matrix_zeros.l0] at h
 | k + 1 => by
  have ih0 := matrix_zeros.mono_l k
  ·intro y0 y1 y2 y3
   unfold matrix_zeros.l0
   repeat' first
   | (with_reducible exact ih0 _ _ _ _)
   | (with_reducible exact LeO.refl _)
   | (with_reducible exact LeO.none _)
   | (with_reducible refine LeO.ite ?_ ?_)
   | (with_reducible refine LeO.bind ?_ (fun _ => ?_))
   | exact ih0 _ _ _ _
   | exact LeO.none _
   | refine LeO.ite ?_ ?_
   | refine LeO.bind ?_ (fun _ => ?_)
theorem matrix_zeros.mono : ∀ a0 a1 k, LeO (matrix_zeros.f k a0 a1) (matrix_zeros.f (k + 1) a0 a1) := by
 intro a0 a1 k
 have ih0 := matrix_zeros.mono_l k
 unfold matrix_zeros.f
 repeat' first
   | (with_reducible exact ih0 _ _ _ _)
   | (with_reducible exact LeO.refl _)
   | (with_reducible exact LeO.none _)
   | (with_reducible refine LeO.ite ?_ ?_)
   | (with_reducible refine LeO.bind ?_ (fun _ => ?_))
   | exact ih0 _ _ _ _
   | exact LeO.none _
   | refine LeO.ite ?_ ?_
   | refine LeO.bind ?_ (fun _ => ?_)
set_option maxHeartbeats 8000000 in
set_option maxRecDepth 100000 in
theorem matrix_zeros.calls (k : Nat) (a0 : Int) (a1 : Int) (r : List (List Int)) (w : World) (h : matrix_zeros.f k a0 a1 = some r) :
  Calls Tryd.prog 88 #[.int .i64 a0, .int .i64 a1] w fun e w' => ∃ v0_ : Value, e = .returned (v0_) ∧ Kd.S (Kd.slice 5 (Kd.int .u8)) 22 w' w.heap.size (fun _ => True) v0_ r ∧ Below w.heap.size w w' := by
 have HB := Aside0.mk (Below.refl w.heap.size w)
 have H : (if 0 ≤ a0 then (if (a0 : Int).toNat ≤ 11728124029610 then ((some (List.replicate (a0 : Int).toNat [] : List (List Int))).bind fun y101 => (matrix_zeros.l0 k a1 y101 (y101.length : Int) 0)) else (none)) else (none)) = some r := h
 clear h
 by_cases c3 : 0 ≤ a0
 ·rw [if_pos c3] at H
  have c3b0 := eq_true c3
  have c3b1 : decide (0 ≤ a0) = true := decide_eq_true c3
  clear c3
  by_cases c4 : (a0 : Int).toNat ≤ 11728124029610
  ·rw [if_pos c4] at H
   have c4b0 := eq_true c4
   have c4b1 : decide ((a0 : Int).toNat ≤ 11728124029610) = true := decide_eq_true c4
   clear c4
   obtain ⟨y101, hy101⟩ : ∃ y_ : List (List Int), y_ = (List.replicate (a0 : Int).toNat []) := ⟨_, rfl⟩
   replace H : (matrix_zeros.l0 k a1 y101 (y101.length : Int) 0) = some r := by first | (rw [hy101]; with_reducible exact H) | (have H2_ := (Option.bind_some _ _).symm.trans H; rw [hy101]; with_reducible exact H2_) | (have H2_ := (Option.bind_some _ _).symm.trans H; with_reducible exact H2_) | with_reducible exact H | (rw [hy101]; exact H) | exact H
   have Ny101 := Aside0.mk hy101
   clear hy101
   have H' := Aside0.mk H
   clear H
   go_enter Tryd.func88, Tryd.ntmps88
   go_wp2_with (first | ((with_reducible refine gate_dst (N := 8) rfl ?_); refine Kd.S_make (Kd.slice 5 (Kd.int .u8)) _ 22 rfl (N := 8) rfl 26 _ _ rfl a0 rfl rfl Tryd.underlying26 (.slice none 0 0) 24 info22 rfl (by decide) (by omega) [] (ok := fun _ => True) (okp := fun _ => True) ⟨_, rfl, Kd.R_nil _ _ _ _ _⟩ (fun _ hk => hk) trivial (of_decide_eq_true (by first | (with_reducible assumption) | assumption)) (Nat.le_trans (Nat.mul_le_mul_right _ (of_decide_eq_true (by first | (with_reducible assumption) | assumption) : a0.toNat ≤ 11728124029610)) (by omega)) (Below.refl _ _) (Nat.le_refl _) ?_; intro v102 w5 ho6 hb hg_ hnew_; clear hg_ hnew_; (first | rw [← Ny101.out] at ho6 | (simp only [Int.reduceToNat] at ho6; rw [← Ny101.out] at ho6)); have n0_ := Aside0.mk (Kd.S_lower ho6 (below_size (by repeat (first | (with_reducible first | exact HB.out | apply below_alloc | apply pw_below_drewN | apply below_drew1) | exact HB.out)))); have n1_ := Aside0.mk (below_step (by repeat (first | (with_reducible first | exact HB.out | apply below_alloc | apply pw_below_drewN | apply below_drew1) | exact HB.out)) hb); clear HB; have HO103 := n0_; have HB := n1_; clear n0_ n1_; clear hb ho6; obtain ⟨Ao7, co7, eo7⟩ := Kd.S_slice HO103.out; subst eo7))
   go_loopg [11] k (fun kq v11 w' => ∃ (x5_1 : List (List Int)) (x11_1 : Int), v11 = .int .i64 x11_1 ∧ Aside0 (matrix_zeros.l0 kq a1 x5_1 (y101.length : Int) x11_1 = some r) ∧ Aside0 (kq ≤ k) ∧ Aside0 (Kd.S (Kd.slice 5 (Kd.int .u8)) 22 w' w.heap.size (fun _ => True) (.slice Ao7 y101.length co7) x5_1) ∧ Aside0 (Below w.heap.size w w'))
   case atStart => exact ⟨(y101), (0), (by first | rfl | (simp; done) | (simp [*]; done)), H', ⟨Nat.le_refl _⟩, ⟨by (with_reducible repeat (first | apply Kd.S_alloc | apply Kd.S_drewN | apply Kd.S_drew)); exact HO103.out⟩, ⟨by repeat (first | (with_reducible first | exact HB.out | apply below_alloc | apply pw_below_drewN | apply below_drew1) | exact HB.out)⟩⟩
   case round =>
    clear H'
    try clear p2
    try clear c3
    try clear c3b0
    try clear c3b1
    try clear c4
    try clear c4b0
    try clear c4b1
    obtain ⟨x5_1, x11_1, rfl, HA, HK1, HO_5, HB⟩ := hrel
    have hl5_1 := (Kd.S_reads' HO_5.out).1
    rw [hl5_1] at HO_5
    (try simp only [hl5_1])
    cases gk with
    | zero => exact absurd HA.out (by simp [matrix_zeros.l0])
    | succ k1 =>
     have H := HA.out
     clear HA
     simp only [matrix_zeros.l0] at H
     by_cases c8 : x11_1 < (y101.length : Int)
     ·rw [if_pos c8] at H
      have c8b0 : decide (x11_1 < (y101.length : Int)) = true := decide_eq_true c8
      (try simp only [hl5_1] at c8b0)
      clear c8
      by_cases c9 : 0 ≤ a1
      ·rw [if_pos c9] at H
       have c9b0 := eq_true c9
       (try simp only [hl5_1] at c9b0)
       have c9b1 : decide (0 ≤ a1) = true := decide_eq_true c9
       (try simp only [hl5_1] at c9b1)
       clear c9
       by_cases c10 : (a1 : Int).toNat ≤ 281474976710656
       ·rw [if_pos c10] at H
        have c10b0 := eq_true c10
        (try simp only [hl5_1] at c10b0)
        have c10b1 : decide ((a1 : Int).toNat ≤ 281474976710656) = true := decide_eq_true c10
        (try simp only [hl5_1] at c10b1)
        clear c10
        obtain ⟨y104, hy104⟩ : ∃ y_ : List Int, y_ = (List.replicate (a1 : Int).toNat 0) := ⟨_, rfl⟩
        replace H : (if 0 ≤ x11_1 then (if x11_1 < (x5_1.length : Int) then (matrix_zeros.l0 k1 a1 (x5_1.set (x11_1 : Int).toNat y104) (y101.length : Int) (wrap64 (x11_1 + 1))) else (none)) else (none)) = some r := by first | (rw [hy104]; with_reducible exact H) | (have H2_ := (Option.bind_some _ _).symm.trans H; rw [hy104]; with_reducible exact H2_) | (have H2_ := (Option.bind_some _ _).symm.trans H; with_reducible exact H2_) | with_reducible exact H | (rw [hy104]; exact H) | exact H
        have Ny104 := Aside0.mk hy104
        clear hy104
        by_cases c11 : 0 ≤ x11_1
        ·rw [if_pos c11] at H
         have c11b0 : decide (0 ≤ x11_1) = true := decide_eq_true c11
         (try simp only [hl5_1] at c11b0)
         clear c11
         by_cases c12 : x11_1 < (x5_1.length : Int)
         ·rw [if_pos c12] at H
          have c12b0 : decide (x11_1 < (x5_1.length : Int)) = true := decide_eq_true c12
          (try simp only [hl5_1] at c12b0)
          clear c12
          obtain ⟨y107, hy107⟩ : ∃ y_ : List (List Int), y_ = (x5_1.set (x11_1 : Int).toNat y104) := ⟨_, rfl⟩
          replace H : (matrix_zeros.l0 k1 a1 y107 (y101.length : Int) (wrap64 (x11_1 + 1))) = some r := by first | (rw [hy107]; with_reducible exact H) | (have H2_ := (Option.bind_some _ _).symm.trans H; rw [hy107]; with_reducible exact H2_) | (have H2_ := (Option.bind_some _ _).symm.trans H; with_reducible exact H2_) | with_reducible exact H | (rw [hy107]; exact H) | exact H
          have Ny107 := Aside0.mk hy107
          clear hy107
          have H' := Aside0.mk H
          clear H
          go_wp2_with (first | ((with_reducible refine gate_dst (N := 17) rfl ?_); refine Kd.R_make (Kd.int .u8) _ 5 rfl (N := 17) rfl 22 _ _ rfl a1 rfl rfl Tryd.underlying22 (.int .u8 0) 1 info5 rfl (by decide) (by omega) 0 (ok := fun _ => True) (okp := fun _ => True) rfl (fun _ hk => hk) trivial (of_decide_eq_true (by first | (with_reducible assumption) | assumption)) (Nat.le_trans (Nat.mul_le_mul_right _ (of_decide_eq_true (by first | (with_reducible assumption) | assumption) : a1.toNat ≤ 281474976710656)) (by omega)) (Below.refl _ _) (Nat.le_refl _) ?_; intro v105 w14 ho15 hb hg_ hnew_; clear hg_ hnew_; (first | rw [← Ny104.out] at ho15 | (simp only [Int.reduceToNat] at ho15; rw [← Ny104.out] at ho15)); have n0_ := Aside0.mk (Kd.S_elder' (by (with_reducible repeat (first | apply Kd.S_alloc | apply Kd.S_drewN | apply Kd.S_drew)); exact HO_5.out) (Kd.R_base ho15) hb); have n1_ := Aside0.mk (Kd.R_lower ho15 (below_size (by repeat (first | (with_reducible first | exact HB.out | apply below_alloc | apply pw_below_drewN | apply below_drew1) | exact HB.out)))); have n2_ := Aside0.mk (below_step (by repeat (first | (with_reducible first | exact HB.out | apply below_alloc | apply pw_below_drewN | apply below_drew1) | exact HB.out)) hb); clear HO_5; clear HB; have HO_5 := n0_; have HO106 := n1_; have HB := n2_; clear n0_ n1_ n2_; clear hb ho15; have p13 : 0 ≤ (x11_1 : Int) := of_decide_eq_true (by first | (with_reducible assumption) | assumption); have q13 : (x11_1 : Int) < ((x5_1.length : Int) : Int) := of_decide_eq_true (by first | (with_reducible assumption) | assumption); obtain ⟨go13, co13, eo13, gb13, gl13, cl13, HG13⟩ := Kd.S_form HO_5.out (by omega); (first | cases eo13 | (injection eo13 with ea_ en_ ec_; (first | subst ea_ | (injection ea_ with ea_; subst ea_)); subst ec_; clear en_)); have GB13 := Aside0.mk gb13; have GG13 := Aside0.mk HG13; clear gb13 gl13 HG13; obtain ⟨_, ce13, hcl13, hM13, hcc13, hfr13, _, _⟩ := Kd.S_elem HO_5.out [] (x11_1 : Int) p13 q13; obtain ⟨ve13_0, rfl, ge13_0⟩ := hM13; have hx13_0 := hcc13 0 _ rfl; have hf13_0 := hfr13 0; (try simp only [show ((Kd.slice 5 (Kd.int .u8))).sz = 1 from rfl, Nat.mul_one, Nat.add_zero] at hx13_0); (try simp only [show ((Kd.slice 5 (Kd.int .u8))).sz = 1 from rfl, Nat.mul_one, Nat.add_zero] at hf13_0); (try clear hcl13); (try clear hcc13); (try clear hfr13); (try clear hM13); replace p13 := eq_true p13; replace q13 := eq_true q13; have n_ := Aside0.mk (Kd.S_mono (ok' := (fun k_ => some k_ ≠ (v105 : Value).ownBlock)) HO_5.out (fun k_ hk => hk.2)); clear HO_5; have HO_5 := n_; clear n_; have HX16 := Aside0.mk (show Kd.S (Kd.slice 5 (Kd.int .u8)) 22 w14 w.heap.size (fun k_ => ((fun _ => True)) k_ ∧ ¬ ((fun k_ => some k_ = (v105 : Value).ownBlock)) k_) (.slice (some ⟨go13, 0, none⟩) x5_1.length co7) x5_1 from (by (with_reducible repeat (first | apply Kd.S_alloc | apply Kd.S_drewN | apply Kd.S_drew)); exact Kd.S_mono HO_5.out (fun k_ hk => ⟨trivial, fun e_ => hk e_⟩))); obtain ⟨oki16, ce16, hcl16, hM16, hcc16, hfr16, hoki16, hH16⟩ := Kd.S_elem HX16.out [] (x11_1 : Int) (of_decide_eq_true (by first | (with_reducible assumption) | assumption)) (by have h_ : (x11_1 : Int) < ((x5_1.length : Int) : Int) := of_decide_eq_true (by first | (with_reducible assumption) | assumption); first | exact h_ | (have e_ := (Kd.S_reads' HO_5.out).1; omega) | simpa using h_); obtain ⟨ve16_0, rfl, ge16_0⟩ := hM16; obtain ⟨Av16_, cv16_, ev16_⟩ := Kd.R_slice HO106.out; subst ev16_; have HP16 := Kd.S_seg hH16 (of_decide_eq_true (by first | (with_reducible assumption) | assumption)) (by have h_ : (x11_1 : Int) < ((x5_1.length : Int) : Int) := of_decide_eq_true (by first | (with_reducible assumption) | assumption); first | exact h_ | (have e_ := (Kd.S_reads' HO_5.out).1; omega) | simpa using h_) (seg := [(.slice Av16_ y104.length cv16_)]) (j := 0) (show 1 ≤ 1 from by decide) (x' := y104) (Kd.M_row (Kd.R_mono (Kd.R_tight rfl (Kd.R_mono (ok' := fun k_ => ((fun _ => True)) k_ ∧ k_ ≠ go13) (Kd.R_apart' (HO106.out) (Kd.S_typed HO_5.out) (by decide)) (fun k_ hk => ⟨trivial, fun e_ => (hk.2) (by rw [e_]; rfl)⟩))) (fun _ h_ => Or.inr (h_)))) (fun _ hk => hk) (fun k_ hk_ => ((Kd.R_mono (ok' := fun k_ => ((fun _ => True)) k_ ∧ k_ ≠ go13) (Kd.R_apart' (HO106.out) (Kd.S_typed HO_5.out) (by decide)) (fun k_ hk => ⟨trivial, fun e_ => (hk.2) (by rw [e_]; rfl)⟩))).1 k_ hk_.symm); have hx16_0 := hcc16 0 _ rfl; (try simp only [show ((Kd.slice 5 (Kd.int .u8))).sz = 1 from rfl, Nat.mul_one, Nat.add_zero] at hx16_0); have hf16_0 := hfr16 0; (try simp only [show ((Kd.slice 5 (Kd.int .u8))).sz = 1 from rfl, Nat.mul_one, Nat.add_zero] at hf16_0); (try clear hcl16); (try clear hcc16); (try clear hfr16); (try clear hM16); (try clear hoki16); (try clear hH16); (try simp only [show ((Kd.slice 5 (Kd.int .u8))).sz = 1 from rfl, Nat.mul_one, Nat.add_zero] at HP16)) | ((with_reducible refine gate_store (t := 22) (p := 18) rfl ?_); refine store_event (t := 22) (p := 18) (v := ?vo_w17) (w1 := (w14.setCell ⟨go13, (x11_1 : Int).toNat, none⟩ ((.slice Av16_ y104.length cv16_)))) ?hg ?ho ?hn ?hr ?_; (case ho => rfl); (case hg => rfl); (case hn => rfl); (case hr => first | (go_simp; done) | (go_simp; rfl)); intro w17 hw; have hg : w14.grownBy w17 (some go13) := (by rw [hw]; exact HP16.2); have hp_ : Kd.S (Kd.slice 5 (Kd.int .u8)) 22 w17 w.heap.size (fun _ => True) (.slice (some ⟨go13, 0, none⟩) x5_1.length co7) y107 := (by rw [hw, Ny107.out]; exact HP16.1); clear HP16; have n0_ := Aside0.mk (hp_); have n1_ := Aside0.mk ((by rw [hw]; exact below_set (HB.out) GB13.out : Below w.heap.size w w17)); clear HO_5; clear HB; clear HO106; have HO_5 := n0_; have HB := n1_; clear n0_ n1_; clear hg hw hp_))
          (try simp only [← hl5_1])
          go_roundg k1
          case measure => have := HK1.out; omega
          case rel => exact ⟨(y107), (wrap64 (x11_1 + 1)), (by first | rfl | (simp; done) | (simp [*]; done)), H', ⟨by have := HK1.out; omega⟩, ⟨by (try simp only [hl5_1]); (with_reducible repeat (first | apply Kd.S_alloc | apply Kd.S_drewN | apply Kd.S_drew)); exact HO_5.out⟩, ⟨by repeat (first | (with_reducible first | exact HB.out | apply below_alloc | apply pw_below_drewN | apply below_drew1) | exact HB.out)⟩⟩
         ·rw [if_neg c12] at H
          exact absurd H (by simp)
        ·rw [if_neg c11] at H
         exact absurd H (by simp)
       ·rw [if_neg c10] at H
        exact absurd H (by simp)
      ·rw [if_neg c9] at H
       exact absurd H (by simp)
     ·rw [if_neg c8] at H
      have c8b0 : decide (x11_1 < (y101.length : Int)) = false := decide_eq_false c8
      (try simp only [hl5_1] at c8b0)
      clear c8
      obtain rfl := Option.some.inj H
      go_wp2
      go_ret
      exact ⟨_, by first | rfl | (simp [errW_none, errW_some] <;> rfl) | (simp [*, errW_none, errW_some] <;> rfl), by (with_reducible repeat (first | apply Kd.S_alloc | apply Kd.S_drewN | apply Kd.S_drew)); exact HO_5.out, by repeat (first | (with_reducible first | exact HB.out | apply below_alloc | apply pw_below_drewN | apply below_drew1) | exact HB.out)⟩
  ·rw [if_neg c4] at H
   exact absurd H (by simp)
 ·rw [if_neg c3] at H
  exact absurd H (by simp)
end Go.Proofs.YtnfgiamdmfkcjaaDoor.P
namespace Go.Proofs.YtnfgiamdmfkcjaaDoor.P
open Go.Proofs.YtnfgiamdmfkcjaaDoor.Leaf
open Go.RowKit Go.Proofs.YtnfgiamdmfkcjaaDoorW.PrintWords Go.Proofs.YtnfgiamdmfkcjaaDoorW.PrintLast Go.Proofs.YtnfgiamdmfkcjaaDoorW.PrintMore
attribute [local go_sem] max2_int min2_int max_two min_two max_three min_three max_four min_four   -- for this text's walks alone
set_option linter.unusedVariables false
set_option linter.unusedSimpArgs false
mutual
def matrix_Identity.j0 : Nat → Int → Bool → Option ((List (List Int)) × Int)
 | 0, _, _ => none
 | k + 1, x0, x11 => if x11 = true then (some (([] : List (List Int)), 1)) else ((matrix_zeros.f k x0 x0).bind fun t101 => (matrix_Identity.l0 k t101 (t101.length : Int) 0))
def matrix_Identity.l0 : Nat → List (List Int) → Int → Int → Option ((List (List Int)) × Int)
 | 0, _, _, _ => none
 | k + 1, x4, x16, x17 => if x17 < x16 then (if 0 ≤ x17 then (if x17 < (x4.length : Int) then (if x17 < ((rd_L1 x4 x17).length : Int) then (matrix_Identity.l0 k (x4.set (x17 : Int).toNat ((rd_L1 x4 x17).set (x17 : Int).toNat 1)) x16 (wrap64 (x17 + 1))) else (none)) else (none)) else (none)) else (some (x4, 0))
end
def matrix_Identity.f (k : Nat) (a0 : Int) : Option ((List (List Int)) × Int) := if a0 < 1 then (matrix_Identity.j0 k a0 true) else (matrix_Identity.j0 k a0 (decide (a0 > 255)))
theorem matrix_Identity.mono_l : ∀ k, (∀ y0 y1, LeO (matrix_Identity.j0 k y0 y1) (matrix_Identity.j0 (k + 1) y0 y1)) ∧ (∀ y0 y1 y2, LeO (matrix_Identity.l0 k y0 y1 y2) (matrix_Identity.l0 (k + 1) y0 y1 y2))
 | 0 => ⟨fun _ _ r h => by simp [matrix_Identity.j0] at h, fun _ _ _ r h => by simp [matrix_Identity.l0] at h⟩
 | k + 1 => by
  obtain ⟨ih0, ih1⟩ := matrix_Identity.mono_l k
  refine ⟨?_, ?_⟩
  ·intro y0 y1
   unfold matrix_Identity.j0
   repeat' first
   | (with_reducible exact ih0 _ _)
   | (with_reducible exact ih1 _ _ _)
   | (with_reducible exact matrix_zeros.mono _ _ _)
   | (with_reducible exact LeO.refl _)
   | (with_reducible exact LeO.none _)
   | (with_reducible refine LeO.ite ?_ ?_)
   | (with_reducible refine LeO.bind ?_ (fun _ => ?_))
   | exact ih0 _ _
   | exact ih1 _ _ _
   | exact matrix_zeros.mono _ _ _
   | exact LeO.none _
   | refine LeO.ite ?_ ?_
   | refine LeO.bind ?_ (fun _ => ?_)
  ·intro y0 y1 y2
   unfold matrix_Identity.l0
   repeat' first
   | (with_reducible exact ih0 _ _)
   | (with_reducible exact ih1 _ _ _)
   | (with_reducible exact matrix_zeros.mono _ _ _)
   | (with_reducible exact LeO.refl _)
   | (with_reducible exact LeO.none _)
   | (with_reducible refine LeO.ite ?_ ?_)
   | (with_reducible refine LeO.bind ?_ (fun _ => ?_))
   | exact ih0 _ _
   | exact ih1 _ _ _
   | exact matrix_zeros.mono _ _ _
   | exact LeO.none _
   | refine LeO.ite ?_ ?_
   | refine LeO.bind ?_ (fun _ => ?_)
theorem matrix_Identity.mono : ∀ a0 k, LeO (matrix_Identity.f k a0) (matrix_Identity.f (k + 1) a0) := by
 intro a0 k
 obtain ⟨ih0, ih1⟩ := matrix_Identity.mono_l k
 unfold matrix_Identity.f
 repeat' first
   | (with_reducible exact ih0 _ _)
   | (with_reducible exact ih1 _ _ _)
   | (with_reducible exact matrix_zeros.mono _ _ _)
   | (with_reducible exact LeO.refl _)
   | (with_reducible exact LeO.none _)
   | (with_reducible refine LeO.ite ?_ ?_)
   | (with_reducible refine LeO.bind ?_ (fun _ => ?_))
   | exact ih0 _ _
   | exact ih1 _ _ _
   | exact matrix_zeros.mono _ _ _
   | exact LeO.none _
   | refine LeO.ite ?_ ?_
   | refine LeO.bind ?_ (fun _ => ?_)
set_option maxHeartbeats 8000000 in
set_option maxRecDepth 100000 in
theorem matrix_Identity.calls (k : Nat) (a0 : Int) (r1 : List (List Int)) (r2 : Int) (w : World) (h : matrix_Identity.f k a0 = some (r1, r2)) :
  Calls Tryd.prog 63 #[.int .i64 a0] w fun e w' => ∃ v0_ : Value, e = .returned (.tuple #[v0_, .int .i64 r2]) ∧ Kd.S (Kd.slice 5 (Kd.int .u8)) 22 w' w.heap.size (fun _ => True) v0_ r1 ∧ Below w.heap.size w w' := by
 have HB := Aside0.mk (Below.refl w.heap.size w)
 have H : (if a0 < 1 then (matrix_Identity.j0 k a0 true) else (matrix_Identity.j0 k a0 (decide (a0 > 255)))) = some (r1, r2) := h
 clear h
 have HC2 := Aside0.mk H
 clear H
 go_enter Tryd.func63, Tryd.ntmps63
 go_upto_region 1 with (fail)
 go_cut [11] (fun v11 wc => ∃ (kq : Nat) (x11_1 : Bool), v11 = .bool x11_1 ∧ Aside0 (matrix_Identity.j0 kq a0 x11_1 = some (r1, r2)) ∧ Aside0 (kq ≤ k) ∧ Aside0 (Below w.heap.size w wc))
 case first =>
  have H := HC2.out
  clear HC2
  by_cases c3 : a0 < 1
  ·rw [if_pos c3] at H
   have c3b0 : decide (a0 < 1) = true := decide_eq_true c3
   clear c3
   (first | rw [c3b0] | (simp only [i64_w, i32_w]; rw [c3b0]) | skip)
   have H' := Aside0.mk H
   clear H
   go_wp2
   go_meet
   case rel => exact ⟨_, (true), (by first | rfl | (simp; done) | (simp [*]; done)), H', ⟨by first | omega | exact Nat.le_refl _⟩, ⟨by repeat (first | (with_reducible first | exact HB.out | apply below_alloc | apply pw_below_drewN | apply below_drew1) | exact HB.out)⟩⟩
  ·rw [if_neg c3] at H
   have c3b0 : decide (a0 < 1) = false := decide_eq_false c3
   clear c3
   (first | rw [c3b0] | (simp only [i64_w, i32_w]; rw [c3b0]) | skip)
   have H' := Aside0.mk H
   clear H
   go_wp2
   go_meet
   case rel => exact ⟨_, (decide (a0 > 255)), (by first | rfl | (simp; done) | (simp [*]; done)), H', ⟨by first | omega | exact Nat.le_refl _⟩, ⟨by repeat (first | (with_reducible first | exact HB.out | apply below_alloc | apply pw_below_drewN | apply below_drew1) | exact HB.out)⟩⟩
 case rest =>
  clear HC2
  try clear p2
  try clear c3
  try clear c3b0
  obtain ⟨kq, x11_1, rfl, HA, HJ1, HB⟩ := hcut
  cases kq with
  | zero => exact absurd HA.out (by simp [matrix_Identity.j0])
  | succ kj1 =>
   have H := HA.out
   clear HA
   simp only [matrix_Identity.j0] at H
   by_cases c4 : x11_1 = true
   ·subst c4
    have H1 : (some (([] : List (List Int)), 1)) = some (r1, r2) := by rw [if_pos rfl] at H; exact H
    clear H
    have H := H1
    clear H1
    simp only [Option.some.injEq, Prod.mk.injEq] at H
    obtain ⟨rfl, rfl⟩ := H
    go_wp2
    go_ret2
    exact ⟨_, by first | rfl | (simp [errW_none, errW_some] <;> rfl) | (simp [*, errW_none, errW_some] <;> rfl), by first | exact Kd.S_nil _ _ _ _ _ | exact Kd.N_nil _ _ _ _ _ | exact Kd.V_nil _ _ _ _ _ | exact Kd.Q_nil _ _ _ _ _ | exact Kd.R_nil _ _ _ _ _, by repeat (first | (with_reducible first | exact HB.out | apply below_alloc | apply pw_below_drewN | apply below_drew1) | exact HB.out)⟩
   ·replace c4 := Bool.eq_false_iff.mpr c4
    subst c4
    have H1 : ((matrix_zeros.f kj1 a0 a0).bind fun t101 => (matrix_Identity.l0 kj1 t101 (t101.length : Int) 0)) = some (r1, r2) := by rw [if_neg (show ¬ (false = true) by decide)] at H; exact H
    clear H
    have H := H1
    clear H1
    replace H := Option.bind_eq_some_iff.mp H
    obtain ⟨t101, A50, H⟩ := H
    replace H : (matrix_Identity.l0 kj1 t101 (t101.length : Int) 0) = some (r1, r2) := H
    have A5 := Aside0.mk A50
    clear A50
    have H' := Aside0.mk H
    clear H
    go_wp2_with (first | ((with_reducible refine gate_callee (f := 88) rfl ?_); refine goesL_ (some 14) rfl rfl Tryd.func88 (by kernel_rfl) rfl #[.int .i64 a0, .int .i64 a0] rfl (by (try simp only [List.map_toArray, List.map_cons, List.map_nil]); first | done | rfl | (simp only [List.length_drop, List.length_take]; rfl)) ?_; (with_reducible refine (matrix_zeros.calls kj1 a0 a0 t101 _ A5.out).mono ?_); rintro e w6 ⟨v102, rfl, ho0, hb⟩; refine ⟨_, rfl, ?_⟩; have n0_ := Aside0.mk (Kd.S_lower ho0 (below_size (by repeat (first | (with_reducible first | exact HB.out | apply below_alloc | apply pw_below_drewN | apply below_drew1) | exact HB.out)))); have n1_ := Aside0.mk (below_step (by repeat (first | (with_reducible first | exact HB.out | apply below_alloc | apply pw_below_drewN | apply below_drew1) | exact HB.out)) hb); clear HB; have HO103 := n0_; have HB := n1_; clear n0_ n1_; (try clear hb); (try clear hb2); (try clear hk); (try clear hi); (try clear ho0); obtain ⟨Ao7, co7, eo7⟩ := Kd.S_slice HO103.out; subst eo7))
    go_loopg [17] kj1 (fun kq v17 w' => ∃ (x4_2 : List (List Int)) (x17_2 : Int), v17 = .int .i64 x17_2 ∧ Aside0 (matrix_Identity.l0 kq x4_2 (t101.length : Int) x17_2 = some (r1, r2)) ∧ Aside0 (kq ≤ kj1) ∧ Aside0 (Kd.S (Kd.slice 5 (Kd.int .u8)) 22 w' w.heap.size (fun _ => True) (.slice Ao7 t101.length co7) x4_2) ∧ Aside0 (Below w.heap.size w w'))
    case atStart => exact ⟨(t101), (0), (by first | rfl | (simp; done) | (simp [*]; done)), H', ⟨Nat.le_refl _⟩, ⟨by (with_reducible repeat (first | apply Kd.S_alloc | apply Kd.S_drewN | apply Kd.S_drew)); exact HO103.out⟩, ⟨by repeat (first | (with_reducible first | exact HB.out | apply below_alloc | apply pw_below_drewN | apply below_drew1) | exact HB.out)⟩⟩
    case round =>
     clear H'
     try clear p2
     try clear c3
     try clear c3b0
     try clear c4
     try clear c6
     try clear p2
     obtain ⟨x4_2, x17_2, rfl, HA, HK2, HO_4, HB⟩ := hrel
     have hl4_2 := (Kd.S_reads' HO_4.out).1
     rw [hl4_2] at HO_4
     (try simp only [hl4_2])
     cases gk with
     | zero => exact absurd HA.out (by simp [matrix_Identity.l0])
     | succ k2 =>
      have H := HA.out
      clear HA
      simp only [matrix_Identity.l0] at H
      by_cases c8 : x17_2 < (t101.length : Int)
      ·rw [if_pos c8] at H
       have c8b0 : decide (x17_2 < (t101.length : Int)) = true := decide_eq_true c8
       (try simp only [hl4_2] at c8b0)
       clear c8
       by_cases c9 : 0 ≤ x17_2
       ·rw [if_pos c9] at H
        have c9b0 : decide (0 ≤ x17_2) = true := decide_eq_true c9
        (try simp only [hl4_2] at c9b0)
        clear c9
        by_cases c10 : x17_2 < (x4_2.length : Int)
        ·rw [if_pos c10] at H
         have c10b0 : decide (x17_2 < (x4_2.length : Int)) = true := decide_eq_true c10
         (try simp only [hl4_2] at c10b0)
         clear c10
         by_cases c11 : x17_2 < ((rd_L1 x4_2 x17_2).length : Int)
         ·rw [if_pos c11] at H
          have c11b0 : decide (x17_2 < ((rd_L1 x4_2 x17_2).length : Int)) = true := decide_eq_true c11
          (try simp only [hl4_2] at c11b0)
          clear c11
          obtain ⟨y105, hy105⟩ : ∃ y_ : List Int, y_ = ((rd_L1 x4_2 x17_2).set (x17_2 : Int).toNat 1) := ⟨_, rfl⟩
          replace H : (matrix_Identity.l0 k2 (x4_2.set (x17_2 : Int).toNat y105) (t101.length : Int) (wrap64 (x17_2 + 1))) = some (r1, r2) := by first | (rw [hy105]; with_reducible exact H) | (have H2_ := (Option.bind_some _ _).symm.trans H; rw [hy105]; with_reducible exact H2_) | (have H2_ := (Option.bind_some _ _).symm.trans H; with_reducible exact H2_) | with_reducible exact H | (rw [hy105]; exact H) | exact H
          have Ny105 := Aside0.mk hy105
          clear hy105
          obtain ⟨y107, hy107⟩ : ∃ y_ : List (List Int), y_ = (x4_2.set (x17_2 : Int).toNat y105) := ⟨_, rfl⟩
          replace H : (matrix_Identity.l0 k2 y107 (t101.length : Int) (wrap64 (x17_2 + 1))) = some (r1, r2) := by first | (rw [hy107]; with_reducible exact H) | (have H2_ := (Option.bind_some _ _).symm.trans H; rw [hy107]; with_reducible exact H2_) | (have H2_ := (Option.bind_some _ _).symm.trans H; with_reducible exact H2_) | with_reducible exact H | (rw [hy107]; exact H) | exact H
          have Ny107 := Aside0.mk hy107
          clear hy107
          have H' := Aside0.mk H
          clear H
          have p104 : 0 ≤ (x17_2 : Int) := of_decide_eq_true (by first | (with_reducible assumption) | assumption)
          have q104 : x17_2 < (x4_2.length : Int) := of_decide_eq_true (by first | (with_reducible assumption) | assumption)
          obtain ⟨ad104, A104_0, c104_0, e104, hx104_0, hl104_0, hi104_0⟩ := at_L1 (Kd.S_reads' HO_4.out).2.2 x17_2 p104 q104
          cases e104
          obtain ⟨ce104, hce104, hMe104, hcc104⟩ := Kd.S_get HO_4.out [] x17_2 p104 (by first | exact q104 | exact of_decide_eq_true (by first | (with_reducible assumption) | assumption) | (have e_ := (Kd.S_reads' HO_4.out).1; omega))
          obtain ⟨ve104_0, rfl, ge104_0⟩ := hMe104
          have hv104_0 := hcc104 0 _ rfl
          rw [Nat.add_zero, show ((Kd.slice 5 (Kd.int .u8))).sz = 1 from rfl, Nat.mul_one] at hv104_0
          replace hv104_0 := Option.some.inj (hv104_0.symm.trans hx104_0)
          rw [hv104_0] at ge104_0
          have HL104_0 := Aside0.mk (show Kd.R (Kd.int .u8) 5 _ _ _ _ (rd_L1 x4_2 x17_2) from ge104_0)
          clear hv104_0 ge104_0
          have HX104_0 := Aside0.mk hx104_0
          clear hcc104 hce104
          have HR104_0 := Aside0.mk hi104_0
          have HC104_0 := Aside0.mk hl104_0
          clear hi104_0 hl104_0
          replace p104 := eq_true p104
          replace q104 := eq_true q104
          have p12 : 0 ≤ (x17_2 : Int) := of_decide_eq_true (by first | (with_reducible assumption) | assumption)
          have q12 : (x17_2 : Int) < (((rd_L1 x4_2 x17_2).length : Int) : Int) := of_decide_eq_true (by first | (with_reducible assumption) | assumption)
          obtain ⟨go12, co12, eo12, gb12, gl12, cl12, HG12⟩ := Kd.R_form HL104_0.out (by omega)
          (first | cases eo12 | (injection eo12 with ea_ en_ ec_; (first | subst ea_ | (injection ea_ with ea_; subst ea_)); subst ec_; clear en_))
          have GB12 := Aside0.mk gb12
          have GG12 := Aside0.mk HG12
          clear gb12 gl12 HG12
          obtain ⟨hx12_0, hf12_0⟩ := Kd.R_celln 0 HL104_0.out (x17_2 : Int) p12 q12
          replace p12 := eq_true p12
          replace q12 := eq_true q12
          have hq13 : (x17_2 : Int) < (x4_2.length : Int) := (by have h_ : (x17_2 : Int) < ((x4_2.length : Int) : Int) := of_decide_eq_true (by first | (with_reducible assumption) | assumption); first | exact h_ | (have e_ := (Kd.S_reads' HO_4.out).1; omega) | simpa only [List.length_set, List.length_set] using h_)
          obtain ⟨oki13, ce13, hcl13, hM13, hcc13, hok13, hbk13⟩ := Kd.S_borrow HO_4.out [] (x17_2 : Int) (of_decide_eq_true (by first | (with_reducible assumption) | assumption)) hq13
          obtain ⟨ve13_0, rfl, ge13_0⟩ := hM13
          have hv13 := hcc13 0 _ rfl
          rw [Nat.add_zero, show ((Kd.slice 5 (Kd.int .u8))).sz = 1 from rfl, Nat.mul_one] at hv13
          replace hv13 := Option.some.inj (hv13.symm.trans HX104_0.out)
          subst hv13
          clear hcc13 hcl13
          replace ge13_0 := (show Kd.R (Kd.int .u8) 5 _ _ _ _ (rd_L1 x4_2 x17_2) from ge13_0)
          have HP13 := Kd.R_putg ge13_0 (x17_2 : Int) 1
          go_wp2_with (first | ((with_reducible refine gate_store (t := 5) (p := 25) rfl ?_); refine store_event (t := 5) (p := 25) (v := ?vo_w14) (w1 := (wr.setCell ⟨go12, (x17_2 : Int).toNat, none⟩ (.int .u8 1))) ?hg ?ho ?hn ?hr ?_; (case ho => rfl); (case hg => rfl); (case hn => rfl); (case hr => first | (go_simp; done) | (go_simp; rfl)); intro w14 hw; have hg : wr.grownBy w14 (some go12) := (by rw [hw]; exact HP13.2); have hz_ : Kd.R (Kd.int .u8) 5 w14 w.heap.size oki13 (.slice (some ⟨go12, 0, none⟩) (rd_L1 x4_2 x17_2).length c104_0) y105 := (by rw [hw, Ny105.out]; exact HP13.1); have hp_ : Kd.S (Kd.slice 5 (Kd.int .u8)) 22 w14 w.heap.size (fun _ => True) (.slice (some ad104) x4_2.length co7) y107 := (by rw [Ny107.out]; exact hbk13 hg (fun k_ e_ => by injection e_ with e_; subst e_; exact ge13_0.1 _ rfl) (Kd.M_row hz_)); have hm_ := Kd.R_mono hz_ hok13; clear HP13 hbk13; have n0_ := Aside0.mk (hp_); have n1_ := Aside0.mk ((by rw [hw]; exact below_set (HB.out) GB12.out : Below w.heap.size w w14)); have n2_ := Aside0.mk (hm_); have n3_ := Aside0.mk ((Kd.R_reads' hm_).2.1); clear HO_4; clear HB; clear HL104_0; have HO_4 := n0_; have HB := n1_; have HL108 := n2_; have HC106 := n3_; clear n0_ n1_ n2_ n3_; clear hg hw hp_ hz_ hm_ hok13))
          (try simp only [← hl4_2])
          go_roundg k2
          case measure => have := HJ1.out; have := HK2.out; omega
          case rel => exact ⟨(y107), (wrap64 (x17_2 + 1)), (by first | rfl | (simp; done) | (simp [*]; done)), H', ⟨by have := HJ1.out; have := HK2.out; omega⟩, ⟨by (try simp only [hl4_2]); (with_reducible repeat (first | apply Kd.S_alloc | apply Kd.S_drewN | apply Kd.S_drew)); exact HO_4.out⟩, ⟨by repeat (first | (with_reducible first | exact HB.out | apply below_alloc | apply pw_below_drewN | apply below_drew1) | exact HB.out)⟩⟩
         ·rw [if_neg c11] at H
          exact absurd H (by simp)
        ·rw [if_neg c10] at H
         exact absurd H (by simp)
       ·rw [if_neg c9] at H
        exact absurd H (by simp)
      ·rw [if_neg c8] at H
       have c8b0 : decide (x17_2 < (t101.length : Int)) = false := decide_eq_false c8
       (try simp only [hl4_2] at c8b0)
       clear c8
       simp only [Option.some.injEq, Prod.mk.injEq] at H
       obtain ⟨rfl, rfl⟩ := H
       go_wp2
       go_ret2
       exact ⟨_, by first | rfl | (simp [errW_none, errW_some] <;> rfl) | (simp [*, errW_none, errW_some] <;> rfl), by (with_reducible repeat (first | apply Kd.S_alloc | apply Kd.S_drewN | apply Kd.S_drew)); exact HO_4.out, by repeat (first | (with_reducible first | exact HB.out | apply below_alloc | apply pw_below_drewN | apply below_drew1) | exact HB.out)⟩
end Go.Proofs.YtnfgiamdmfkcjaaDoor.P
namespace Go.Proofs.YtnfgiamdmfkcjaaDoor.Red
open Go.RowKit Go.Proofs.YtnfgiamdmfkcjaaDoorW.PrintWords Go.Proofs.YtnfgiamdmfkcjaaDoor.Leaf Go.Proofs.YtnfgiamdmfkcjaaDoor.Gf Go.Proofs.YtnfgiamdmfkcjaaDoor.H Go.Proofs.YtnfgiamdmfkcjaaDoor.Mx Go.Proofs.YtnfgiamdmfkcjaaDoor.P
set_option linter.unusedVariables false
set_option linter.unusedSimpArgs false
def oM (A : Mat) : List (List Int) := A.map ofL
theorem oM_length (A : Mat) : (oM A).length = A.length := List.length_map _
theorem rd_oM (A : Mat) (i : Nat) : rd_L1 (oM A) (i : Int) = ofL (row A i) := map_getD A i
theorem rd_oM0 (A : Mat) : rd_L1 (oM A) 0 = ofL (row A 0) := map_getD A 0
theorem oM_set (A : Mat) (i : Nat) (r : List B) : (oM A).set i (ofL r) = oM (A.set i r) := map_set A i r
theorem oM_append (A C : Mat) : oM A ++ oM C = oM (A ++ C) := by unfold oM; rw [List.map_append]
theorem oM_one (r : List B) : [ofL r] = oM [r] := rfl
def zeroM (n m : Nat) : Mat := List.replicate n (List.replicate m 0#8)
theorem zeroM_reg (n m : Nat) : Reg (zeroM n m) n m := by
  refine ⟨List.length_replicate .., fun i hi => ?_⟩
  unfold row zeroM
  rw [List.getD_eq_getElem?_getD, List.getElem?_replicate, if_pos hi]
  simp
theorem el_zeroM {n m i j : Nat} (hi : i < n) (hj : j < m) : el (zeroM n m) i j = 0#8 := by
  unfold el row zeroM at0
  rw [List.getD_eq_getElem?_getD (l := List.replicate n _), List.getElem?_replicate, if_pos hi]
  rw [Option.getD_some, List.getD_eq_getElem?_getD, List.getElem?_replicate, if_pos hj]
  rfl
theorem zeros_l0 (n m : Nat) (hm : m ≤ 281474976710656) (hn : n < 2 ^ 62) (d : Nat) : ∀ (i : Nat) (X : List (List Int)), i + d = n → X.length = n → (∀ j, j < i → X.getD j [] = List.replicate m 0) → Ev (fun k => matrix_zeros.l0 k (m : Int) X (n : Int) (i : Int)) (List.replicate n (List.replicate m 0)) := by
  induction d with
  | zero =>
    intro i X hi hl h
    refine Ev.step (f := fun _ => some X) (fun k => ?_) ?_
    · simp only [matrix_zeros.l0]
      rw [if_neg (by omega)]
    · rw [show List.replicate n (List.replicate m (0 : Int)) = X from List.ext_getElem (by rw [List.length_replicate, hl]) fun j h1 h2 => by
        have h3 := h j (by omega)
        rw [List.getD_eq_getElem?_getD, List.getElem?_eq_getElem h2] at h3
        rw [List.getElem_replicate]
        exact h3.symm]
      exact Ev.now _
  | succ d ih =>
    intro i X hi hl h
    refine Ev.step (f := fun k => matrix_zeros.l0 k (m : Int) (X.set i (List.replicate m 0)) (n : Int) ((i + 1 : Nat) : Int)) (fun k => ?_) (ih (i + 1) _ (by omega) (by rw [List.length_set]; exact hl) (fun j hj => ?_))
    · simp only [matrix_zeros.l0, hl, Int.toNat_natCast]
      rw [if_pos (by omega), if_pos (by omega), if_pos hm, if_pos (by omega), if_pos (by omega), w64 _ (by omega) (by omega)]
      rfl
    · simp only [List.getD_eq_getElem?_getD, List.getElem?_set]
      by_cases e : i = j
      · subst e; rw [if_pos rfl, if_pos (by omega)]; rfl
      · rw [if_neg e]
        have := h j (by omega)
        rwa [List.getD_eq_getElem?_getD] at this
theorem evZeros (n m : Nat) (hm : m ≤ 281474976710656) (hn : n ≤ 11728124029610) : Ev (fun k => matrix_zeros.f k (n : Int) (m : Int)) (oM (zeroM n m)) := by
  unfold matrix_zeros.f
  simp only [show ((0 : Int) ≤ (n : Int)) = True from eq_true (by omega), if_true, Int.toNat_natCast, show (n ≤ 11728124029610) = True from eq_true hn, Option.bind_some, List.length_replicate]
  have e : oM (zeroM n m) = List.replicate n (List.replicate m 0) := by unfold oM zeroM; rw [List.map_replicate, ofL_replicate]
  rw [e]
  exact zeros_l0 n m hm (by omega) n 0 _ (by omega) (List.length_replicate ..) (fun j hj => by omega)
theorem set_one (r : List B) (i : Nat) : (ofL r).set i 1 = ofL (r.set i 1#8) := by rw [← ofB_one, ofL_set]
/-- The identity's rows, the first i of them done. -/
theorem id_l0 (n : Nat) (hn : n ≤ 255) (d : Nat) : ∀ i : Nat, i + d = n → Ev (fun k => matrix_Identity.l0 k (oM (matF n n (fun a b => if a < i then I a b else 0#8))) (n : Int) (i : Int)) (oM (idM n), 0) := by
  induction d with
  | zero =>
    intro i hi
    refine Ev.step (f := fun _ => some (oM (idM n), 0)) (fun k => ?_) (Ev.now _)
    simp only [matrix_Identity.l0]
    rw [if_neg (by omega), idM_eq, mat_ext (matF_reg n n _) (matF_reg n n I) (fun a b ha hb => by rw [el_matF _ ha hb, el_matF _ ha hb, if_pos (by omega)])]
  | succ d ih =>
    intro i hi
    have hr := (matF_reg n n (fun a b => if a < i then I a b else 0#8))
    have e : (matF n n (fun a b => if a < i then I a b else 0#8)).set i ((row (matF n n (fun a b => if a < i then I a b else 0#8)) i).set i 1#8) = matF n n (fun a b => if a < i + 1 then I a b else 0#8) := by
      refine mat_ext (hr.set (by omega) (by rw [List.length_set]; exact hr.2 i (by omega))) (matF_reg n n _) (fun a b ha hb => ?_)
      unfold el
      rw [row_set _ _ _ _ (by rw [hr.1]; omega)]
      show _ = el (matF n n _) a b
      rw [el_matF _ ha hb]
      by_cases e : a = i
      · subst e
        rw [if_pos rfl, at0_set _ _ _ _ (by rw [hr.2 a ha]; exact ha)]
        by_cases e2 : a = b
        · rw [if_pos e2, if_pos (by omega)]; unfold I; rw [if_pos e2]
        · rw [if_neg e2]
          show el (matF n n _) a b = _
          rw [el_matF _ ha hb, if_neg (by omega), if_pos (by omega)]
          unfold I; rw [if_neg e2]
      · rw [if_neg e]
        show el (matF n n _) a b = _
        rw [el_matF _ ha hb]
        by_cases e2 : a < i
        · rw [if_pos e2, if_pos (by omega)]
        · rw [if_neg e2, if_neg (by omega)]
    refine Ev.step (f := fun k => matrix_Identity.l0 k (oM (matF n n (fun a b => if a < i + 1 then I a b else 0#8))) (n : Int) ((i + 1 : Nat) : Int)) (fun k => ?_) (ih (i + 1) (by omega))
    simp only [matrix_Identity.l0, oM_length, rd_oM, ofL_length, hr.1, hr.2 i (by omega), Int.toNat_natCast]
    rw [if_pos (by omega), if_pos (by omega), if_pos (by omega), if_pos (by omega), set_one, oM_set, e, w64 _ (by omega) (by omega)]
    rfl
def idR (n : Int) : List (List Int) × Int := if 1 ≤ n ∧ n ≤ 255 then (oM (idM n.toNat), 0) else ([], 1)
theorem evIdentity (n : Int) : Ev (fun k => matrix_Identity.f k n) (idR n) := by
  unfold matrix_Identity.f idR
  have j1 : Ev (fun k => matrix_Identity.j0 k n true) ([], 1) := Ev.step (f := fun _ => some ([], 1)) (fun k => by simp only [matrix_Identity.j0, if_true]) (Ev.now _)
  by_cases h1 : n < 1
  · simp only [show (n < 1) = True from eq_true h1, if_true]
    rw [if_neg (by omega)]
    exact j1
  · simp only [show (n < 1) = False from eq_false h1, if_false]
    by_cases h2 : n > 255
    · simp only [show decide (n > 255) = true from decide_eq_true h2]
      rw [if_neg (by omega)]
      exact j1
    · simp only [show decide (n > 255) = false from decide_eq_false h2]
      rw [if_pos (by omega)]
      obtain ⟨m, rfl⟩ := Int.eq_ofNat_of_zero_le (show 0 ≤ n by omega)
      rw [Int.toNat_natCast]
      have hz : zeroM m m = matF m m (fun a b => if a < 0 then I a b else 0#8) := mat_ext (zeroM_reg m m) (matF_reg m m _) fun a b ha hb => by rw [el_zeroM ha hb, el_matF _ ha hb, if_neg (by omega)]
      refine Ev.step (f := fun k => (matrix_zeros.f k (m : Int) (m : Int)).bind fun t101 => matrix_Identity.l0 k t101 (t101.length : Int) 0) (fun k => by simp only [matrix_Identity.j0, Bool.false_eq_true, if_false]) ?_
      refine Ev.bind (evZeros m m (by omega) (by omega)) ?_
      rw [oM_length, (zeroM_reg m m).1, hz]
      exact id_l0 m (by omega) m 0 (by omega)
theorem refId_l0 (n : Nat) (hn : n ≤ 281474976710656) (hn2 : n < 5864062014805) (d : Nat) : ∀ i : Nat, i + d = n → Ev (fun k => mooringref02_Identity.l0 k (n : Int) (oM (matF i n I)) (i : Int)) (oM (idM n)) := by
  induction d with
  | zero =>
    intro i hi
    obtain rfl : i = n := by omega
    refine Ev.step (f := fun _ => some (oM (matF i i I))) (fun k => ?_) (Ev.now _)
    simp only [mooringref02_Identity.l0]
    rw [if_neg (by omega)]
  | succ d ih =>
    intro i hi
    refine Ev.step (f := fun k => mooringref02_Identity.l0 k (n : Int) (oM (matF (i + 1) n I)) ((i + 1 : Nat) : Int)) (fun k => ?_) (ih (i + 1) (by omega))
    simp only [mooringref02_Identity.l0, Int.toNat_natCast, Option.bind_some, List.length_replicate, oM_length, (matF_reg i n I).1]
    have e : (List.replicate n (0 : Int)).set i 1 = ofL ((List.range n).map (I i)) := by
      rw [ofL_replicate, ← ofB_one, ofL_set]
      congr 1
      refine ext0 (by simp) fun j hj => ?_
      simp only [List.length_set, List.length_replicate] at hj
      rw [at0_set _ _ _ _ (by rw [List.length_replicate]; omega), at0_map _ _ _ hj]
      unfold I
      by_cases e : i = j
      · rw [if_pos e, if_pos e]
      · rw [if_neg e, if_neg e]
        unfold at0
        simp [List.getD_eq_getElem?_getD, hj]
    rw [if_pos (by omega), if_pos (by omega), if_pos hn, if_pos (by omega), if_pos (by omega), if_pos (by omega), e, oM_one, oM_append, w64 _ (by omega) (by omega)]
    have e2 : matF i n I ++ [(List.range n).map (I i)] = matF (i + 1) n I := by unfold matF; rw [List.range_succ, List.map_append]; rfl
    rw [e2]
    rfl
theorem evRefIdentity (n : Nat) (hn : n < 5864062014805) : Ev (fun k => mooringref02_Identity.f k (n : Int)) (oM (idM n)) := by
  unfold mooringref02_Identity.f
  exact refId_l0 n (by omega) hn n 0 (by omega)
theorem uneven {A : Mat} (h : ¬ ∀ j, j < A.length → (row A j).length = (row A 0).length) : ∃ j, j < A.length ∧ (row A j).length ≠ (row A 0).length := by
  apply Classical.byContradiction
  intro hn
  exact h fun j hj => Classical.byContradiction fun he => hn ⟨j, hj, he⟩
end Go.Proofs.YtnfgiamdmfkcjaaDoor.Red
namespace Go.Proofs.YtnfgiamdmfkcjaaDoor.Red
open Go.RowKit Go.Proofs.YtnfgiamdmfkcjaaDoorW.PrintWords Go.Proofs.YtnfgiamdmfkcjaaDoor.Leaf Go.Proofs.YtnfgiamdmfkcjaaDoor.Gf Go.Proofs.YtnfgiamdmfkcjaaDoor.H Go.Proofs.YtnfgiamdmfkcjaaDoor.Mx Go.Proofs.YtnfgiamdmfkcjaaDoor.P
set_option linter.unusedVariables false
set_option linter.unusedSimpArgs false
/-- The product. -/
def mulM (A C : Mat) : Mat := matF A.length (row C 0).length (mm C.length (el A) (el C))
theorem mulM_reg {A C : Mat} {n m p : Nat} (hA : Reg A n m) (hC : Reg C m p) (hm : 0 < m) : Reg (mulM A C) n p := by
  unfold mulM
  rw [hA.1, hC.2 0 hm]
  exact matF_reg n p _
theorem el_mulM {A C : Mat} {n m p : Nat} (hA : Reg A n m) (hC : Reg C m p) (hm : 0 < m) {i j : Nat} (hi : i < n) (hj : j < p) : el (mulM A C) i j = mm m (el A) (el C) i j := by
  unfold mulM
  rw [hA.1, hC.1, hC.2 0 hm, el_matF _ hi hj]
theorem mulM_assoc {A C D : Mat} {n m p q : Nat} (hA : Reg A n m) (hC : Reg C m p) (hD : Reg D p q) (hm : 0 < m) (hp : 0 < p) : mulM (mulM A C) D = mulM A (mulM C D) := by
  refine mat_ext (mulM_reg (mulM_reg hA hC hm) hD hp) (mulM_reg hA (mulM_reg hC hD hp) hm) fun i j hi hj => ?_
  rw [el_mulM (mulM_reg hA hC hm) hD hp hi hj, el_mulM hA (mulM_reg hC hD hp) hm hi hj]
  refine (mm_congr (fun k hk => el_mulM hA hC hm hi hk) (fun _ _ => rfl)).trans ?_
  rw [mm_assoc]
  exact mm_congr (fun _ _ => rfl) (fun k hk => (el_mulM hC hD hp hk hj).symm)
theorem mulM_id {A : Mat} {n m : Nat} (hA : Reg A n m) (hn : 0 < n) : mulM (idM n) A = A := by
  refine mat_ext (mulM_reg (matF_reg n n I) hA hn) hA fun i j hi hj => ?_
  rw [idM_eq, el_mulM (matF_reg n n I) hA hn hi hj]
  refine (mm_congr (fun k hk => el_matF I hi hk) (fun _ _ => rfl)).trans ?_
  exact mm_IL _ _ hi
end Go.Proofs.YtnfgiamdmfkcjaaDoor.Red
