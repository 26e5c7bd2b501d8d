/- Words and walks that the claim RebuildChunks leans on (what it does not use is left out). -/
import Derived.Test.YtnfgiamdmfkcjaaDoorMRebuildChunks1
set_option linter.unusedSimpArgs false
set_option linter.unusedVariables false
namespace Go.Proofs.YtnfgiamdmfkcjaaDoor.Gf
open Go.RowKit Go.Proofs.YtnfgiamdmfkcjaaDoorW.PrintWords Go.Proofs.YtnfgiamdmfkcjaaDoor.Leaf Go.Proofs.YtnfgiamdmfkcjaaDoor.P
theorem w64 (n : Int) (h0 : -9223372036854775808 ≤ n) (h1 : n ≤ 9223372036854775807) : wrap64 n = n := by unfold wrap64; omega
theorem xt_int : ∀ x : B, (if 2 * x.toNat ≥ 256 then (2 * x.toNat) ^^^ 285 else 2 * x.toNat) = (xt x).toNat := forall_B (by decide +kernel)
theorem refMul_l0 (n : Nat) : ∀ (i : Nat) (x out : B) (y : Nat), i + n = 8 → y < 256 → Ev (fun k => wMu_.l0 k (ofB x) (y : Int) (ofB out) (i : Int)) (ofB (out ^^^ M n x y)) := by
  induction n with
  | zero =>
    intro i x out y hi hy
    refine Ev.step (f := fun _ => some (ofB out % 256)) (fun k => ?_) ?_
    · simp only [wMu_.l0]
      rw [if_neg (by omega)]
    · have := ofB_range out
      rw [Int.emod_eq_of_lt this.1 this.2]
      simp only [M, BitVec.xor_zero]
      exact Ev.now _
  | succ n ih =>
    intro i x out y hi hy
    have hx := ofB_range x
    have hx2 : wrap64 (ofB x * 2) = ((2 * x.toNat : Nat) : Int) := by
      have : ofB x * 2 = ((2 * x.toNat : Nat) : Int) := by unfold ofB; omega
      rw [this, w64 _ (by omega) (by have := x.isLt; omega)]
    have ht : Int.tmod (y : Int) 2 = ((y % 2 : Nat) : Int) := by rw [Int.tmod_eq_emod_of_nonneg (by omega)]; omega
    have hd : wrap64 (Int.tdiv (y : Int) 2) = ((y / 2 : Nat) : Int) := by
      rw [Int.tdiv_eq_ediv_of_nonneg (by omega), w64 _ (by omega) (by omega)]; omega
    have hi1 : wrap64 ((i : Int) + 1) = ((i + 1 : Nat) : Int) := by rw [w64 _ (by omega) (by omega)]; omega
    have hxt := xt_int x
    have hX : (if ((2 * x.toNat : Nat) : Int) ≥ 256 then Go.bits .xor .i64 ((2 * x.toNat : Nat) : Int) 285 else ((2 * x.toNat : Nat) : Int)) = ofB (xt x) := by
      unfold ofB
      rw [← hxt]
      by_cases hc : 2 * x.toNat ≥ 256
      · rw [if_pos hc, if_pos (by omega)]
        exact xor_i64_nat _ 285 (by have := x.isLt; omega) (by decide)
      · rw [if_neg hc, if_neg (by omega)]
    have ho : Go.bits .xor .i64 (ofB out) (ofB x) = ofB (out ^^^ x) := xor_i64_ofB _ _
    have hlt : (i : Int) < 8 := by omega
    by_cases hy1 : y % 2 = 1
    · refine Ev.step (f := fun k => wMu_.l0 k (ofB (xt x)) ((y / 2 : Nat) : Int) (ofB (out ^^^ x)) ((i + 1 : Nat) : Int)) (fun k => ?_) ?_
      · simp only [wMu_.l0]
        rw [if_pos hlt, ht, if_pos (by omega), hx2, hd, ho, hi1, ← hX]
        split <;> rfl
      · have := ih (i + 1) (xt x) (out ^^^ x) (y / 2) (by omega) (by omega)
        simp only [M, if_pos hy1]
        rw [← BitVec.xor_assoc]
        exact this
    · refine Ev.step (f := fun k => wMu_.l0 k (ofB (xt x)) ((y / 2 : Nat) : Int) (ofB out) ((i + 1 : Nat) : Int)) (fun k => ?_) ?_
      · simp only [wMu_.l0]
        rw [if_pos hlt, ht, if_neg (by omega), hx2, hd, hi1, ← hX]
        split <;> rfl
      · have := ih (i + 1) (xt x) out (y / 2) (by omega) (by omega)
        simp only [M, if_neg hy1, BitVec.zero_xor]
        exact this
theorem refMul (a b : B) : Ev (fun k => wMu_.f k (ofB a) (ofB b)) (ofB (mul a b)) := by
  have ha := ofB_range a
  have hb := ofB_range b
  refine Ev.congr (f := fun k => wMu_.l0 k (ofB a) ((b.toNat : Nat) : Int) (ofB 0#8) ((0 : Nat) : Int)) (fun k => ?_) ?_
  · unfold wMu_.f
    rw [w64 _ (by omega) (by omega), w64 _ (by omega) (by omega)]
    rfl
  · have := refMul_l0 8 0 a 0#8 b.toNat rfl b.isLt
    rw [BitVec.zero_xor] at this
    exact this
theorem refInv_l0 (a : B) (n : Nat) : ∀ i : Nat, i + n = 256 → (∀ j, j < i → mul a (BitVec.ofNat 8 j) ≠ 1#8) → Ev (fun k => mooringref01_Inv.l0 k (ofB a) (i : Int)) (ofB (inv a), decide (a ≠ 0#8)) := by
  induction n with
  | zero =>
    intro i hi hn
    have ha : a = 0#8 := by
      apply Classical.byContradiction
      intro ha
      have := hn (inv a).toNat (by have := (inv a).isLt; omega)
      rw [BitVec.ofNat_toNat, BitVec.setWidth_eq] at this
      exact this (mul_inv a ha)
    refine Ev.step (f := fun _ => some (0, false)) (fun k => ?_) ?_
    · simp only [mooringref01_Inv.l0]
      rw [if_neg (by omega)]
    · subst ha
      exact Ev.now _
  | succ n ih =>
    intro i hi hn
    have hb : ((i : Int) % 256) = ofB (BitVec.ofNat 8 i) := by
      unfold ofB
      rw [BitVec.toNat_ofNat]
      omega
    refine Ev.step (f := fun k => (wMu_.f k (ofB a) (ofB (BitVec.ofNat 8 i))).bind fun t => if t = 1 then some (ofB (BitVec.ofNat 8 i), true) else mooringref01_Inv.l0 k (ofB a) ((i + 1 : Nat) : Int)) (fun k => ?_) ?_
    · simp only [mooringref01_Inv.l0]
      rw [if_pos (by omega), hb, w64 _ (by omega) (by omega)]
      rfl
    · refine Ev.bind (refMul a _) ?_
      by_cases h1 : mul a (BitVec.ofNat 8 i) = 1#8
      · obtain ⟨ha, hi'⟩ := mul_eq_one _ _ h1
        refine Ev.congr (f := fun _ => some (ofB (BitVec.ofNat 8 i), true)) (fun k => ?_) ?_
        · rw [if_pos (by rw [h1]; rfl)]
        · rw [hi', decide_eq_true ha]
          exact Ev.now _
      · refine Ev.congr (f := fun k => mooringref01_Inv.l0 k (ofB a) ((i + 1 : Nat) : Int)) (fun k => ?_) ?_
        · rw [if_neg]
          rw [← ofB_one, ofB_eq_iff]
          exact h1
        · refine ih (i + 1) (by omega) (fun j hj => ?_)
          by_cases e : j = i
          · rw [e]; exact h1
          · exact hn j (by omega)
theorem refInv (a : B) : Ev (fun k => mooringref01_Inv.f k (ofB a)) (ofB (inv a), decide (a ≠ 0#8)) := by
  refine Ev.congr (f := fun k => mooringref01_Inv.l0 k (ofB a) ((1 : Nat) : Int)) (fun k => rfl) ?_
  refine refInv_l0 a 255 1 rfl (fun j hj => ?_)
  have : j = 0 := by omega
  subst this
  rw [show BitVec.ofNat 8 0 = 0#8 from rfl, mul_zero]
  decide
end Go.Proofs.YtnfgiamdmfkcjaaDoor.Gf
namespace Go.Proofs.YtnfgiamdmfkcjaaDoor.P
open Go.Proofs.YtnfgiamdmfkcjaaDoor.Leaf
open Go.RowKit Go.Proofs.YtnfgiamdmfkcjaaDoorW.PrintWords Go.Proofs.YtnfgiamdmfkcjaaDoorW.PrintLast Go.Proofs.YtnfgiamdmfkcjaaDoorW.PrintMore
attribute [local go_sem] max2_int min2_int max_two min_two max_three min_three max_four min_four
def gf_AddMul.l0 : Nat → List Int → List Int → Int → List Int → Int → Int → Option (List Int × Bool)
 | 0, _, _, _, _, _, _ => none
 | k + 1, x0, x1, x2, x8, x19, x20 => if x20 < x19 then (if 0 ≤ x20 then (if x20 < (x0.length : Int) then (if x20 < (x1.length : Int) then ((gf_Mul.f (rd x1 x20) x2).bind fun t106 => (if x20 < (x8.length : Int) then (gf_AddMul.l0 k x0 x1 x2 (x8.set (x20 : Int).toNat (Go.bits .xor .u8 (rd x0 x20) t106)) x19 (wrap64 (x20 + 1))) else (none))) else (none)) else (none)) else (none)) else (some (x8, true))
def gf_AddMul.f (k : Nat) (l0 : List Int) (l1 : List Int) (a2 : Int) : Option (List Int × Bool) := if (l0.length : Int) = (l1.length : Int) then (if 0 ≤ (l0.length : Int) then (if ((l0.length : Int) : Int).toNat ≤ 281474976710656 then ((some (List.replicate ((l0.length : Int) : Int).toNat 0 : List Int)).bind fun y101 => (gf_AddMul.l0 k l0 l1 a2 y101 (y101.length : Int) 0)) else (none)) else (none)) else (some (([] : List Int), false))
theorem gf_AddMul.mono_l : ∀ k, (∀ y0 y1 y2 y3 y4 y5, LeO (gf_AddMul.l0 k y0 y1 y2 y3 y4 y5) (gf_AddMul.l0 (k + 1) y0 y1 y2 y3 y4 y5))
 | 0 => fun _ _ _ _ _ _ r h => by simp [gf_AddMul.l0] at h
 | k + 1 => by
  have ih0 := gf_AddMul.mono_l k
  ·intro y0 y1 y2 y3 y4 y5
   unfold gf_AddMul.l0
   repeat' first
   | (with_reducible exact ih0 _ _ _ _ _ _)
   | (with_reducible exact LeO.refl _)
   | (with_reducible exact LeO.none _)
   | (with_reducible refine LeO.ite ?_ ?_)
   | (with_reducible refine LeO.bind ?_ (fun _ => ?_))
   | exact ih0 _ _ _ _ _ _
   | exact LeO.none _
   | refine LeO.ite ?_ ?_
   | refine LeO.bind ?_ (fun _ => ?_)
theorem gf_AddMul.mono : ∀ a0 a1 a2 k, LeO (gf_AddMul.f k a0 a1 a2) (gf_AddMul.f (k + 1) a0 a1 a2) := by
 intro a0 a1 a2 k
 have ih0 := gf_AddMul.mono_l k
 unfold gf_AddMul.f
 repeat' first
  | (with_reducible exact ih0 _ _ _ _ _ _)
  | (with_reducible exact LeO.refl _)
  | (with_reducible exact LeO.none _)
  | (with_reducible refine LeO.ite ?_ ?_)
  | (with_reducible refine LeO.bind ?_ (fun _ => ?_))
  | exact ih0 _ _ _ _ _ _
  | exact LeO.none _
  | refine LeO.ite ?_ ?_
  | refine LeO.bind ?_ (fun _ => ?_)
def gf_AddMul.T7 : Bool × List (List Nat × List Nat) := (true, [([], []), ([], []), ([], []), ([], []), ([2, 3], [2, 3]), ([4], [4]), ([], []), ([], []), ([6, 7], [6, 7]), ([8], [8]), ([], []), ([9, 10], [9, 10]), ([5, 11], [5, 11]), ([0, 1, 0, 1, 2, 3, 4, 5, 6, 7, 8, 9, 10, 11, 12], [0, 1]), ([13, 12, 11, 0, 1, 2, 3, 4, 5, 6, 7, 8, 9, 10, 11, 12], [12, 13])])
def gf_AddMul.B7 : List Nat := [0, 0, 0, 0, 12, 28, 0, 0, 192, 448, 0, 1984, 4092, 8191, 16383]
theorem gf_AddMul.tab7 : rtab .any (opsOf Tryd.f71 7) = gf_AddMul.T7 := by kernel_rfl
theorem gf_AddMul.bits7 : waitsOk gf_AddMul.T7.2 gf_AddMul.B7 = true := by kernel_rfl
set_option maxHeartbeats 8000000 in
set_option maxRecDepth 100000 in
theorem gf_AddMul.calls (k : Nat) (A0 : Option Addr) (c0 : Nat) (l0 : List Int) (A1 : Option Addr) (c1 : Nat) (l1 : List Int) (a2 : Int) (r1 : List Int) (r2 : Bool) (w : World) (hr0 : Kd.C (Kd.int .u8) w A0 l0.length l0) (hc0 : l0.length ≤ c0) (hr1 : Kd.C (Kd.int .u8) w A1 l1.length l1) (hc1 : l1.length ≤ c1) (h : gf_AddMul.f k l0 l1 a2 = some (r1, r2)) :
 Calls Tryd.prog 71 #[.slice A0 l0.length c0, .slice A1 l1.length c1, .int .u8 a2] w fun e w' => ∃ v0_ : Value, e = .returned (.tuple #[v0_, .bool r2]) ∧ Kd.R (Kd.int .u8) 5 w' w.heap.size (fun _ => True) v0_ r1 ∧ Below w.heap.size w w' := by
 have HR0 := Aside0.mk hr0
 have HC0 := Aside0.mk hc0
 clear hr0 hc0
 have HR1 := Aside0.mk hr1
 have HC1 := Aside0.mk hc1
 clear hr1 hc1
 have HB := Aside0.mk (Below.refl w.heap.size w)
 have H : (if (l0.length : Int) = (l1.length : Int) then (if 0 ≤ (l0.length : Int) then (if ((l0.length : Int) : Int).toNat ≤ 281474976710656 then ((some (List.replicate ((l0.length : Int) : Int).toNat 0 : List Int)).bind fun y101 => (gf_AddMul.l0 k l0 l1 a2 y101 (y101.length : Int) 0)) else (none)) else (none)) else (some (([] : List Int), false))) = some (r1, r2) := h
 clear h
 by_cases c4 : (l0.length : Int) = (l1.length : Int)
 ·rw [if_pos c4] at H
  have c4b0 : ((l0.length : Int) == (l1.length : Int)) = true := beq_iff_eq.mpr c4
  have c4b1 : ((l0.length : Int) != (l1.length : Int)) = false := bne_eq_false_iff_eq.mpr c4
  have c4b2 : (l0.length == l1.length) = true := by first | simpa using c4 | (simp at c4 ⊢; omega)
  clear c4
  by_cases c5 : 0 ≤ (l0.length : Int)
  ·rw [if_pos c5] at H
   have c5b0 := eq_true c5
   have c5b1 : decide (0 ≤ (l0.length : Int)) = true := decide_eq_true c5
   clear c5
   by_cases c6 : ((l0.length : Int) : Int).toNat ≤ 281474976710656
   ·rw [if_pos c6] at H
    have c6b0 := eq_true c6
    have c6b1 : decide (((l0.length : Int) : Int).toNat ≤ 281474976710656) = true := decide_eq_true c6
    clear c6
    obtain ⟨y101, hy101⟩ : ∃ y_ : List Int, y_ = (List.replicate ((l0.length : Int) : Int).toNat 0) := ⟨_, rfl⟩
    replace H : (gf_AddMul.l0 k l0 l1 a2 y101 (y101.length : Int) 0) = some (r1, r2) := by first | (rw [hy101]; with_reducible exact H) | (have H2_ := (Option.bind_some _ _).symm.trans H; rw [hy101]; with_reducible exact H2_) | (have H2_ := (Option.bind_some _ _).symm.trans H; with_reducible exact H2_) | with_reducible exact H | (rw [hy101]; exact H) | exact H
    have Ny101 := Aside0.mk hy101
    clear hy101
    have H' := Aside0.mk H
    clear H
    go_enter Tryd.func71, Tryd.ntmps71
    go_wp2_with (first | ((with_reducible refine gate_dst (N := 17) rfl ?_); refine Kd.R_make (Kd.int .u8) _ 5 rfl (N := 17) rfl 22 _ _ rfl (l0.length : Int) rfl rfl Tryd.underlying22 (.int .u8 0) 1 info5 rfl (by decide) (by omega) 0 (ok := fun _ => True) (okp := fun _ => True) rfl (fun _ hk => hk) trivial (of_decide_eq_true (by first | (with_reducible assumption) | assumption)) (Nat.le_trans (Nat.mul_le_mul_right _ (of_decide_eq_true (by first | (with_reducible assumption) | assumption) : (l0.length : Int).toNat ≤ 281474976710656)) (by omega)) (Below.refl _ _) (Nat.le_refl _) ?_; intro v102 w7 ho8 hb hg_ hnew_; clear hg_ hnew_; (first | rw [← Ny101.out] at ho8 | (simp only [Int.reduceToNat] at ho8; rw [← Ny101.out] at ho8)); have n0_ := Aside0.mk (Kd.R_lower ho8 (zF_ (by repeat (first | (with_reducible first | exact HB.out | apply zC_ | apply zA_ | apply zB_) | exact HB.out)))); have n1_ := Aside0.mk (zE_ (by repeat (first | (with_reducible first | exact HB.out | apply zC_ | apply zA_ | apply zB_) | exact HB.out)) hb); clear HB; have HO103 := n0_; have HB := n1_; clear n0_ n1_; clear hb ho8; obtain ⟨Ao9, co9, eo9⟩ := Kd.R_slice HO103.out; subst eo9))
    go_loopg [20] k (fun kq v20 w' => ∃ (x8_1 : List Int) (x20_1 : Int), v20 = .int .i64 x20_1 ∧ Aside0 (gf_AddMul.l0 kq l0 l1 a2 x8_1 (y101.length : Int) x20_1 = some (r1, r2)) ∧ Aside0 (kq ≤ k) ∧ Aside0 (Kd.R (Kd.int .u8) 5 w' w.heap.size (fun _ => True) (.slice Ao9 y101.length co9) x8_1) ∧ Aside0 (Below w.heap.size w w'))
    case atStart => exact ⟨(y101), (0), (by first | rfl | (simp; done) | (simp [*]; done)), H', ⟨Nat.le_refl _⟩, ⟨by (with_reducible repeat (first | apply Kd.R_alloc | apply Kd.R_drewN | apply Kd.R_drew)); exact HO103.out⟩, ⟨by repeat (first | (with_reducible first | exact HB.out | apply zC_ | apply zA_ | apply zB_) | exact HB.out)⟩⟩
    case round =>
     clear H'
     try clear c1
     try clear p2
     try clear c4
     try clear c4b0
     try clear c4b1
     try clear c4b2
     try clear c5
     try clear c5b0
     try clear c5b1
     try clear c6
     try clear c6b0
     try clear c6b1
     try clear c7
     obtain ⟨x8_1, x20_1, rfl, HA, HK1, HO_8, HB⟩ := hrel
     have hl8_1 := (Kd.R_reads' HO_8.out).1
     rw [hl8_1] at HO_8
     (try simp only [hl8_1])
     cases gk with
     | zero => exact absurd HA.out (by simp [gf_AddMul.l0])
     | succ k1 =>
      have H := HA.out
      clear HA
      simp only [gf_AddMul.l0] at H
      by_cases c10 : x20_1 < (y101.length : Int)
      ·rw [if_pos c10] at H
       have c10b0 : decide (x20_1 < (y101.length : Int)) = true := decide_eq_true c10
       (try simp only [hl8_1] at c10b0)
       clear c10
       by_cases c11 : 0 ≤ x20_1
       ·rw [if_pos c11] at H
        have c11b0 : decide (0 ≤ x20_1) = true := decide_eq_true c11
        (try simp only [hl8_1] at c11b0)
        clear c11
        by_cases c12 : x20_1 < (l0.length : Int)
        ·rw [if_pos c12] at H
         have c12b0 : decide (x20_1 < (l0.length : Int)) = true := decide_eq_true c12
         (try simp only [hl8_1] at c12b0)
         clear c12
         by_cases c13 : x20_1 < (l1.length : Int)
         ·rw [if_pos c13] at H
          have c13b0 : decide (x20_1 < (l1.length : Int)) = true := decide_eq_true c13
          (try simp only [hl8_1] at c13b0)
          clear c13
          replace H := Option.bind_eq_some_iff.mp H
          obtain ⟨t106, A140, H⟩ := H
          replace H : (if x20_1 < (x8_1.length : Int) then (gf_AddMul.l0 k1 l0 l1 a2 (x8_1.set (x20_1 : Int).toNat (Go.bits .xor .u8 (rd l0 x20_1) t106)) (y101.length : Int) (wrap64 (x20_1 + 1))) else (none)) = some (r1, r2) := H
          have A14 := Aside0.mk A140
          clear A140
          by_cases c15 : x20_1 < (x8_1.length : Int)
          ·rw [if_pos c15] at H
           have c15b0 : decide (x20_1 < (x8_1.length : Int)) = true := decide_eq_true c15
           (try simp only [hl8_1] at c15b0)
           clear c15
           obtain ⟨y107, hy107⟩ : ∃ y_ : List Int, y_ = (x8_1.set (x20_1 : Int).toNat (Go.bits .xor .u8 (rd l0 x20_1) t106)) := ⟨_, rfl⟩
           replace H : (gf_AddMul.l0 k1 l0 l1 a2 y107 (y101.length : Int) (wrap64 (x20_1 + 1))) = some (r1, r2) := by first | (rw [hy107]; with_reducible exact H) | (have H2_ := (Option.bind_some _ _).symm.trans H; rw [hy107]; with_reducible exact H2_) | (have H2_ := (Option.bind_some _ _).symm.trans H; with_reducible exact H2_) | with_reducible exact H | (rw [hy107]; exact H) | exact H
           have Ny107 := Aside0.mk hy107
           clear hy107
           have H' := Aside0.mk H
           clear H
           try go_wp2
           have n0_ := Aside0.mk (Kd.R_drew HO_8.out)
           have n1_ := Aside0.mk (zB_ HB.out)
           clear HO_8
           clear HB
           have HO_8 := n0_
           have HB := n1_
           clear n0_ n1_
           have p104 : 0 ≤ (x20_1 : Int) := of_decide_eq_true (by first | (with_reducible assumption) | assumption)
           have q104 : x20_1 < (l0.length : Int) := of_decide_eq_true (by first | (with_reducible assumption) | assumption)
           obtain ⟨ad104, e104, hx104_0⟩ := Kd.at_int HR0.out x20_1 p104 q104
           have hw104_0 := hx104_0
           cases e104
           replace hx104_0 := (HB.out.cell (World.block_lt_of_cell? w _ hx104_0)).trans hx104_0
           replace p104 := eq_true p104
           replace q104 := eq_true q104
           have p105 : 0 ≤ (x20_1 : Int) := of_decide_eq_true (by first | (with_reducible assumption) | assumption)
           have q105 : x20_1 < (l1.length : Int) := of_decide_eq_true (by first | (with_reducible assumption) | assumption)
           obtain ⟨ad105, e105, hx105_0⟩ := Kd.at_int HR1.out x20_1 p105 q105
           have hw105_0 := hx105_0
           cases e105
           replace hx105_0 := (HB.out.cell (World.block_lt_of_cell? w _ hx105_0)).trans hx105_0
           replace p105 := eq_true p105
           replace q105 := eq_true q105
           refine start_ (n := 15) (S := fun w' => w'.cell? (ad104.add (x20_1).toNat) = some (.int .u8 (rd l0 x20_1)) ∧ w'.cell? (ad105.add (x20_1).toNat) = some (.int .u8 (rd l1 x20_1))) (ds := [14]) (bsA 15 0) (by kernel_rfl) rfl rfl ⟨((HB.out.cell (World.block_lt_of_cell? w _ hw104_0)).trans hw104_0), ((HB.out.cell (World.block_lt_of_cell? w _ hw105_0)).trans hw105_0)⟩ (fun hHeld => ?_); refine with_tabW gf_AddMul.tab7 gf_AddMul.bits7 (fun HT_ HW_ => ?_)
           generalize wr.drew = w17 at HO_8 HB hx104_0 hx105_0 hHeld ⊢
           refine pure_ (i := 0) (N := some 23) (v := ?_) (a' := ?_) (bsA 15 1) rfl rfl (any_of HT_.out (by kernel_rfl)) (fun _ _ _ h => h) (Or.inl ⟨by rfl, ?_⟩) ?_ ?_
           rotate_left
           ·intro w'
            go_simp
            with_reducible rfl
           rotate_left
           ·simp only [Act.put, qA_, qB_, qC_, i64_w, i32_w]
            rfl
           refine pure_ (i := 1) (N := some 24) (v := ?_) (a' := ?_) (bsA 15 3) rfl rfl (any_of HT_.out (by kernel_rfl)) (fun _ _ _ h => h) (Or.inl ⟨by rfl, ?_⟩) ?_ ?_
           rotate_left
           ·intro w'
            go_simp
            with_reducible rfl
           rotate_left
           ·simp only [Act.put, qA_, qB_, qC_, i64_w, i32_w]
            rfl
           refine pure_ (i := 2) (N := some 25) (v := ?_) (a' := ?_) (bsA 15 7) rfl rfl (any_of HT_.out (by kernel_rfl)) (fun _ _ _ h => h) (Or.inl ⟨by rfl, ?_⟩) ?_ ?_
           rotate_left
           ·intro w'
            go_simp
            with_reducible rfl
           rotate_left
           ·simp only [Act.put, qA_, qB_, qC_, i64_w, i32_w]
            rfl
           refine pure_ (i := 3) (N := some 26) (v := ?_) (a' := ?_) (bsA 15 15) rfl rfl (any_of HT_.out (by kernel_rfl)) (fun _ _ _ h => h) (Or.inl ⟨by rfl, ?_⟩) ?_ ?_
           rotate_left
           ·intro w'
            go_simp
            with_reducible rfl
           rotate_left
           ·simp only [Act.put, qA_, qB_, qC_, i64_w, i32_w]
            rfl
           refine pure_ (i := 4) (N := some 27) (v := ?_) (a' := ?_) (bsA 15 31) rfl rfl (any_of HT_.out (by kernel_rfl)) (fun _ _ _ h => h) (Or.inl ⟨by rfl, ?_⟩) ?_ ?_
           rotate_left
           ·intro w'
            go_simp
            with_reducible rfl
           rotate_left
           ·simp only [Act.put, qA_, qB_, qC_, i64_w, i32_w]
            rfl
           refine pure_ (i := 6) (N := some 29) (v := ?_) (a' := ?_) (bsA 15 95) rfl rfl (any_of HT_.out (by kernel_rfl)) (fun _ _ _ h => h) (Or.inl ⟨by rfl, ?_⟩) ?_ ?_
           rotate_left
           ·intro w'
            go_simp
            with_reducible rfl
           rotate_left
           ·simp only [Act.put, qA_, qB_, qC_, i64_w, i32_w]
            rfl
           refine pure_ (i := 7) (N := some 30) (v := ?_) (a' := ?_) (bsA 15 223) rfl rfl (any_of HT_.out (by kernel_rfl)) (fun _ _ _ h => h) (Or.inl ⟨by rfl, ?_⟩) ?_ ?_
           rotate_left
           ·intro w'
            go_simp
            with_reducible rfl
           rotate_left
           ·simp only [Act.put, qA_, qB_, qC_, i64_w, i32_w]
            rfl
           refine pure_ (i := 8) (N := some 31) (v := ?_) (a' := ?_) (bsA 15 479) rfl rfl (any_of HT_.out (by kernel_rfl)) (fun _ _ _ h => h) (Or.inl ⟨by rfl, ?_⟩) ?_ ?_
           rotate_left
           ·intro w'
            go_simp
            with_reducible rfl
           rotate_left
           ·simp only [Act.put, qA_, qB_, qC_, i64_w, i32_w]
            rfl
           refine pure_ (i := 10) (N := some 33) (v := ?_) (a' := ?_) (bsA 15 1503) rfl rfl (any_of HT_.out (by kernel_rfl)) (fun _ _ _ h => h) (Or.inl ⟨by rfl, ?_⟩) ?_ ?_
           rotate_left
           ·intro w'
            go_simp
            with_reducible rfl
           rotate_left
           ·simp only [Act.put, qA_, qB_, qC_, i64_w, i32_w]
            rfl
           refine take_ (i := 5) (N := some 28) (v := ?_) (a' := ?_) (bsA 15 1535) rfl rfl (take_ofW HT_.out HW_.out (by kernel_rfl)) (fun _ _ _ h => h) (Or.inl ⟨by rfl, ?_⟩) hHeld ?_ ?_
           rotate_left
           ·rintro w' ⟨s0, s1⟩
            go_simp
            with_reducible rfl
           rotate_left
           ·simp only [Act.put, qA_, qB_, qC_, i64_w, i32_w]
            rfl
           refine take_ (i := 9) (N := some 32) (v := ?_) (a' := ?_) (bsA 15 2047) rfl rfl (take_ofW HT_.out HW_.out (by kernel_rfl)) (fun _ _ _ h => h) (Or.inl ⟨by rfl, ?_⟩) hHeld ?_ ?_
           rotate_left
           ·rintro w' ⟨s0, s1⟩
            go_simp
            with_reducible rfl
           rotate_left
           ·simp only [Act.put, qA_, qB_, qC_, i64_w, i32_w]
            rfl
           refine one_ (i := 11) (N := some 34) (bsA 15 4095) rfl rfl (one_of HT_.out (by kernel_rfl)) (by decide) (fun K hK => ?_)
           refine goes_ Tryd.func93 (by kernel_rfl) rfl #[.int .u8 (rd l1 x20_1), .int .u8 a2] (by rfl) rfl rfl (by (try simp only [List.map_toArray, List.map_cons, List.map_nil]); first | done | rfl | (simp only [List.length_drop, List.length_take]; rfl)) ?_
           with_reducible refine (gf_Mul.calls (rd l1 x20_1) a2 t106 _ A14.out).mono ?_
           rintro e w18 ⟨rfl, hb⟩
           refine ⟨_, rfl, ?_⟩
           have n0_ := Aside0.mk (Kd.R_below (by (with_reducible repeat (first | apply Kd.R_alloc | apply Kd.R_drewN | apply Kd.R_drew)); exact HO_8.out) hb)
           have n1_ := Aside0.mk (zE_ (by repeat (first | (with_reducible first | exact HB.out | apply zC_ | apply zA_ | apply zB_) | exact HB.out)) hb)
           clear HO_8
           clear HB
           have HO_8 := n0_
           have HB := n1_
           clear n0_ n1_
           (try clear hb)
           (try clear hb2)
           (try clear hk)
           (try clear hi)
           have p16 : 0 ≤ (x20_1 : Int) := of_decide_eq_true (by first | (with_reducible assumption) | assumption)
           have q16 : (x20_1 : Int) < ((x8_1.length : Int) : Int) := of_decide_eq_true (by first | (with_reducible assumption) | assumption)
           obtain ⟨go16, co16, eo16, gb16, gl16, cl16, HG16⟩ := Kd.R_form HO_8.out (by omega)
           (first | cases eo16 | (injection eo16 with ea_ en_ ec_; (first | subst ea_ | (injection ea_ with ea_; subst ea_)); subst ec_; clear en_))
           have GB16 := Aside0.mk gb16
           have GG16 := Aside0.mk HG16
           clear gb16 gl16 HG16
           obtain ⟨hx16_0, hf16_0⟩ := Kd.R_celln 0 HO_8.out (x20_1 : Int) p16 q16
           replace p16 := eq_true p16
           replace q16 := eq_true q16
           have HP19 := Kd.R_putn HO_8.out (x20_1 : Int) (Go.bits .xor .u8 (rd l0 x20_1) t106)
           rw [← Ny107.out] at HP19
           have HQ19 := Aside0.mk HP19
           clear HP19
           refine hK.out _ _ ⟨((HB.out.cell (World.block_lt_of_cell? w _ hw104_0)).trans hw104_0), ((HB.out.cell (World.block_lt_of_cell? w _ hw105_0)).trans hw105_0)⟩ (fun hHeld => ?_)
           clear hK K
           refine norm_ (a' := ?_) ?_ ?_
           rotate_left
           ·show Act.put _ (some 34) _ = _
            simp only [Act.put, qA_, qB_, qC_, i64_w, i32_w]
            rfl
           refine pure_ (i := 12) (N := some 35) (v := ?_) (a' := ?_) (bsA 15 8191) rfl rfl (any_of HT_.out (by kernel_rfl)) (fun _ _ _ h => h) (Or.inl ⟨by rfl, ?_⟩) ?_ ?_
           rotate_left
           ·intro w'
            go_simp
            with_reducible rfl
           rotate_left
           ·simp only [Act.put, qA_, qB_, qC_, i64_w, i32_w]
            rfl
           refine pure_ (i := 13) (N := some 36) (v := ?_) (a' := ?_) (bsA 15 16383) rfl rfl (any_of HT_.out (by kernel_rfl)) (fun _ _ _ h => h) (Or.inl ⟨by rfl, ?_⟩) ?_ ?_
           rotate_left
           ·intro w'
            go_simp
            with_reducible rfl
           rotate_left
           ·simp only [Act.put, qA_, qB_, qC_, i64_w, i32_w]
            rfl
           refine last_ (i := 14) (N := none) (bsA 15 32767) rfl rfl (one_of HT_.out (by kernel_rfl)) (by decide) (fun K hK => ?_)
           refine skip_ (w1 := ?_) (by rfl) rfl ?_ ?_
           rotate_left
           ·go_simp
            rfl
           refine hK.out _ _ ?_
           clear hK K
           refine done_ (done_of HT_.out (by kernel_rfl)) ?_
           try go_wp2
           (try simp only [← hl8_1])
           go_roundg k1
           case measure => have := HK1.out; omega
           case rel => exact ⟨(y107), (wrap64 (x20_1 + 1)), (by first | rfl | (simp; done) | (simp [*]; done)), H', ⟨by have := HK1.out; omega⟩, ⟨by (try simp only [hl8_1]); (with_reducible repeat (first | apply Kd.R_alloc | apply Kd.R_drewN | apply Kd.R_drew)); exact HQ19.out⟩, ⟨by repeat (first | (with_reducible first | exact HB.out | apply zC_ | apply zA_ | apply zB_ | refine below_set ?_ GB16.out) | exact HB.out)⟩⟩
          ·rw [if_neg c15] at H
           exact absurd H (by simp)
         ·rw [if_neg c13] at H
          exact absurd H (by simp)
        ·rw [if_neg c12] at H
         exact absurd H (by simp)
       ·rw [if_neg c11] at H
        exact absurd H (by simp)
      ·rw [if_neg c10] at H
       have c10b0 : decide (x20_1 < (y101.length : Int)) = false := decide_eq_false c10
       (try simp only [hl8_1] at c10b0)
       clear c10
       simp only [Option.some.injEq, Prod.mk.injEq] at H
       obtain ⟨rfl, rfl⟩ := H
       go_wp2
       go_ret2
       exact ⟨_, by first | rfl | (simp [errW_none, errW_some] <;> rfl) | (simp [*, errW_none, errW_some] <;> rfl), by (with_reducible repeat (first | apply Kd.R_alloc | apply Kd.R_drewN | apply Kd.R_drew)); exact HO_8.out, by repeat (first | (with_reducible first | exact HB.out | apply zC_ | apply zA_ | apply zB_) | exact HB.out)⟩
   ·rw [if_neg c6] at H
    exact absurd H (by simp)
  ·rw [if_neg c5] at H
   exact absurd H (by simp)
 ·rw [if_neg c4] at H
  have c4b0 : ((l0.length : Int) == (l1.length : Int)) = false := beq_eq_false_iff_ne.mpr c4
  have c4b1 : ((l0.length : Int) != (l1.length : Int)) = true := bne_iff_ne.mpr c4
  have c4b2 : (l0.length == l1.length) = false := by first | simpa using c4 | (simp at c4 ⊢; omega)
  simp only [Option.some.injEq, Prod.mk.injEq] at H
  obtain ⟨rfl, rfl⟩ := H
  go_enter Tryd.func71, Tryd.ntmps71
  go_wp2
  go_ret2
  exact ⟨_, by first | rfl | (simp [errW_none, errW_some] <;> rfl) | (simp [*, errW_none, errW_some] <;> rfl), by first | exact Kd.R_nil _ _ _ _ _ | exact Kd.N_nil _ _ _ _ _ | exact Kd.V_nil _ _ _ _ _ | exact Kd.Q_nil _ _ _ _ _ | exact Kd.S_nil _ _ _ _ _, by repeat (first | (with_reducible first | exact HB.out | apply zC_ | apply zA_ | apply zB_) | exact HB.out)⟩
end Go.Proofs.YtnfgiamdmfkcjaaDoor.P
namespace Go.Proofs.YtnfgiamdmfkcjaaDoor.Gf
open Go.RowKit Go.Proofs.YtnfgiamdmfkcjaaDoorW.PrintWords Go.Proofs.YtnfgiamdmfkcjaaDoor.Leaf Go.Proofs.YtnfgiamdmfkcjaaDoor.P
/-- The numbers of a list of bytes. -/
def ofL (L : List B) : List Int := L.map ofB
/-- The byte at a place, nought behind the end. -/
def at0 (L : List B) (i : Nat) : B := L.getD i 0#8
theorem zG_ (L : List B) : (ofL L).length = L.length := List.length_map _
theorem rd_ofL (L : List B) (i : Nat) : rd (ofL L) (i : Int) = ofB (at0 L i) := by
  unfold rd ofL at0
  simp only [List.getD_eq_getElem?_getD, List.getElem?_map, Int.toNat_natCast]
  cases L[i]? <;> rfl
theorem row_of {l : List Int} (h : ∀ x ∈ l, (Lit.int .u8 x).wf = true) : ∃ L : List B, l = ofL L := by
  refine ⟨l.map toB, ?_⟩
  unfold ofL
  rw [List.map_map]
  refine (List.map_id' l).symm.trans (List.map_congr_left fun x hx => ?_)
  have h1 : 0 ≤ x ∧ x ≤ 255 := by simpa [Lit.wf, IntKind.min, IntKind.max, IntKind.signed, IntKind.bits] using h x hx
  exact (ofB_toB x h1.1 (by omega)).symm
theorem ofL_set (L : List B) (i : Nat) (b : B) : (ofL L).set i (ofB b) = ofL (L.set i b) := by unfold ofL; rw [List.map_set]
theorem ofL_replicate (n : Nat) : List.replicate n (0 : Int) = ofL (List.replicate n 0#8) := by unfold ofL; rw [List.map_replicate]; rfl
/-- The row of `a + s * b`, its first `n` places done. -/
def am (L M : List B) (s : B) (n : Nat) : List B := (List.range L.length).map fun j => if j < n then at0 L j ^^^ mul (at0 M j) s else 0#8
theorem am_length (L M : List B) (s : B) (n : Nat) : (am L M s n).length = L.length := by unfold am; rw [List.length_map, List.length_range]
theorem at0_am (L M : List B) (s : B) (n j : Nat) (hj : j < L.length) : at0 (am L M s n) j = if j < n then at0 L j ^^^ mul (at0 M j) s else 0#8 := by
  unfold am
  show ((List.range L.length).map _).getD j 0#8 = _
  rw [List.getD_eq_getElem?_getD, List.getElem?_map, List.getElem?_range hj]
  rfl
theorem ext0 {L M : List B} (hl : L.length = M.length) (h : ∀ j, j < L.length → at0 L j = at0 M j) : L = M := by
  refine List.ext_getElem hl fun j h1 h2 => ?_
  have := h j h1
  unfold at0 at this
  simpa [List.getD_eq_getElem?_getD, h1, h2] using this
theorem at0_set (L : List B) (i j : Nat) (b : B) (hi : i < L.length) : at0 (L.set i b) j = if i = j then b else at0 L j := by
  unfold at0
  simp only [List.getD_eq_getElem?_getD, List.getElem?_set]
  by_cases h : i = j
  · subst h; simp [hi]
  · simp [h]
theorem am_set (L M : List B) (s : B) (i : Nat) (hi : i < L.length) : (am L M s i).set i (at0 L i ^^^ mul (at0 M i) s) = am L M s (i + 1) := by
  refine ext0 (by rw [List.length_set, am_length, am_length]) fun j hj => ?_
  rw [List.length_set, am_length] at hj
  rw [at0_set _ _ _ _ (by rw [am_length]; exact hi), at0_am _ _ _ _ _ hj, at0_am _ _ _ _ _ hj]
  by_cases h : i = j
  · subst h; rw [if_pos rfl, if_pos (by omega)]
  · rw [if_neg h]
    by_cases h2 : j < i
    · rw [if_pos h2, if_pos (by omega)]
    · rw [if_neg h2, if_neg (by omega)]
theorem am_zero (L M : List B) (s : B) : List.replicate L.length 0#8 = am L M s 0 := by
  refine ext0 (by rw [List.length_replicate, am_length]) fun j hj => ?_
  rw [List.length_replicate] at hj
  rw [at0_am _ _ _ _ _ hj, if_neg (by omega)]
  unfold at0
  simp [List.getD_eq_getElem?_getD, hj]
theorem gfAddMul_l0 (L M : List B) (s : B) (hL : L.length = M.length) (hs : L.length < 2 ^ 62) (n : Nat) : ∀ i : Nat, i + n = L.length → Ev (fun k => gf_AddMul.l0 k (ofL L) (ofL M) (ofB s) (ofL (am L M s i)) (L.length : Int) (i : Int)) (ofL (am L M s L.length), true) := by
  induction n with
  | zero =>
    intro i hi
    refine Ev.step (f := fun _ => some (ofL (am L M s i), true)) (fun k => ?_) ?_
    · simp only [gf_AddMul.l0]
      rw [if_neg (by omega)]
    · rw [show i = L.length by omega]
      exact Ev.now _
  | succ n ih =>
    intro i hi
    refine Ev.step (f := fun k => gf_AddMul.l0 k (ofL L) (ofL M) (ofB s) (ofL (am L M s (i + 1))) (L.length : Int) ((i + 1 : Nat) : Int)) (fun k => ?_) (ih (i + 1) (by omega))
    simp only [gf_AddMul.l0, zG_, am_length]
    rw [if_pos (by omega), if_pos (by omega), if_pos (by omega), if_pos (by omega), rd_ofL, rd_ofL, gfMul_eq, Option.bind_some, if_pos (by omega), xor_ofB, Int.toNat_natCast, ofL_set, am_set _ _ _ _ (by omega), w64 _ (by omega) (by omega)]
    rfl
def addMulB (L M : List B) (s : B) : List Int × Bool := if L.length = M.length then (ofL (am L M s L.length), true) else ([], false)
theorem gfAddMul (L M : List B) (s : B) (hs : L.length < 2 ^ 48) : Ev (fun k => gf_AddMul.f k (ofL L) (ofL M) (ofB s)) (addMulB L M s) := by
  unfold gf_AddMul.f addMulB
  simp only [zG_]
  by_cases h : L.length = M.length
  · simp only [show ((L.length : Int) = (M.length : Int)) = True from eq_true (by omega), show (0 ≤ (L.length : Int)) = True from eq_true (by omega), if_true, if_pos h]
    simp only [Int.toNat_natCast, show (L.length ≤ 281474976710656) = True from eq_true (by omega), if_true, Option.bind_some, Int.toNat_natCast, List.length_replicate]
    rw [ofL_replicate, am_zero L M s]
    exact gfAddMul_l0 L M s h (by omega) L.length 0 (by omega)
  · simp only [show ((L.length : Int) = (M.length : Int)) = False from eq_false (by omega), if_false, if_neg h]
    exact Ev.now _
end Go.Proofs.YtnfgiamdmfkcjaaDoor.Gf
namespace Go.Proofs.YtnfgiamdmfkcjaaDoor.H
open Go.RowKit Go.Proofs.YtnfgiamdmfkcjaaDoorW.PrintWords Go.Proofs.YtnfgiamdmfkcjaaDoor.Leaf
/-- A row of bytes at the head of a block of the call's own. -/
def Rw (w : World) (base id cap : Nat) (r : List Int) : Prop := w.ownsRow base 5 1 (.slice (some ⟨id, 0, none⟩) r.length cap) r.length (encs (Value.int .u8) r)
/-- The slice that leads to row `i`. -/
def sl (id cap : Nat → Nat) (A : List (List Int)) (i : Nat) : Value := .slice (some ⟨id i, 0, none⟩) (A.getD i []).length (cap i)
def up (f : Nat → Nat) (i x : Nat) : Nat → Nat := fun k => if k = i then x else f k
def tw (f : Nat → Nat) (i j : Nat) : Nat → Nat := fun k => if k = j then f i else if k = i then f j else f k
def swapL (A : List (List Int)) (i j : Nat) : List (List Int) := (A.set i (A.getD j [])).set j (A.getD i [])
theorem getD_set (A : List (List Int)) (i k : Nat) (r : List Int) (hi : i < A.length) : (A.set i r).getD k [] = if k = i then r else A.getD k [] := by
 simp only [List.getD_eq_getElem?_getD, List.getElem?_set]
 by_cases h : k = i
 ·subst h; simp [hi]
 ·simp [h, Ne.symm h]
theorem swapL_length (A : List (List Int)) (i j : Nat) : (swapL A i j).length = A.length := by simp [swapL]
theorem getD_swapL (A : List (List Int)) (i j k : Nat) (hi : i < A.length) (hj : j < A.length) : (swapL A i j).getD k [] = if k = j then A.getD i [] else if k = i then A.getD j [] else A.getD k [] := by
 unfold swapL
 rw [getD_set _ _ _ _ (by simpa using hj), getD_set _ _ _ _ hi]
structure Mt (w : World) (base g cp : Nat) (id cap : Nat → Nat) (A : List (List Int)) : Prop where
 outer : w.ownsRow base 22 1 (.slice (some ⟨g, 0, none⟩) A.length cp) A.length (encs (sl id cap A) (List.range A.length))
 rows : ∀ i, i < A.length → Rw w base (id i) (cap i) (A.getD i [])
 inj : ∀ i j, i < A.length → j < A.length → id i = id j → i = j
section
variable {w w1 : World} {base g cp b c : Nat} {id cap : Nat → Nat} {A : List (List Int)} {r : List Int}
theorem Rw.typed (h : Rw w base b c r) : ∃ cells, w.heap[b]? = some (.cells cells 5 (0, 0)) := own_typed h b rfl
theorem Rw.base_ (h : Rw w base b c r) : base ≤ b := own_base h b rfl
theorem Rw.lt (h : Rw w base b c r) : b < w.heap.size := own_lt h b rfl
theorem Rw.far (h : Rw w base b c r) {p : Addr} (hp : p.block ≠ b) (u : Value) : Rw (w.setCell p u) base b c r := own_setCell h (by simp [Value.ownBlock, hp]) u
theorem Rw.put (h : Rw w base b c r) (j : Nat) (x : Int) : Rw (w.setCell ⟨b, j, none⟩ (.int .u8 x)) base b c (r.set j x) := by
 have := (h.stored j (.int .u8 x)).1
 unfold Rw
 rw [List.length_set, show encs (Value.int .u8) (r.set j x) = (encs (Value.int .u8) r).set j (.int .u8 x) by simp [encs, List.map_set]]
 exact this
theorem Rw.cell (h : Rw w base b c r) (j : Nat) (hj : j < r.length) : w.cell? ⟨b, j, none⟩ = some (.int .u8 (rd r (j : Int))) ∧ w.frozen? ⟨b, j, none⟩ = false := by
 have := own_at_of (d := 0) h (j : Int) (by omega) (by omega)
 simpa [rdOf, rd] using this
theorem Rw.reads (h : Rw w base b c r) : Kd.C (Kd.int .u8) w (some ⟨b, 0, none⟩) r.length r ∧ r.length ≤ c := by
 have hR : Kd.R (Kd.int .u8) 5 w base (fun _ => True) (.slice (some ⟨b, 0, none⟩) r.length c) r := Kd.R_of_own h (fun _ _ => trivial)
 exact ⟨(Kd.R_reads' hR).2.2, (Kd.R_reads' hR).2.1⟩
theorem Rw.of_R {v : Value} (h : Kd.R (Kd.int .u8) 5 w base (fun _ => True) v r) (hp : 0 < r.length) : ∃ b c, v = .slice (some ⟨b, 0, none⟩) r.length c ∧ Rw w base b c r := by
 obtain ⟨g, cap, rfl, _⟩ := Kd.R_form h hp
 exact ⟨g, cap, rfl, Kd.own_of_R h⟩
theorem Mt.typed (h : Mt w base g cp id cap A) : ∃ cells, w.heap[g]? = some (.cells cells 22 (0, 0)) := own_typed h.outer g rfl
theorem Mt.gbase (h : Mt w base g cp id cap A) : base ≤ g := own_base h.outer g rfl
theorem Mt.glt (h : Mt w base g cp id cap A) : g < w.heap.size := own_lt h.outer g rfl
theorem Mt.ne (h : Mt w base g cp id cap A) (h2 : Rw w base b c r) : b ≠ g := by
 obtain ⟨cs, hc⟩ := h.typed
 obtain ⟨cs', hc'⟩ := h2.typed
 rintro rfl
 rw [hc] at hc'
 simp at hc'
theorem Mt.at_ (h : Mt w base g cp id cap A) (i : Nat) (hi : i < A.length) : w.cell? ⟨g, i, none⟩ = some (sl id cap A i) ∧ w.frozen? ⟨g, i, none⟩ = false := by
 have := own_at_of (d := 0) h.outer (i : Int) (by omega) (by omega)
 simpa [rdOf, List.getD_eq_getElem?_getD, List.getElem?_range hi] using this
theorem Mt.move (h : Mt w base g cp id cap A) (hm : ∀ k, (k = g ∨ ∃ i, i < A.length ∧ k = id i) → w1.heap[k]? = w.heap[k]?) : Mt w1 base g cp id cap A :=
 ⟨own_move h.outer (fun k hk => hm k (.inl (by simpa [Value.ownBlock] using hk.symm))), fun i hi => own_move (h.rows i hi) (fun k hk => hm k (.inr ⟨i, hi, by simpa [Value.ownBlock] using hk.symm⟩)), h.inj⟩
theorem Mt.lt (h : Mt w base g cp id cap A) (k : Nat) (hk : k = g ∨ ∃ i, i < A.length ∧ k = id i) : k < w.heap.size ∧ base ≤ k := by
 rcases hk with rfl | ⟨i, hi, rfl⟩
 ·exact ⟨h.glt, h.gbase⟩
 ·exact ⟨(h.rows i hi).lt, (h.rows i hi).base_⟩
theorem Mt.below (h : Mt w base g cp id cap A) (hb : Below w.heap.size w w1) : Mt w1 base g cp id cap A := h.move (fun k hk => hb.block k (h.lt k hk).1)
theorem Mt.far (h : Mt w base g cp id cap A) {p : Addr} (h0 : p.block ≠ g) (h1 : ∀ i, i < A.length → p.block ≠ id i) (u : Value) : Mt (w.setCell p u) base g cp id cap A :=
 h.move (fun k hk => Below.heap_setCell w p u k (by rcases hk with rfl | ⟨i, hi, rfl⟩; exact Ne.symm h0; exact Ne.symm (h1 i hi)))
theorem Mt.put (h : Mt w base g cp id cap A) (i : Nat) (hi : i < A.length) (j : Nat) (x : Int) : Mt (w.setCell ⟨id i, j, none⟩ (.int .u8 x)) base g cp id cap (A.set i ((A.getD i []).set j x)) := by
 have hsl : ∀ k, sl id cap (A.set i ((A.getD i []).set j x)) k = sl id cap A k := by
  intro k
  unfold sl
  rw [getD_set _ _ _ _ hi]
  by_cases hk : k = i
  ·subst hk; rw [if_pos rfl, List.length_set]
  ·rw [if_neg hk]
 refine ⟨?_, fun k hk => ?_, fun k l hk hl => h.inj k l (by simpa using hk) (by simpa using hl)⟩
 ·rw [List.length_set, show encs (sl id cap (A.set i ((A.getD i []).set j x))) (List.range A.length) = encs (sl id cap A) (List.range A.length) from List.map_congr_left fun k _ => hsl k]
  exact own_setCell h.outer (by simp [Value.ownBlock, h.ne (h.rows i hi)]) _
 ·rw [List.length_set] at hk
  rw [getD_set _ _ _ _ hi]
  by_cases e : k = i
  ·subst e; rw [if_pos rfl]; exact (h.rows k hk).put j x
  ·rw [if_neg e]; exact (h.rows k hk).far (fun e2 => e (h.inj k i hk hi e2.symm)) _
theorem encs_set {enc enc' : Nat → Value} {n i : Nat} {u : Value} (hi : i < n) (hu : enc' i = u) (hne : ∀ k, k < n → k ≠ i → enc' k = enc k) : (encs enc (List.range n)).set i u = encs enc' (List.range n) := by
 unfold encs
 refine List.ext_getElem (by simp) fun k h1 h2 => ?_
 simp only [List.length_set, List.length_map, List.length_range] at h1
 rw [List.getElem_set]
 by_cases e : i = k
 ·subst e; simp [hu]
 ·simp [e, hne k h1 (fun e2 => e e2.symm)]
theorem Mt.setRow (h : Mt w base g cp id cap A) (i : Nat) (hi : i < A.length) (hr : Rw w base b c r) (hb : ∀ k, k < A.length → k ≠ i → id k ≠ b) :
 Mt (w.setCell ⟨g, i, none⟩ (.slice (some ⟨b, 0, none⟩) r.length c)) base g cp (up id i b) (up cap i c) (A.set i r) := by
 have hbg := h.ne hr
 have h1 : sl (up id i b) (up cap i c) (A.set i r) i = .slice (some ⟨b, 0, none⟩) r.length c := by unfold sl up; rw [getD_set _ _ _ _ hi]; simp
 have h2 : ∀ k, k ≠ i → sl (up id i b) (up cap i c) (A.set i r) k = sl id cap A k := by intro k hk; unfold sl up; rw [getD_set _ _ _ _ hi]; simp [hk]
 refine ⟨?_, fun k hk => ?_, fun k l hk hl => ?_⟩
 ·rw [List.length_set, ← encs_set (enc := sl id cap A) hi h1 (fun k _ hk => h2 k hk)]
  exact (h.outer.stored i _).1
 ·rw [List.length_set] at hk
  rw [getD_set _ _ _ _ hi]
  unfold up
  by_cases e : k = i
  ·rw [if_pos e, if_pos e, if_pos e]; exact hr.far (Ne.symm hbg) _
  ·rw [if_neg e, if_neg e, if_neg e]; exact (h.rows k hk).far (Ne.symm (h.ne (h.rows k hk))) _
 ·rw [List.length_set] at hk hl
  unfold up
  by_cases e : k = i <;> by_cases e2 : l = i
  ·intro _; rw [e, e2]
  ·rw [if_pos e, if_neg e2]; intro h3; exact absurd h3.symm (hb l hl e2)
  ·rw [if_neg e, if_pos e2]; intro h3; exact absurd h3 (hb k hk e)
  ·rw [if_neg e, if_neg e2]; exact h.inj k l hk hl
theorem Mt.swap (h : Mt w base g cp id cap A) (i j : Nat) (hi : i < A.length) (hj : j < A.length) :
 Mt ((w.setCell ⟨g, i, none⟩ (sl id cap A j)).setCell ⟨g, j, none⟩ (sl id cap A i)) base g cp (tw id i j) (tw cap i j) (swapL A i j) := by
 have hs : ∀ k, sl (tw id i j) (tw cap i j) (swapL A i j) k = if k = j then sl id cap A i else if k = i then sl id cap A j else sl id cap A k := by
  intro k
  unfold sl tw
  rw [getD_swapL _ _ _ _ hi hj]
  by_cases e : k = j
  ·simp [e]
  ·by_cases e2 : k = i
   ·subst e2; simp [e]
   ·simp [e, e2]
 have h1 := h.outer.stored i (sl id cap A j)
 have h2 := h1.1.stored j (sl id cap A i)
 refine ⟨?_, fun k hk => ?_, fun k l hk hl => ?_⟩
 ·rw [swapL_length]
  have e : ((encs (sl id cap A) (List.range A.length)).set i (sl id cap A j)).set j (sl id cap A i) = encs (sl (tw id i j) (tw cap i j) (swapL A i j)) (List.range A.length) := by
   rw [encs_set (enc := sl id cap A) (enc' := fun k => if k = i then sl id cap A j else sl id cap A k) hi (by simp) (fun k _ hk => by simp [hk]),
    encs_set (enc' := sl (tw id i j) (tw cap i j) (swapL A i j)) hj (by rw [hs]; simp) (fun k _ hk => by rw [hs]; simp [hk])]
  rw [← e]
  exact h2.1
 ·rw [swapL_length] at hk
  have far : ∀ m, m < A.length → Rw ((w.setCell ⟨g, i, none⟩ (sl id cap A j)).setCell ⟨g, j, none⟩ (sl id cap A i)) base (id m) (cap m) (A.getD m []) := by
   intro m hm
   have hne := Ne.symm (h.ne (h.rows m hm))
   exact ((h.rows m hm).far hne _).far hne _
  rw [getD_swapL _ _ _ _ hi hj]
  unfold tw
  by_cases e : k = j
  ·rw [if_pos e, if_pos e, if_pos e]; exact far i hi
  ·rw [if_neg e, if_neg e, if_neg e]
   by_cases e2 : k = i
   ·rw [if_pos e2, if_pos e2, if_pos e2]; exact far j hj
   ·rw [if_neg e2, if_neg e2, if_neg e2]; exact far k hk
 ·rw [swapL_length] at hk hl
  intro h3
  unfold tw at h3
  by_cases e : k = j <;> by_cases e2 : l = j
  ·omega
  ·rw [if_pos e, if_neg e2] at h3
   by_cases e3 : l = i
   ·rw [if_pos e3] at h3; have := h.inj i j hi hj h3; omega
   ·rw [if_neg e3] at h3; have := h.inj i l hi hl h3; omega
  ·rw [if_neg e, if_pos e2] at h3
   by_cases e3 : k = i
   ·rw [if_pos e3] at h3; have := h.inj j i hj hi h3; omega
   ·rw [if_neg e3] at h3; have := h.inj k i hk hi h3; omega
  ·rw [if_neg e, if_neg e2] at h3
   by_cases e3 : k = i <;> by_cases e4 : l = i
   ·omega
   ·rw [if_pos e3, if_neg e4] at h3; have := h.inj j l hj hl h3; omega
   ·rw [if_neg e3, if_pos e4] at h3; have := h.inj k j hk hj h3; omega
   ·rw [if_neg e3, if_neg e4] at h3; exact h.inj k l hk hl h3
theorem Mt.of_S {ok : Nat → Prop} {v : Value} (h : Kd.S (Kd.slice 5 (Kd.int .u8)) 22 w base ok v A) (h0 : 0 < A.length) (hr : ∀ i, i < A.length → 0 < (A.getD i []).length) :
 ∃ g cp id cap, v = .slice (some ⟨g, 0, none⟩) A.length cp ∧ Mt w base g cp id cap A ∧ ok g ∧ ∀ i, i < A.length → ok (id i) := by
 obtain ⟨g, cp, hv, _⟩ := Kd.S_form h h0
 obtain ⟨f, hok, inner, ho, hrp⟩ := h
 rw [List.length_zipIdx] at ho
 have hl : inner.length = A.length := by have := ho.1; rw [show (Kd.tag f (Kd.slice 5 (Kd.int .u8))).sz = 1 from rfl] at this; omega
 have key : ∀ i, i < A.length → ∃ b c, inner[i]? = some (.slice (some ⟨b, 0, none⟩) (A.getD i []).length c) ∧ Rw w base b c (A.getD i []) ∧ f b = i ∧ ok b := by
  intro i hi
  have hAi : A[i]? = some (A.getD i []) := by rw [List.getD_eq_getElem?_getD, List.getElem?_eq_getElem hi]; rfl
  obtain ⟨vi, hc, hR⟩ := hrp.2 i (A.getD i [], i) (Kd.zip_at hAi)
  obtain ⟨b, c, rfl, hb⟩ := Kd.R_form hR (hr i hi)
  have hci : (inner.drop i).take 1 = [.slice (some ⟨b, 0, none⟩) (A.getD i []).length c] := by simpa [Kd.tag, Kd.slice] using hc
  refine ⟨b, c, ?_, Kd.own_of_R hR, ?_, ?_⟩
  ·have := congrArg (fun l => l[0]?) hci
   simpa [List.getElem?_take, List.getElem?_drop] using this
  ·exact (hR.1 b rfl).2
  ·exact (hR.1 b rfl).1.1
 let id : Nat → Nat := fun i => if hi : i < A.length then (key i hi).choose else 0
 let cap : Nat → Nat := fun i => if hi : i < A.length then (key i hi).choose_spec.choose else 0
 have kid : ∀ i, i < A.length → inner[i]? = some (.slice (some ⟨id i, 0, none⟩) (A.getD i []).length (cap i)) ∧ Rw w base (id i) (cap i) (A.getD i []) ∧ f (id i) = i ∧ ok (id i) := by
  intro i hi
  have := (key i hi).choose_spec.choose_spec
  simp only [id, cap, hi, dite_true]
  exact this
 subst hv
 refine ⟨g, cp, id, cap, rfl, ⟨?_, fun i hi => (kid i hi).2.1, fun i j hi hj e => ?_⟩, hok g rfl, fun i hi => (kid i hi).2.2.2⟩
 ·have e : inner = encs (sl id cap A) (List.range A.length) := by
   unfold encs
   refine List.ext_getElem? fun i => ?_
   by_cases hi : i < A.length
   ·rw [(kid i hi).1, List.getElem?_map, List.getElem?_range hi]
    rfl
   ·rw [List.getElem?_eq_none (by omega), List.getElem?_eq_none (by simp; omega)]
  rw [← e]
  exact ho
 ·have h1 := (kid i hi).2.2.1
  have h2 := (kid j hj).2.2.1
  rw [e] at h1
  omega
theorem Mt.to_S (h : Mt w base g cp id cap A) : Kd.S (Kd.slice 5 (Kd.int .u8)) 22 w base (fun k => k = g ∨ ∃ i, i < A.length ∧ k = id i) (.slice (some ⟨g, 0, none⟩) A.length cp) A := by
 refine ⟨fun k => ((List.range A.length).find? fun i => id i == k).getD 0, fun k hk => .inl (by simpa [Value.ownBlock] using hk.symm), encs (sl id cap A) (List.range A.length), ?_, ?_⟩
 ·rw [List.length_zipIdx]; exact h.outer
 ·refine ⟨by show (encs (sl id cap A) (List.range A.length)).length = A.zipIdx.length * 1; simp [encs], fun j p hj => ?_⟩
  have hj' : A.zipIdx[j]? = some p := hj
  rw [List.getElem?_zipIdx] at hj'
  obtain ⟨r, hr, rfl⟩ := Option.map_eq_some_iff.1 hj'
  have hlt : j < A.length := (List.getElem?_eq_some_iff.1 hr).1
  have hrD : A.getD j [] = r := by rw [List.getD_eq_getElem?_getD, hr]; rfl
  refine ⟨sl id cap A j, ?_, ?_⟩
  ·show ((encs (sl id cap A) (List.range A.length)).drop (j * 1)).take 1 = _
   rw [Nat.mul_one]
   refine List.ext_getElem? fun k => ?_
   cases k with
   | zero => simp [encs, List.getElem?_drop, List.getElem?_range hlt]
   | succ k => simp [List.getElem?_take]
  ·unfold sl
   rw [hrD]
   have hro := h.rows j hlt
   rw [hrD] at hro
   refine Kd.R_of_own hro fun k hk => ?_
   have hk' : k = id j := by simpa [Value.ownBlock] using hk.symm
   subst hk'
   refine ⟨⟨.inr ⟨j, hlt, rfl⟩, ?_⟩, ?_⟩
   ·simp only [Value.ownBlock]
    intro e
    exact h.ne hro (Option.some.inj e)
   ·show ((List.range A.length).find? fun i => id i == id j).getD 0 = 0 + j
    have : (List.range A.length).find? (fun i => id i == id j) = some j := by
     rw [List.find?_range_eq_some]
     refine ⟨by simp, by simpa using hlt, fun i hi => ?_⟩
     have : id i ≠ id j := fun e => by have := h.inj i j (by omega) hlt e; omega
     simpa using this
    rw [this]
    simp
end
end Go.Proofs.YtnfgiamdmfkcjaaDoor.H
namespace Go.Proofs.YtnfgiamdmfkcjaaDoor.H
open Go.RowKit Go.Proofs.YtnfgiamdmfkcjaaDoorW.PrintWords Go.Proofs.YtnfgiamdmfkcjaaDoor.Leaf
set_option maxRecDepth 100000 in
theorem pred_calls (b cp : Nat) (r : List Int) (c : Nat) (q : Addr) (w : World) (base : Nat) (hr : Rw w base b cp r) (hc : c < r.length) (hq : w.cell? q = some (.int .i64 (c : Int))) :
    Calls Tryd.prog 92 #[.slice (some ⟨b, 0, none⟩) r.length cp, .pointer (some q)] w fun e w' => e = .returned (.bool (rd r (c : Int) != 0)) ∧ Below w.heap.size w w' := by
  obtain ⟨h1, h2⟩ := hr.cell c hc
  have hlt : (c : Int) < (r.length : Int) := by omega
  have h0 : (0 : Int) ≤ (c : Int) := by omega
  clear hr
  go_enter Tryd.func92, Tryd.ntmps92
  go_wp2
  go_ret
  exact ⟨rfl, Below.refl _ _⟩
end Go.Proofs.YtnfgiamdmfkcjaaDoor.H
namespace Go.Proofs.YtnfgiamdmfkcjaaDoor.Red
open Go.RowKit Go.Proofs.YtnfgiamdmfkcjaaDoorW.PrintWords Go.Proofs.YtnfgiamdmfkcjaaDoor.Leaf Go.Proofs.YtnfgiamdmfkcjaaDoor.Gf Go.Proofs.YtnfgiamdmfkcjaaDoor.H
abbrev Mat := List (List B)
def row (A : Mat) (i : Nat) : List B := A.getD i []
def el (A : Mat) (i j : Nat) : B := at0 (row A i) j
def swapM (A : Mat) (i j : Nat) : Mat := (A.set i (row A j)).set j (row A i)
/-- A row's places from `j` on, times `v`. -/
def scF (v : B) : Nat → Nat → List B → List B
  | 0, _, r => r
  | n + 1, j, r => scF v n (j + 1) (r.set j (mul (at0 r j) v))
def scale (v : B) (r : List B) : List B := scF v r.length 0 r
/-- The rows from `i` on, the one at `d` taken off so often that column `c` is nought there. -/
def elF (c d : Nat) : Nat → Nat → Mat → Mat → Mat × Mat
  | 0, _, A, Z => (A, Z)
  | n + 1, i, A, Z => if i ≠ d ∧ el A i c ≠ 0#8 then elF c d n (i + 1) (A.set i (am (row A i) (row A d) (el A i c) (row A i).length)) (Z.set i (am (row Z i) (row Z d) (el A i c) (row Z i).length)) else elF c d n (i + 1) A Z
/-- One column's step: the row at `t` is the pivot. -/
def stepF (c d t : Nat) (A Z : Mat) : Mat × Mat :=
  let A1 := swapM A t d
  let Z1 := swapM Z t d
  let v := inv (el A1 d c)
  let A2 := A1.set d (scale v (row A1 d))
  let Z2 := Z1.set d (scale v (row Z1 d))
  elF c d A2.length 0 A2 Z2
/-- Where the pivot is, counted from `d` on; -1 if there is none. -/
def pivot (A : Mat) (d c : Nat) : Int := firstP (fun j => rd (ofL (row A (d + j))) (c : Int) != 0) (A.length - d)
def redF : Nat → Nat → Nat → Mat → Mat → Nat × Mat × Mat
  | 0, _, d, A, Z => (d, A, Z)
  | n + 1, c, d, A, Z => if pivot A d c < 0 then redF n (c + 1) d A Z else
      if d + 1 = A.length then (d + 1, stepF c d ((pivot A d c).toNat + d) A Z) else redF n (c + 1) (d + 1) (stepF c d ((pivot A d c).toNat + d) A Z).1 (stepF c d ((pivot A d c).toNat + d) A Z).2
/-- All rows of one length. -/
def Reg (A : Mat) (n m : Nat) : Prop := A.length = n ∧ ∀ i, i < n → (row A i).length = m
theorem row_set (A : Mat) (i k : Nat) (r : List B) (hi : i < A.length) : row (A.set i r) k = if k = i then r else row A k := by
  unfold row
  simp only [List.getD_eq_getElem?_getD, List.getElem?_set]
  by_cases h : k = i
  · subst h; simp [hi]
  · simp [h, Ne.symm h]
theorem Reg.set {A : Mat} {n m : Nat} (h : Reg A n m) {i : Nat} (hi : i < n) {r : List B} (hr : r.length = m) : Reg (A.set i r) n m := by
  refine ⟨by rw [List.length_set]; exact h.1, fun k hk => ?_⟩
  rw [row_set _ _ _ _ (by rw [h.1]; exact hi)]
  by_cases e : k = i
  · rw [if_pos e]; exact hr
  · rw [if_neg e]; exact h.2 k hk
theorem Reg.swap {A : Mat} {n m : Nat} (h : Reg A n m) {i j : Nat} (hi : i < n) (hj : j < n) : Reg (swapM A i j) n m := (h.set hi (h.2 j hj)).set hj (h.2 i hi)
theorem map_getD (A : Mat) (i : Nat) : (A.map ofL).getD i [] = ofL (row A i) := by
  unfold row
  simp only [List.getD_eq_getElem?_getD, List.getElem?_map]
  cases A[i]? <;> rfl
theorem map_set (A : Mat) (i : Nat) (r : List B) : (A.map ofL).set i (ofL r) = (A.set i r).map ofL := by rw [List.map_set]
theorem map_swap (A : Mat) (i j : Nat) : swapL (A.map ofL) i j = (swapM A i j).map ofL := by
  unfold swapL swapM
  rw [map_getD, map_getD, map_set, map_set]
theorem scF_length (v : B) (n : Nat) : ∀ (j : Nat) (r : List B), (scF v n j r).length = r.length := by
  induction n with
  | zero => intro j r; rfl
  | succ n ih => intro j r; simp only [scF]; rw [ih, List.length_set]
theorem scale_length (v : B) (r : List B) : (scale v r).length = r.length := scF_length _ _ _ _
end Go.Proofs.YtnfgiamdmfkcjaaDoor.Red
namespace Go.Proofs.YtnfgiamdmfkcjaaDoor.Mx
open Go.Proofs.YtnfgiamdmfkcjaaDoor.Gf
abbrev Fm := Nat → Nat → B
/-- The sum of the first n. -/
def sm : Nat → (Nat → B) → B
 | 0, _ => 0#8
 | n + 1, f => sm n f ^^^ f n
theorem sm_congr {n : Nat} {f g : Nat → B} (h : ∀ i, i < n → f i = g i) : sm n f = sm n g := by
 induction n with
 | zero => rfl
 | succ n ih => simp only [sm]; rw [ih (fun i hi => h i (by omega)), h n (by omega)]
theorem sm_zero {n : Nat} {f : Nat → B} (h : ∀ i, i < n → f i = 0#8) : sm n f = 0#8 := by
 induction n with
 | zero => rfl
 | succ n ih => simp only [sm]; rw [ih (fun i hi => h i (by omega)), h n (by omega)]; rfl
theorem sm_add (n : Nat) (f g : Nat → B) : sm n (fun i => f i ^^^ g i) = sm n f ^^^ sm n g := by
 induction n with
 | zero => simp [sm]
 | succ n ih => simp only [sm]; rw [ih, xor_swap4]
theorem sm_mulL (n : Nat) (c : B) (f : Nat → B) : sm n (fun i => mul c (f i)) = mul c (sm n f) := by
 induction n with
 | zero => exact (mul_zero c).symm
 | succ n ih => simp only [sm]; rw [ih, mul_add]
theorem sm_mulR (n : Nat) (c : B) (f : Nat → B) : sm n (fun i => mul (f i) c) = mul (sm n f) c := by
 induction n with
 | zero => exact (zero_mul c).symm
 | succ n ih => simp only [sm]; rw [ih, add_mul]
theorem sm_swap (n m : Nat) (f : Nat → Nat → B) : sm n (fun i => sm m (f i)) = sm m (fun j => sm n (fun i => f i j)) := by
 induction n with
 | zero => exact (sm_zero (fun _ _ => rfl)).symm
 | succ n ih => simp only [sm]; rw [ih, ← sm_add]
theorem sm_single {n i : Nat} {f : Nat → B} (hi : i < n) (h : ∀ j, j < n → j ≠ i → f j = 0#8) : sm n f = f i := by
 induction n with
 | zero => omega
 | succ n ih =>
  simp only [sm]
  by_cases e : i = n
  ·subst e
   rw [sm_zero (fun j hj => h j (by omega) (by omega)), BitVec.zero_xor]
  ·rw [ih (by omega) (fun j hj hne => h j (by omega) hne), h n (by omega) (fun e2 => e e2.symm), BitVec.xor_zero]
/-- The product over n places. -/
def mm (n : Nat) (a b : Fm) : Fm := fun i j => sm n (fun k => mul (a i k) (b k j))
def I : Fm := fun i j => if i = j then 1#8 else 0#8
theorem mm_assoc (n p : Nat) (a b c : Fm) (i j : Nat) : mm p (mm n a b) c i j = mm n a (mm p b c) i j := by
 unfold mm
 rw [show (fun k => mul (sm n fun l => mul (a i l) (b l k)) (c k j)) = fun k => sm n fun l => mul (mul (a i l) (b l k)) (c k j) from funext fun k => (sm_mulR _ _ _).symm, sm_swap]
 refine sm_congr fun l _ => ?_
 rw [← sm_mulL]
 exact sm_congr fun k _ => mul_assoc _ _ _
theorem mm_congr {n : Nat} {a a' b b' : Fm} {i j : Nat} (h1 : ∀ k, k < n → a i k = a' i k) (h2 : ∀ k, k < n → b k j = b' k j) : mm n a b i j = mm n a' b' i j := sm_congr fun k hk => by rw [h1 k hk, h2 k hk]
theorem mm_IL {n : Nat} (a : Fm) {i : Nat} (j : Nat) (hi : i < n) : mm n I a i j = a i j := by
 unfold mm
 rw [sm_single hi (fun k _ hne => by unfold I; rw [if_neg (fun e => hne e.symm), zero_mul])]
 unfold I
 rw [if_pos rfl, one_mul]
theorem mm_IR {n : Nat} (a : Fm) (i : Nat) {j : Nat} (hj : j < n) : mm n a I i j = a i j := by
 unfold mm
 rw [sm_single hj (fun k _ hne => by unfold I; rw [if_neg hne, mul_zero])]
 unfold I
 rw [if_pos rfl, mul_one]
/-- E and F undo one another. -/
def Inv2 (n : Nat) (E F : Fm) : Prop := (∀ i j, i < n → j < n → mm n E F i j = I i j) ∧ ∀ i j, i < n → j < n → mm n F E i j = I i j
/-- A' is E times A, of n rows and m columns. -/
def Lt (n m : Nat) (E A A' : Fm) : Prop := ∀ i j, i < n → j < m → A' i j = mm n E A i j
/-- Both matrices were turned by one thing that can be undone. -/
def Rturn (n m p : Nat) (A Z A' Z' : Fm) : Prop := ∃ E F, Inv2 n E F ∧ Lt n m E A A' ∧ Lt n p E Z Z'
theorem Inv2.refl (n : Nat) : Inv2 n I I := ⟨fun i j hi _ => mm_IL I j hi, fun i j hi _ => mm_IL I j hi⟩
theorem Lt.refl (n m : Nat) (A : Fm) : Lt n m I A A := fun i j hi _ => (mm_IL A j hi).symm
theorem Rturn.refl (n m p : Nat) (A Z : Fm) : Rturn n m p A Z A Z := ⟨I, I, Inv2.refl n, Lt.refl n m A, Lt.refl n p Z⟩
theorem Lt.trans {n m : Nat} {E E' A A' A'' : Fm} (h : Lt n m E A A') (h' : Lt n m E' A' A'') : Lt n m (mm n E' E) A A'' := by
 intro i j hi hj
 rw [h' i j hi hj, mm_assoc]
 exact mm_congr (fun _ _ => rfl) (fun k hk => h k j hk hj)
theorem Inv2.half {n : Nat} {E F E' F' : Fm} (h : ∀ i j, i < n → j < n → mm n E F i j = I i j) (h' : ∀ i j, i < n → j < n → mm n E' F' i j = I i j) : ∀ i j, i < n → j < n → mm n (mm n E' E) (mm n F F') i j = I i j := by
 intro i j hi hj
 rw [mm_assoc, ← h' i j hi hj]
 refine mm_congr (fun _ _ => rfl) (fun k hk => ?_)
 rw [← mm_assoc, mm_congr (a' := I) (b' := F') (fun l hl => h k l hk hl) (fun _ _ => rfl), mm_IL _ _ hk]
theorem Inv2.trans {n : Nat} {E F E' F' : Fm} (h : Inv2 n E F) (h' : Inv2 n E' F') : Inv2 n (mm n E' E) (mm n F F') := ⟨Inv2.half h.1 h'.1, Inv2.half h'.2 h.2⟩
theorem Rturn.trans {n m p : Nat} {A Z A' Z' A'' Z'' : Fm} (h : Rturn n m p A Z A' Z') (h' : Rturn n m p A' Z' A'' Z'') : Rturn n m p A Z A'' Z'' := by
 obtain ⟨E, F, h1, h2, h3⟩ := h
 obtain ⟨E', F', h1', h2', h3'⟩ := h'
 exact ⟨_, _, h1.trans h1', h2.trans h2', h3.trans h3'⟩
theorem Rturn.congr {n m p : Nat} {A Z A' Z' A'' Z'' : Fm} (h : Rturn n m p A Z A' Z') (hA : ∀ i j, i < n → j < m → A'' i j = A' i j) (hZ : ∀ i j, i < n → j < p → Z'' i j = Z' i j) : Rturn n m p A Z A'' Z'' := by
 obtain ⟨E, F, h1, h2, h3⟩ := h
 exact ⟨E, F, h1, fun i j hi hj => (hA i j hi hj).trans (h2 i j hi hj), fun i j hi hj => (hZ i j hi hj).trans (h3 i j hi hj)⟩
/-- Two rows change places. -/
theorem Rturn.swap {n m p s t : Nat} (A Z : Fm) (hs : s < n) (ht : t < n) : Rturn n m p A Z (fun i => A (if i = t then s else if i = s then t else i)) (fun i => Z (if i = t then s else if i = s then t else i)) := by
 have hlt : ∀ i, i < n → (if i = t then s else if i = s then t else i) < n := by
  intro i hi
  by_cases e : i = t
  ·rw [if_pos e]; exact hs
  ·rw [if_neg e]
   by_cases e2 : i = s
   ·rw [if_pos e2]; exact ht
   ·rw [if_neg e2]; exact hi
 have hinv : ∀ i, (if (if i = t then s else if i = s then t else i) = t then s else if (if i = t then s else if i = s then t else i) = s then t else (if i = t then s else if i = s then t else i)) = i := by
  intro i
  by_cases e : i = t
  ·subst e
   simp only [if_true]
   by_cases e2 : s = i
   ·rw [if_pos e2, e2]
   ·rw [if_neg e2]
  ·simp only [if_neg e]
   by_cases e2 : i = s
   ·subst e2; simp
   ·simp [e2, e]
 have hE : ∀ (X : Fm) i j, i < n → mm n (fun i => I (if i = t then s else if i = s then t else i)) X i j = X (if i = t then s else if i = s then t else i) j := by
  intro X i j hi
  exact mm_IL (n := n) X (i := if i = t then s else if i = s then t else i) j (hlt i hi)
 have h2 : ∀ i j, i < n → j < n → mm n (fun i => I (if i = t then s else if i = s then t else i)) (fun i => I (if i = t then s else if i = s then t else i)) i j = I i j := by
  intro i j hi hj
  rw [hE _ i j hi, hinv]
 exact ⟨_, _, ⟨h2, h2⟩, fun i j hi hj => (hE A i j hi).symm, fun i j hi hj => (hE Z i j hi).symm⟩
/-- A row is multiplied. -/
theorem Rturn.scale {n m p d : Nat} {v : B} (A Z : Fm) (hv : v ≠ 0#8) : Rturn n m p A Z (fun i j => mul (if i = d then v else 1#8) (A i j)) (fun i j => mul (if i = d then v else 1#8) (Z i j)) := by
 have hE : ∀ (s : Nat → B) (X : Fm) i j, i < n → mm n (fun i l => mul (s i) (I i l)) X i j = mul (s i) (X i j) := by
  intro s X i j hi
  unfold mm
  rw [show (fun k => mul (mul (s i) (I i k)) (X k j)) = fun k => mul (s i) (mul (I i k) (X k j)) from funext fun k => mul_assoc _ _ _, sm_mulL]
  congr 1
  exact mm_IL X j hi
 refine ⟨fun i l => mul (if i = d then v else 1#8) (I i l), fun i l => mul (if i = d then inv v else 1#8) (I i l), ⟨fun i j hi hj => ?_, fun i j hi hj => ?_⟩, fun i j hi hj => (hE (fun i => if i = d then v else 1#8) A i j hi).symm, fun i j hi hj => (hE (fun i => if i = d then v else 1#8) Z i j hi).symm⟩
 ·rw [hE (fun i => if i = d then v else 1#8) _ i j hi, ← mul_assoc]
  by_cases e : i = d
  ·rw [if_pos e, if_pos e, mul_inv v hv, one_mul]
  ·rw [if_neg e, if_neg e, one_mul, one_mul]
 ·rw [hE (fun i => if i = d then inv v else 1#8) _ i j hi, ← mul_assoc]
  by_cases e : i = d
  ·rw [if_pos e, if_pos e, inv_mul v hv, one_mul]
  ·rw [if_neg e, if_neg e, one_mul, one_mul]
/-- A row's multiples are added to the others. -/
theorem Rturn.add {n m p d : Nat} (A Z : Fm) (x : Nat → B) (hd : d < n) (hx : x d = 0#8) : Rturn n m p A Z (fun i j => A i j ^^^ mul (x i) (A d j)) (fun i j => Z i j ^^^ mul (x i) (Z d j)) := by
 have hE : ∀ (X : Fm) i j, i < n → mm n (fun i l => I i l ^^^ mul (x i) (I d l)) X i j = X i j ^^^ mul (x i) (X d j) := by
  intro X i j hi
  unfold mm
  rw [show (fun k => mul (I i k ^^^ mul (x i) (I d k)) (X k j)) = fun k => mul (I i k) (X k j) ^^^ mul (x i) (mul (I d k) (X k j)) from funext fun k => by rw [add_mul, mul_assoc], sm_add, sm_mulL]
  congr 1
  ·exact mm_IL X j hi
  ·congr 1
   exact mm_IL X j hd
 have h2 : ∀ i j, i < n → j < n → mm n (fun i l => I i l ^^^ mul (x i) (I d l)) (fun i l => I i l ^^^ mul (x i) (I d l)) i j = I i j := by
  intro i j hi hj
  rw [hE _ i j hi, hx, zero_mul, BitVec.xor_zero, BitVec.xor_assoc, BitVec.xor_self, BitVec.xor_zero]
 exact ⟨_, _, ⟨h2, h2⟩, fun i j hi hj => (hE A i j hi).symm, fun i j hi hj => (hE Z i j hi).symm⟩
/-- If A was turned into the identity, beside it the identity into Z: Z is A's inverse on both sides. -/
theorem Rturn.inverse {n : Nat} {A A' Z' : Fm} (h : Rturn n n n A I A' Z') (hI : ∀ i j, i < n → j < n → A' i j = I i j) : (∀ i j, i < n → j < n → mm n Z' A i j = I i j) ∧ ∀ i j, i < n → j < n → mm n A Z' i j = I i j := by
 obtain ⟨E, F, h1, h2, h3⟩ := h
 have hZ : ∀ i j, i < n → j < n → Z' i j = E i j := fun i j hi hj => by rw [h3 i j hi hj, mm_IR _ _ hj]
 have hA : ∀ i j, i < n → j < n → A i j = F i j := by
  intro i j hi hj
  have e : mm n F (mm n E A) i j = A i j := by
   rw [← mm_assoc, mm_congr (a' := I) (b' := A) (fun k hk => h1.2 i k hi hk) (fun _ _ => rfl), mm_IL _ _ hi]
  rw [← e, mm_congr (a' := F) (b' := I) (fun _ _ => rfl) (fun k hk => by rw [← h2 k j hk hj, hI k j hk hj]), mm_IR _ _ hj]
 refine ⟨fun i j hi hj => ?_, fun i j hi hj => ?_⟩
 ·rw [mm_congr (a' := E) (b' := A) (fun k hk => hZ i k hi hk) (fun _ _ => rfl), ← h2 i j hi hj, hI i j hi hj]
 ·rw [mm_congr (a' := F) (b' := E) (fun k hk => hA i k hi hk) (fun k hk => hZ k j hk hj), h1.2 i j hi hj]
/-- If a row came to nothing, some of A's rows cancel out. -/
theorem Rturn.null {n m p : Nat} {A Z A' Z' : Fm} {d : Nat} (h : Rturn n m p A Z A' Z') (hd : d < n) (h0 : ∀ j, j < m → A' d j = 0#8) : ∃ y : Nat → B, (∀ j, j < m → sm n (fun k => mul (y k) (A k j)) = 0#8) ∧ ∃ k, k < n ∧ y k ≠ 0#8 := by
 obtain ⟨E, F, h1, h2, h3⟩ := h
 refine ⟨E d, fun j hj => (h2 d j hd hj).symm.trans (h0 j hj), Classical.byContradiction fun hn => ?_⟩
 have hz : ∀ k, k < n → E d k = 0#8 := fun k hk => Classical.byContradiction fun he => hn ⟨k, hk, he⟩
 have := h1.1 d d hd hd
 rw [show mm n E F d d = 0#8 from sm_zero fun k hk => by rw [hz k hk, zero_mul]] at this
 unfold I at this
 rw [if_pos rfl] at this
 exact absurd this (by decide)
theorem add_eq_zero {x y : B} (h : x ^^^ y = 0#8) : x = y := by
 have := congrArg (· ^^^ y) h
 simpa [BitVec.xor_assoc] using this
def sl : List B → (B → B) → B
 | [], _ => 0#8
 | x :: l, f => f x ^^^ sl l f
theorem sl_congr {l : List B} {f g : B → B} (h : ∀ x ∈ l, f x = g x) : sl l f = sl l g := by
 induction l with
 | nil => rfl
 | cons x l ih => simp only [sl]; rw [h x (by simp), ih (fun y hy => h y (by simp [hy]))]
theorem sl_zero {l : List B} {f : B → B} (h : ∀ x ∈ l, f x = 0#8) : sl l f = 0#8 := by
 induction l with
 | nil => rfl
 | cons x l ih => simp only [sl]; rw [h x (by simp), ih (fun y hy => h y (by simp [hy]))]; rfl
theorem sl_add (l : List B) (f g : B → B) : sl l (fun x => f x ^^^ g x) = sl l f ^^^ sl l g := by
 induction l with
 | nil => simp [sl]
 | cons x l ih => simp only [sl]; rw [ih, xor_swap4]
theorem sl_mulL (l : List B) (c : B) (f : B → B) : sl l (fun x => mul c (f x)) = mul c (sl l f) := by
 induction l with
 | nil => exact (mul_zero c).symm
 | cons x l ih => simp only [sl]; rw [ih, mul_add]
theorem mul_cancel {a b : B} (ha : a ≠ 0#8) (h : mul a b = 0#8) : b = 0#8 := Classical.byContradiction fun hb => mul_ne a b ha hb h
/-- (x0 + y) / (x + y) - (x0 + y0) / (x + y0) -/
theorem cauchy_term (x0 x y0 y : B) (h1 : x ^^^ y ≠ 0#8) (h2 : x ^^^ y0 ≠ 0#8) :
 mul (x0 ^^^ y) (inv (x ^^^ y)) ^^^ mul (x0 ^^^ y0) (inv (x ^^^ y0)) = mul (y0 ^^^ y) (mul (mul (x0 ^^^ x) (inv (x ^^^ y0))) (inv (x ^^^ y))) := by
 have e1 : mul (x0 ^^^ y) (inv (x ^^^ y)) = 1#8 ^^^ mul (x0 ^^^ x) (inv (x ^^^ y)) := by
  have : x0 ^^^ y = (x ^^^ y) ^^^ (x0 ^^^ x) := by
   rw [BitVec.xor_comm x0 x, xor_swap4, BitVec.xor_self, BitVec.zero_xor, BitVec.xor_comm]
  rw [this, add_mul, mul_inv _ h1]
 have e2 : mul (x0 ^^^ y0) (inv (x ^^^ y0)) = 1#8 ^^^ mul (x0 ^^^ x) (inv (x ^^^ y0)) := by
  have : x0 ^^^ y0 = (x ^^^ y0) ^^^ (x0 ^^^ x) := by
   rw [BitVec.xor_comm x0 x, xor_swap4, BitVec.xor_self, BitVec.zero_xor, BitVec.xor_comm]
  rw [this, add_mul, mul_inv _ h2]
 rw [e1, e2, xor_swap4, BitVec.xor_self, BitVec.zero_xor, ← mul_add]
 have e3 : inv (x ^^^ y) ^^^ inv (x ^^^ y0) = mul (y0 ^^^ y) (mul (inv (x ^^^ y0)) (inv (x ^^^ y))) := by
  have h3 : y0 ^^^ y = (x ^^^ y0) ^^^ (x ^^^ y) := by rw [xor_swap4, BitVec.xor_self, BitVec.zero_xor]
  rw [h3, add_mul, ← mul_assoc, mul_inv _ h2, one_mul]
  congr 1
  rw [mul_comm (inv (x ^^^ y0)), ← mul_assoc, mul_inv _ h1, one_mul]
 rw [e3, ← mul_assoc, ← mul_assoc, mul_comm (x0 ^^^ x), mul_assoc, mul_assoc, mul_assoc]
theorem cauchy_null : ∀ (P J : List B), P.Nodup → J.Nodup → (∀ x ∈ P, ∀ y ∈ J, x ≠ y) → P.length ≤ J.length → ∀ c : B → B, (∀ y ∈ J, sl P (fun x => mul (c x) (inv (x ^^^ y))) = 0#8) → ∀ x ∈ P, c x = 0#8 := by
 intro P
 induction P with
 | nil => intro J _ _ _ _ c _ x hx; simp at hx
 | cons x0 P ih =>
  intro J hP hJ hne hlen c h
  cases J with
  | nil => simp at hlen
  | cons y0 J =>
   rw [List.nodup_cons] at hP hJ
   have hn : ∀ x y, x ∈ x0 :: P → y ∈ y0 :: J → x ^^^ y ≠ 0#8 := fun x y hx hy e => hne x hx y hy (add_eq_zero e)
   have key : ∀ x ∈ P, mul (c x) (mul (x0 ^^^ x) (inv (x ^^^ y0))) = 0#8 := by
    refine ih J hP.2 hJ.2 (fun x hx y hy => hne x (by simp [hx]) y (by simp [hy])) (by simpa using hlen) _ ?_
    intro y hy
    have hy0 : y0 ^^^ y ≠ 0#8 := fun e => hJ.1 (by rw [add_eq_zero e]; exact hy)
    refine mul_cancel hy0 ?_
    rw [← sl_mulL]
    have a1 := h y (by simp [hy])
    have a2 := h y0 (by simp)
    have b1 : mul (x0 ^^^ y) (sl (x0 :: P) (fun x => mul (c x) (inv (x ^^^ y)))) ^^^ mul (x0 ^^^ y0) (sl (x0 :: P) (fun x => mul (c x) (inv (x ^^^ y0)))) = 0#8 := by rw [a1, a2, mul_zero, mul_zero]; rfl
    rw [← sl_mulL, ← sl_mulL, ← sl_add] at b1
    simp only [sl] at b1
    have b2 : mul (x0 ^^^ y) (mul (c x0) (inv (x0 ^^^ y))) ^^^ mul (x0 ^^^ y0) (mul (c x0) (inv (x0 ^^^ y0))) = 0#8 := by
     rw [mul_comm (c x0), ← mul_assoc, mul_inv _ (hn x0 y (by simp) (by simp [hy])), mul_comm (c x0) (inv (x0 ^^^ y0)), ← mul_assoc, mul_inv _ (hn x0 y0 (by simp) (by simp)), BitVec.xor_self]
    rw [b2, BitVec.zero_xor] at b1
    rw [← b1]
    refine sl_congr fun x hx => ?_
    have ht := cauchy_term x0 x y0 y (hn x y (by simp [hx]) (by simp [hy])) (hn x y0 (by simp [hx]) (by simp))
    have e1 : ∀ s t, mul s (mul (c x) t) = mul (c x) (mul s t) := fun s t => by rw [← mul_assoc, mul_comm s, mul_assoc]
    rw [e1, e1, ← mul_add, ht, mul_assoc, e1]
   have hx : ∀ x ∈ P, c x = 0#8 := by
    intro x hx
    have hne0 : x0 ^^^ x ≠ 0#8 := fun e => hP.1 (by rw [add_eq_zero e]; exact hx)
    have := key x hx
    rw [mul_comm] at this
    exact mul_cancel (mul_ne _ _ hne0 (inv_ne _ (hn x y0 (by simp [hx]) (by simp)))) this
   intro x hxm
   rcases List.mem_cons.1 hxm with rfl | hxm
   ·have a2 := h y0 (by simp)
    simp only [sl] at a2
    rw [sl_zero (fun z hz => by rw [hx z hz, zero_mul]), BitVec.xor_zero, mul_comm] at a2
    exact mul_cancel (inv_ne _ (hn x y0 (by simp) (by simp))) a2
   ·exact hx x hxm
end Go.Proofs.YtnfgiamdmfkcjaaDoor.Mx
