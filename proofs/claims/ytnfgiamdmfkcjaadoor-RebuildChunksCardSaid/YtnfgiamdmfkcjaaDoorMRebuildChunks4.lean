/- Words and walks that the claim RebuildChunks leans on (what it does not use is left out). -/
import Derived.Test.YtnfgiamdmfkcjaaDoorMRebuildChunks1
import Derived.Test.YtnfgiamdmfkcjaaDoorMRebuildChunks3
import Derived.Test.YtnfgiamdmfkcjaaDoorMRebuildChunks2
set_option linter.unusedSimpArgs false
set_option linter.unusedVariables false
namespace Go.Proofs.YtnfgiamdmfkcjaaDoor.P
open Go.Proofs.YtnfgiamdmfkcjaaDoor.Leaf
open Go.RowKit Go.Proofs.YtnfgiamdmfkcjaaDoorW.PrintWords Go.Proofs.YtnfgiamdmfkcjaaDoorW.PrintLast Go.Proofs.YtnfgiamdmfkcjaaDoorW.PrintMore
attribute [local go_sem] max2_int min2_int max_two min_two max_three min_three max_four min_four
def wId_.l0 : Nat → Int → List (List Int) → Int → Option ((List (List Int)))
 | 0, _, _, _ => none
 | k + 1, x0, x3, x4 => if x4 < x0 then (if 0 ≤ x0 then (if (x0 : Int).toNat ≤ 281474976710656 then ((some (List.replicate (x0 : Int).toNat 0 : List Int)).bind fun y104 => (if 0 ≤ x4 then (if x4 < (y104.length : Int) then (if x3.length < 5864062014805 then (wId_.l0 k x0 (x3 ++ [(y104.set (x4 : Int).toNat 1)]) (wrap64 (x4 + 1))) else (none)) else (none)) else (none))) else (none)) else (none)) else (some x3)
def wId_.f (k : Nat) (a0 : Int) : Option ((List (List Int))) := wId_.l0 k a0 (([] : List (List Int))) 0
theorem wId_.mono_l : ∀ k, (∀ y0 y1 y2, LeO (wId_.l0 k y0 y1 y2) (wId_.l0 (k + 1) y0 y1 y2))
 | 0 => fun _ _ _ r h => by simp [wId_.l0] at h
 | k + 1 => by
  have ih0 := wId_.mono_l k
  ·intro y0 y1 y2
   unfold wId_.l0
   repeat' first
   | (with_reducible exact ih0 _ _ _)
   | (with_reducible exact LeO.refl _)
   | (with_reducible exact LeO.none _)
   | (with_reducible refine LeO.ite ?_ ?_)
   | (with_reducible refine LeO.bind ?_ (fun _ => ?_))
   | exact ih0 _ _ _
   | exact LeO.none _
   | refine LeO.ite ?_ ?_
   | refine LeO.bind ?_ (fun _ => ?_)
theorem wId_.mono : ∀ a0 k, LeO (wId_.f k a0) (wId_.f (k + 1) a0) := by
 intro a0 k
 have ih0 := wId_.mono_l k
 unfold wId_.f
 repeat' first
  | (with_reducible exact ih0 _ _ _)
  | (with_reducible exact LeO.refl _)
  | (with_reducible exact LeO.none _)
  | (with_reducible refine LeO.ite ?_ ?_)
  | (with_reducible refine LeO.bind ?_ (fun _ => ?_))
  | exact ih0 _ _ _
  | exact LeO.none _
  | refine LeO.ite ?_ ?_
  | refine LeO.bind ?_ (fun _ => ?_)
set_option maxHeartbeats 8000000 in
set_option maxRecDepth 100000 in
theorem wId_.calls (k : Nat) (a0 : Int) (r : List (List Int)) (w : World) (h : wId_.f k a0 = some r) :
 Calls Tryd.prog 82 #[.int .i64 a0] w fun e w' => ∃ v0_ : Value, e = .returned (v0_) ∧ Kd.S (Kd.slice 5 (Kd.int .u8)) 22 w' w.heap.size (fun _ => True) v0_ r ∧ Below w.heap.size w w' := by
 have HB := Aside0.mk (Below.refl w.heap.size w)
 have H : (wId_.l0 k a0 (([] : List (List Int))) 0) = some r := h
 clear h
 obtain ⟨y101, hy101⟩ : ∃ y_ : List (List Int), y_ = (([] : List (List Int))) := ⟨_, rfl⟩
 replace H : (wId_.l0 k a0 y101 0) = some r := by first | (rw [hy101]; with_reducible exact H) | (have H2_ := (Option.bind_some _ _).symm.trans H; rw [hy101]; with_reducible exact H2_) | (have H2_ := (Option.bind_some _ _).symm.trans H; with_reducible exact H2_) | with_reducible exact H | (rw [hy101]; exact H) | exact H
 have Ny101 := Aside0.mk hy101
 clear hy101
 have H' := Aside0.mk H
 clear H
 go_enter Tryd.func82, Tryd.ntmps82
 go_wp2_with (first | ((with_reducible refine gate_dst (N := 6) rfl ?_); refine Kd.S_lit (Kd.slice 5 (Kd.int .u8)) _ 22 ?hg (N := 6) ?hd (xs := ([] : List (List Int))) (inner := []) (ok := fun _ => True) (okp := fun _ => True) ?hr ?hp (fun _ hk => hk) trivial (Below.refl _ _) (Nat.le_refl _) (by simp) ?_; (case hd => rfl); (case hg => rfl); (case hr => first | (go_simp; done) | (go_simp; rfl)); (case hp => exact (Reps.none _ _)); intro v102 w2 ho3 hb hg_ hnew_; clear hg_ hnew_; (first | rw [← Ny101.out] at ho3 | (simp only [Int.reduceToNat] at ho3; rw [← Ny101.out] at ho3)); have n0_ := Aside0.mk (Kd.S_lower ho3 (zF_ (by repeat (first | (with_reducible first | exact HB.out | apply zC_ | apply zA_ | apply zB_) | exact HB.out)))); have n1_ := Aside0.mk (zE_ (by repeat (first | (with_reducible first | exact HB.out | apply zC_ | apply zA_ | apply zB_) | exact HB.out)) hb); clear HB; have HO103 := n0_; have HB := n1_; clear n0_ n1_; clear hb ho3))
 go_loopg [3, 4] k (fun kq v3 v4 w' => ∃ (x3_1 : List (List Int)) (x4_1 : Int), v4 = .int .i64 x4_1 ∧ Aside0 (wId_.l0 kq a0 x3_1 x4_1 = some r) ∧ Aside0 (kq ≤ k) ∧ Aside0 (Kd.S (Kd.slice 5 (Kd.int .u8)) 22 w' w.heap.size (fun _ => True) v3 x3_1) ∧ Aside0 (Below w.heap.size w w'))
 case atStart => exact ⟨(y101), (0), (by first | rfl | (simp; done) | (simp [*]; done)), H', ⟨Nat.le_refl _⟩, ⟨by (with_reducible repeat (first | apply Kd.S_alloc | apply Kd.S_drewN | apply Kd.S_drew)); exact HO103.out⟩, ⟨by repeat (first | (with_reducible first | exact HB.out | apply zC_ | apply zA_ | apply zB_) | exact HB.out)⟩⟩
 case round =>
  clear H'
  try clear p2
  obtain ⟨x3_1, x4_1, rfl, HA, HK1, HO_3, HB⟩ := hrel
  cases gk with
  | zero => exact absurd HA.out (by simp [wId_.l0])
  | succ k1 =>
   have H := HA.out
   clear HA
   simp only [wId_.l0] at H
   by_cases c4 : x4_1 < a0
   ·rw [if_pos c4] at H
    have c4b0 : decide (x4_1 < a0) = true := decide_eq_true c4
    clear c4
    by_cases c5 : 0 ≤ a0
    ·rw [if_pos c5] at H
     have c5b0 := eq_true c5
     have c5b1 : decide (0 ≤ a0) = true := decide_eq_true c5
     clear c5
     by_cases c6 : (a0 : Int).toNat ≤ 281474976710656
     ·rw [if_pos c6] at H
      have c6b0 := eq_true c6
      have c6b1 : decide ((a0 : Int).toNat ≤ 281474976710656) = true := decide_eq_true c6
      clear c6
      obtain ⟨y104, hy104⟩ : ∃ y_ : List Int, y_ = (List.replicate (a0 : Int).toNat 0) := ⟨_, rfl⟩
      replace H : (if 0 ≤ x4_1 then (if x4_1 < (y104.length : Int) then (if x3_1.length < 5864062014805 then (wId_.l0 k1 a0 (x3_1 ++ [(y104.set (x4_1 : Int).toNat 1)]) (wrap64 (x4_1 + 1))) else (none)) else (none)) else (none)) = some r := by first | (rw [hy104]; with_reducible exact H) | (have H2_ := (Option.bind_some _ _).symm.trans H; rw [hy104]; with_reducible exact H2_) | (have H2_ := (Option.bind_some _ _).symm.trans H; with_reducible exact H2_) | with_reducible exact H | (rw [hy104]; exact H) | exact H
      have Ny104 := Aside0.mk hy104
      clear hy104
      by_cases c7 : 0 ≤ x4_1
      ·rw [if_pos c7] at H
       have c7b0 : decide (0 ≤ x4_1) = true := decide_eq_true c7
       clear c7
       by_cases c8 : x4_1 < (y104.length : Int)
       ·rw [if_pos c8] at H
        have c8b0 : decide (x4_1 < (y104.length : Int)) = true := decide_eq_true c8
        clear c8
        obtain ⟨y107, hy107⟩ : ∃ y_ : List Int, y_ = (y104.set (x4_1 : Int).toNat 1) := ⟨_, rfl⟩
        replace H : (if x3_1.length < 5864062014805 then (wId_.l0 k1 a0 (x3_1 ++ [y107]) (wrap64 (x4_1 + 1))) else (none)) = some r := by first | (rw [hy107]; with_reducible exact H) | (have H2_ := (Option.bind_some _ _).symm.trans H; rw [hy107]; with_reducible exact H2_) | (have H2_ := (Option.bind_some _ _).symm.trans H; with_reducible exact H2_) | with_reducible exact H | (rw [hy107]; exact H) | exact H
        have Ny107 := Aside0.mk hy107
        clear hy107
        by_cases c10 : x3_1.length < 5864062014805
        ·rw [if_pos c10] at H
         have LMc10 := Aside0.mk c10
         clear c10
         obtain ⟨y108, hy108⟩ : ∃ y_ : List (List Int), y_ = (x3_1 ++ [y107]) := ⟨_, rfl⟩
         replace H : (wId_.l0 k1 a0 y108 (wrap64 (x4_1 + 1))) = some r := by first | (rw [hy108]; with_reducible exact H) | (have H2_ := (Option.bind_some _ _).symm.trans H; rw [hy108]; with_reducible exact H2_) | (have H2_ := (Option.bind_some _ _).symm.trans H; with_reducible exact H2_) | with_reducible exact H | (rw [hy108]; exact H) | exact H
         have Ny108 := Aside0.mk hy108
         clear hy108
         have H' := Aside0.mk H
         clear H
         go_wp2_with (first | ((with_reducible refine gate_dst (N := 13) rfl ?_); refine Kd.R_make (Kd.int .u8) _ 5 rfl (N := 13) rfl 22 _ _ rfl a0 rfl rfl Tryd.underlying22 (.int .u8 0) 1 info5 rfl (by decide) (by omega) 0 (ok := fun _ => True) (okp := fun _ => True) rfl (fun _ hk => hk) trivial (of_decide_eq_true (by first | (with_reducible assumption) | assumption)) (Nat.le_trans (Nat.mul_le_mul_right _ (of_decide_eq_true (by first | (with_reducible assumption) | assumption) : a0.toNat ≤ 281474976710656)) (by omega)) (Below.refl _ _) (Nat.le_refl _) ?_; intro v105 w11 ho12 hb hg_ hnew_; clear hg_ hnew_; (first | rw [← Ny104.out] at ho12 | (simp only [Int.reduceToNat] at ho12; rw [← Ny104.out] at ho12)); have n0_ := Aside0.mk (Kd.S_elder' (by (with_reducible repeat (first | apply Kd.S_alloc | apply Kd.S_drewN | apply Kd.S_drew)); exact HO_3.out) (Kd.R_base ho12) hb); have n1_ := Aside0.mk (Kd.R_lower ho12 (zF_ (by repeat (first | (with_reducible first | exact HB.out | apply zC_ | apply zA_ | apply zB_) | exact HB.out)))); have n2_ := Aside0.mk (zE_ (by repeat (first | (with_reducible first | exact HB.out | apply zC_ | apply zA_ | apply zB_) | exact HB.out)) hb); clear HO_3; clear HB; have HO_3 := n0_; have HO106 := n1_; have HB := n2_; clear n0_ n1_ n2_; clear hb ho12; have p9 : 0 ≤ (x4_1 : Int) := of_decide_eq_true (by first | (with_reducible assumption) | assumption); have q9 : (x4_1 : Int) < ((y104.length : Int) : Int) := of_decide_eq_true (by first | (with_reducible assumption) | assumption); obtain ⟨go9, co9, eo9, gb9, gl9, cl9, HG9⟩ := Kd.R_form HO106.out (by omega); (first | cases eo9 | (injection eo9 with ea_ en_ ec_; (first | subst ea_ | (injection ea_ with ea_; subst ea_)); subst ec_; clear en_)); have GB9 := Aside0.mk gb9; have GG9 := Aside0.mk HG9; clear gb9 gl9 HG9; obtain ⟨hx9_0, hf9_0⟩ := Kd.R_celln 0 HO106.out (x4_1 : Int) p9 q9; replace p9 := eq_true p9; replace q9 := eq_true q9; obtain ⟨hy13_, hz13_⟩ := Kd.R_celln 0 HO106.out (x4_1 : Int) (of_decide_eq_true (by first | (with_reducible assumption) | assumption)) (of_decide_eq_true (by first | (with_reducible assumption) | assumption)); have HP13 := Kd.R_putg HO106.out (x4_1 : Int) 1) | ((with_reducible refine gate_store (t := 5) (p := 16) rfl ?_); refine store_event (t := 5) (p := 16) (v := ?vo_w14) (w1 := (w11.setCell ⟨go9, (x4_1 : Int).toNat, none⟩ (.int .u8 1))) ?hg ?ho ?hn ?hr ?_; (case ho => rfl); (case hg => rfl); (case hn => rfl); (case hr => first | (go_simp; done) | (go_simp; rfl)); intro w14 hw; have hg : w11.grownBy w14 (some go9) := (by rw [hw]; exact HP13.2); have hp_ : Kd.R (Kd.int .u8) 5 w14 w.heap.size (fun _ => True) (.slice (some ⟨go9, 0, none⟩) y104.length co9) y107 := (by rw [hw, Ny107.out]; exact HP13.1); clear HP13; have n0_ := Aside0.mk (Kd.S_after (v := (.slice (some ⟨go9, 0, none⟩) y104.length co9)) (v1 := (.slice (some ⟨go9, 0, none⟩) y104.length co9)) (ok := (fun _ => True)) (by (with_reducible repeat (first | apply Kd.S_alloc | apply Kd.S_drewN | apply Kd.S_drew)); exact HO_3.out) hg (.inl rfl)); have n1_ := Aside0.mk (hp_); have n2_ := Aside0.mk ((by rw [hw]; exact below_set (HB.out) GB9.out : Below w.heap.size w w14)); clear HO_3; clear HO106; clear HB; have HO_3 := n0_; have HO106 := n1_; have HB := n2_; clear n0_ n1_ n2_; clear hg hw hp_) | ((with_reducible refine gate_builtin (b := .append) (xs := #[.tmp 17, .tmp 19]) rfl ?_); at_builtin; refine Kd.S_append (Kd.slice 5 (Kd.int .u8)) (w0 := w) w.heap.size rfl (.tmp 17) (.tmp 19) 26 22 (.slice none 0 0) 24 rfl Tryd.underlying26 info22 rfl (by decide) (by omega) u3 x3_1 y107 [.slice (some ⟨go9, 0, none⟩) y104.length co9] (fun _ => True) (fun k_ => some k_ = (.slice (some ⟨go9, 0, none⟩) y104.length co9 : Value).ownBlock) rfl rfl ?aP (fun k_ hk_ => ((Kd.R_mono (ok' := fun k_ => ((fun _ => True)) k_ ∧ some k_ ≠ (u3 : Value).ownBlock) (Kd.R_apart' (HO106.out) (Kd.S_typed HO_3.out) (by decide)) (fun k_ hk => ⟨trivial, hk.2⟩))).1 k_ hk_.symm) ?aF ?aO ?aB ?aS ?aL ?_; (case aP => exact Kd.M_row (Kd.R_mono (Kd.R_tight rfl (Kd.R_mono (ok' := fun k_ => ((fun _ => True)) k_ ∧ some k_ ≠ (u3 : Value).ownBlock) (Kd.R_apart' (HO106.out) (Kd.S_typed HO_3.out) (by decide)) (fun k_ hk => ⟨trivial, hk.2⟩))) (fun _ h_ => h_))); (case aB => exact (by repeat (first | (with_reducible first | exact HB.out | apply zC_ | apply zA_ | apply zB_) | exact HB.out))); (case aF => exact (fun _ _ => trivial)); (case aO => exact (by (with_reducible repeat (first | apply Kd.S_alloc | apply Kd.S_drewN | apply Kd.S_drew)); exact Kd.S_mono HO_3.out (fun k_ hk => ⟨trivial, fun e_ => hk.2 e_⟩))); (case aS => exact (zF_ (by repeat (first | (with_reducible first | exact HB.out | apply zC_ | apply zA_ | apply zB_) | exact HB.out)))); (case aL => have := LMc10.out; omega); intro v109 w15 ho hb hg hat; rw [← Ny108.out] at ho; have n0_ := Aside0.mk (hb); have n1_ := Aside0.mk (ho); clear HB; clear HO_3; clear HO106; have HB := n0_; have HO110 := n1_; clear n0_ n1_; clear ho hb hg hat))
         go_roundg k1
         case measure => have := HK1.out; omega
         case rel => exact ⟨(y108), (wrap64 (x4_1 + 1)), (by first | rfl | (simp; done) | (simp [*]; done)), H', ⟨by have := HK1.out; omega⟩, ⟨by (with_reducible repeat (first | apply Kd.S_alloc | apply Kd.S_drewN | apply Kd.S_drew)); exact HO110.out⟩, ⟨by repeat (first | (with_reducible first | exact HB.out | apply zC_ | apply zA_ | apply zB_) | exact HB.out)⟩⟩
        ·rw [if_neg c10] at H
         exact absurd H (by simp)
       ·rw [if_neg c8] at H
        exact absurd H (by simp)
      ·rw [if_neg c7] at H
       exact absurd H (by simp)
     ·rw [if_neg c6] at H
      exact absurd H (by simp)
    ·rw [if_neg c5] at H
     exact absurd H (by simp)
   ·rw [if_neg c4] at H
    have c4b0 : decide (x4_1 < a0) = false := decide_eq_false c4
    clear c4
    obtain rfl := Option.some.inj H
    go_wp2
    go_ret
    exact ⟨_, by first | rfl | (simp [errW_none, errW_some] <;> rfl) | (simp [*, errW_none, errW_some] <;> rfl), by (with_reducible repeat (first | apply Kd.S_alloc | apply Kd.S_drewN | apply Kd.S_drew)); exact HO_3.out, by repeat (first | (with_reducible first | exact HB.out | apply zC_ | apply zA_ | apply zB_) | exact HB.out)⟩
end Go.Proofs.YtnfgiamdmfkcjaaDoor.P
namespace Go.Proofs.YtnfgiamdmfkcjaaDoor.Red
open Go.RowKit Go.Proofs.YtnfgiamdmfkcjaaDoorW.PrintWords Go.Proofs.YtnfgiamdmfkcjaaDoor.Leaf Go.Proofs.YtnfgiamdmfkcjaaDoor.Gf Go.Proofs.YtnfgiamdmfkcjaaDoor.H Go.Proofs.YtnfgiamdmfkcjaaDoor.Mx Go.Proofs.YtnfgiamdmfkcjaaDoor.P
def oM (A : Mat) : List (List Int) := A.map ofL
theorem oM_length (A : Mat) : (oM A).length = A.length := List.length_map _
theorem rd_oM (A : Mat) (i : Nat) : rd_L1 (oM A) (i : Int) = ofL (row A i) := map_getD A i
theorem rd_oM0 (A : Mat) : rd_L1 (oM A) 0 = ofL (row A 0) := map_getD A 0
theorem oM_set (A : Mat) (i : Nat) (r : List B) : (oM A).set i (ofL r) = oM (A.set i r) := map_set A i r
theorem oM_append (A C : Mat) : oM A ++ oM C = oM (A ++ C) := by unfold oM; rw [List.map_append]
theorem oM_one (r : List B) : [ofL r] = oM [r] := rfl
def zeroM (n m : Nat) : Mat := List.replicate n (List.replicate m 0#8)
theorem zeroM_reg (n m : Nat) : Reg (zeroM n m) n m := by
 refine ⟨List.length_replicate .., fun i hi => ?_⟩
 unfold row zeroM
 rw [List.getD_eq_getElem?_getD, List.getElem?_replicate, if_pos hi]
 simp
theorem el_zeroM {n m i j : Nat} (hi : i < n) (hj : j < m) : el (zeroM n m) i j = 0#8 := by
 unfold el row zeroM at0
 rw [List.getD_eq_getElem?_getD (l := List.replicate n _), List.getElem?_replicate, if_pos hi]
 rw [Option.getD_some, List.getD_eq_getElem?_getD, List.getElem?_replicate, if_pos hj]
 rfl
theorem zeros_l0 (n m : Nat) (hm : m ≤ 281474976710656) (hn : n < 2 ^ 62) (d : Nat) : ∀ (i : Nat) (X : List (List Int)), i + d = n → X.length = n → (∀ j, j < i → X.getD j [] = List.replicate m 0) → Ev (fun k => matrix_zeros.l0 k (m : Int) X (n : Int) (i : Int)) (List.replicate n (List.replicate m 0)) := by
 induction d with
 | zero =>
  intro i X hi hl h
  refine Ev.step (f := fun _ => some X) (fun k => ?_) ?_
  ·simp only [matrix_zeros.l0]
   rw [if_neg (by omega)]
  ·rw [show List.replicate n (List.replicate m (0 : Int)) = X from List.ext_getElem (by rw [List.length_replicate, hl]) fun j h1 h2 => by
    have h3 := h j (by omega)
    rw [List.getD_eq_getElem?_getD, List.getElem?_eq_getElem h2] at h3
    rw [List.getElem_replicate]
    exact h3.symm]
   exact Ev.now _
 | succ d ih =>
  intro i X hi hl h
  refine Ev.step (f := fun k => matrix_zeros.l0 k (m : Int) (X.set i (List.replicate m 0)) (n : Int) ((i + 1 : Nat) : Int)) (fun k => ?_) (ih (i + 1) _ (by omega) (by rw [List.length_set]; exact hl) (fun j hj => ?_))
  ·simp only [matrix_zeros.l0, hl, Int.toNat_natCast]
   rw [if_pos (by omega), if_pos (by omega), if_pos hm, if_pos (by omega), if_pos (by omega), w64 _ (by omega) (by omega)]
   rfl
  ·simp only [List.getD_eq_getElem?_getD, List.getElem?_set]
   by_cases e : i = j
   ·subst e; rw [if_pos rfl, if_pos (by omega)]; rfl
   ·rw [if_neg e]
    have := h j (by omega)
    rwa [List.getD_eq_getElem?_getD] at this
theorem evZeros (n m : Nat) (hm : m ≤ 281474976710656) (hn : n ≤ 11728124029610) : Ev (fun k => matrix_zeros.f k (n : Int) (m : Int)) (oM (zeroM n m)) := by
 unfold matrix_zeros.f
 simp only [show ((0 : Int) ≤ (n : Int)) = True from eq_true (by omega), if_true, Int.toNat_natCast, show (n ≤ 11728124029610) = True from eq_true hn, Option.bind_some, List.length_replicate]
 have e : oM (zeroM n m) = List.replicate n (List.replicate m 0) := by unfold oM zeroM; rw [List.map_replicate, ofL_replicate]
 rw [e]
 exact zeros_l0 n m hm (by omega) n 0 _ (by omega) (List.length_replicate ..) (fun j hj => by omega)
theorem set_one (r : List B) (i : Nat) : (ofL r).set i 1 = ofL (r.set i 1#8) := by rw [← ofB_one, ofL_set]
/-- The identity's rows, the first i of them done. -/
theorem id_l0 (n : Nat) (hn : n ≤ 255) (d : Nat) : ∀ i : Nat, i + d = n → Ev (fun k => wMi_.l0 k (oM (matF n n (fun a b => if a < i then I a b else 0#8))) (n : Int) (i : Int)) (oM (idM n), 0) := by
 induction d with
 | zero =>
  intro i hi
  refine Ev.step (f := fun _ => some (oM (idM n), 0)) (fun k => ?_) (Ev.now _)
  simp only [wMi_.l0]
  rw [if_neg (by omega), idM_eq, mat_ext (matF_reg n n _) (matF_reg n n I) (fun a b ha hb => by rw [el_matF _ ha hb, el_matF _ ha hb, if_pos (by omega)])]
 | succ d ih =>
  intro i hi
  have hr := (matF_reg n n (fun a b => if a < i then I a b else 0#8))
  have e : (matF n n (fun a b => if a < i then I a b else 0#8)).set i ((row (matF n n (fun a b => if a < i then I a b else 0#8)) i).set i 1#8) = matF n n (fun a b => if a < i + 1 then I a b else 0#8) := by
   refine mat_ext (hr.set (by omega) (by rw [List.length_set]; exact hr.2 i (by omega))) (matF_reg n n _) (fun a b ha hb => ?_)
   unfold el
   rw [row_set _ _ _ _ (by rw [hr.1]; omega)]
   show _ = el (matF n n _) a b
   rw [el_matF _ ha hb]
   by_cases e : a = i
   ·subst e
    rw [if_pos rfl, at0_set _ _ _ _ (by rw [hr.2 a ha]; exact ha)]
    by_cases e2 : a = b
    ·rw [if_pos e2, if_pos (by omega)]; unfold I; rw [if_pos e2]
    ·rw [if_neg e2]
     show el (matF n n _) a b = _
     rw [el_matF _ ha hb, if_neg (by omega), if_pos (by omega)]
     unfold I; rw [if_neg e2]
   ·rw [if_neg e]
    show el (matF n n _) a b = _
    rw [el_matF _ ha hb]
    by_cases e2 : a < i
    ·rw [if_pos e2, if_pos (by omega)]
    ·rw [if_neg e2, if_neg (by omega)]
  refine Ev.step (f := fun k => wMi_.l0 k (oM (matF n n (fun a b => if a < i + 1 then I a b else 0#8))) (n : Int) ((i + 1 : Nat) : Int)) (fun k => ?_) (ih (i + 1) (by omega))
  simp only [wMi_.l0, oM_length, rd_oM, zG_, hr.1, hr.2 i (by omega), Int.toNat_natCast]
  rw [if_pos (by omega), if_pos (by omega), if_pos (by omega), if_pos (by omega), set_one, oM_set, e, w64 _ (by omega) (by omega)]
  rfl
def idR (n : Int) : List (List Int) × Int := if 1 ≤ n ∧ n ≤ 255 then (oM (idM n.toNat), 0) else ([], 1)
theorem evIdentity (n : Int) : Ev (fun k => wMi_.f k n) (idR n) := by
 unfold wMi_.f idR
 have j1 : Ev (fun k => wMi_.j0 k n true) ([], 1) := Ev.step (f := fun _ => some ([], 1)) (fun k => by simp only [wMi_.j0, if_true]) (Ev.now _)
 by_cases h1 : n < 1
 ·simp only [show (n < 1) = True from eq_true h1, if_true]
  rw [if_neg (by omega)]
  exact j1
 ·simp only [show (n < 1) = False from eq_false h1, if_false]
  by_cases h2 : n > 255
  ·simp only [show decide (n > 255) = true from decide_eq_true h2]
   rw [if_neg (by omega)]
   exact j1
  ·simp only [show decide (n > 255) = false from decide_eq_false h2]
   rw [if_pos (by omega)]
   obtain ⟨m, rfl⟩ := Int.eq_ofNat_of_zero_le (show 0 ≤ n by omega)
   rw [Int.toNat_natCast]
   have hz : zeroM m m = matF m m (fun a b => if a < 0 then I a b else 0#8) := mat_ext (zeroM_reg m m) (matF_reg m m _) fun a b ha hb => by rw [el_zeroM ha hb, el_matF _ ha hb, if_neg (by omega)]
   refine Ev.step (f := fun k => (matrix_zeros.f k (m : Int) (m : Int)).bind fun t101 => wMi_.l0 k t101 (t101.length : Int) 0) (fun k => by simp only [wMi_.j0, Bool.false_eq_true, if_false]) ?_
   refine Ev.bind (evZeros m m (by omega) (by omega)) ?_
   rw [oM_length, (zeroM_reg m m).1, hz]
   exact id_l0 m (by omega) m 0 (by omega)
theorem refId_l0 (n : Nat) (hn : n ≤ 281474976710656) (hn2 : n < 5864062014805) (d : Nat) : ∀ i : Nat, i + d = n → Ev (fun k => wId_.l0 k (n : Int) (oM (matF i n I)) (i : Int)) (oM (idM n)) := by
 induction d with
 | zero =>
  intro i hi
  obtain rfl : i = n := by omega
  refine Ev.step (f := fun _ => some (oM (matF i i I))) (fun k => ?_) (Ev.now _)
  simp only [wId_.l0]
  rw [if_neg (by omega)]
 | succ d ih =>
  intro i hi
  refine Ev.step (f := fun k => wId_.l0 k (n : Int) (oM (matF (i + 1) n I)) ((i + 1 : Nat) : Int)) (fun k => ?_) (ih (i + 1) (by omega))
  simp only [wId_.l0, Int.toNat_natCast, Option.bind_some, List.length_replicate, oM_length, (matF_reg i n I).1]
  have e : (List.replicate n (0 : Int)).set i 1 = ofL ((List.range n).map (I i)) := by
   rw [ofL_replicate, ← ofB_one, ofL_set]
   congr 1
   refine ext0 (by simp) fun j hj => ?_
   simp only [List.length_set, List.length_replicate] at hj
   rw [at0_set _ _ _ _ (by rw [List.length_replicate]; omega), at0_map _ _ _ hj]
   unfold I
   by_cases e : i = j
   ·rw [if_pos e, if_pos e]
   ·rw [if_neg e, if_neg e]
    unfold at0
    simp [List.getD_eq_getElem?_getD, hj]
  rw [if_pos (by omega), if_pos (by omega), if_pos hn, if_pos (by omega), if_pos (by omega), if_pos (by omega), e, oM_one, oM_append, w64 _ (by omega) (by omega)]
  have e2 : matF i n I ++ [(List.range n).map (I i)] = matF (i + 1) n I := by unfold matF; rw [List.range_succ, List.map_append]; rfl
  rw [e2]
  rfl
theorem evRefIdentity (n : Nat) (hn : n < 5864062014805) : Ev (fun k => wId_.f k (n : Int)) (oM (idM n)) := by
 unfold wId_.f
 exact refId_l0 n (by omega) hn n 0 (by omega)
theorem uneven {A : Mat} (h : ¬ ∀ j, j < A.length → (row A j).length = (row A 0).length) : ∃ j, j < A.length ∧ (row A j).length ≠ (row A 0).length := by
 apply Classical.byContradiction
 intro hn
 exact h fun j hj => Classical.byContradiction fun he => hn ⟨j, hj, he⟩
/-- The product. -/
def mulM (A C : Mat) : Mat := matF A.length (row C 0).length (mm C.length (el A) (el C))
theorem mulM_reg {A C : Mat} {n m p : Nat} (hA : Reg A n m) (hC : Reg C m p) (hm : 0 < m) : Reg (mulM A C) n p := by
 unfold mulM
 rw [hA.1, hC.2 0 hm]
 exact matF_reg n p _
theorem el_mulM {A C : Mat} {n m p : Nat} (hA : Reg A n m) (hC : Reg C m p) (hm : 0 < m) {i j : Nat} (hi : i < n) (hj : j < p) : el (mulM A C) i j = mm m (el A) (el C) i j := by
 unfold mulM
 rw [hA.1, hC.1, hC.2 0 hm, el_matF _ hi hj]
theorem mulM_assoc {A C D : Mat} {n m p q : Nat} (hA : Reg A n m) (hC : Reg C m p) (hD : Reg D p q) (hm : 0 < m) (hp : 0 < p) : mulM (mulM A C) D = mulM A (mulM C D) := by
 refine mat_ext (mulM_reg (mulM_reg hA hC hm) hD hp) (mulM_reg hA (mulM_reg hC hD hp) hm) fun i j hi hj => ?_
 rw [el_mulM (mulM_reg hA hC hm) hD hp hi hj, el_mulM hA (mulM_reg hC hD hp) hm hi hj]
 refine (mm_congr (fun k hk => el_mulM hA hC hm hi hk) (fun _ _ => rfl)).trans ?_
 rw [mm_assoc]
 exact mm_congr (fun _ _ => rfl) (fun k hk => (el_mulM hC hD hp hk hj).symm)
theorem mulM_id {A : Mat} {n m : Nat} (hA : Reg A n m) (hn : 0 < n) : mulM (idM n) A = A := by
 refine mat_ext (mulM_reg (matF_reg n n I) hA hn) hA fun i j hi hj => ?_
 rw [idM_eq, el_mulM (matF_reg n n I) hA hn hi hj]
 refine (mm_congr (fun k hk => el_matF I hi hk) (fun _ _ => rfl)).trans ?_
 exact mm_IL _ _ hi
end Go.Proofs.YtnfgiamdmfkcjaaDoor.Red
namespace Go.Proofs.YtnfgiamdmfkcjaaDoor.Mx
open Go.Proofs.YtnfgiamdmfkcjaaDoor.Gf
def sq {α : Type} : List α → (α → B) → B
 | [], _ => 0#8
 | x :: l, f => f x ^^^ sq l f
theorem sl_sq (l : List B) (f : B → B) : sl l f = sq l f := by
 induction l with
 | nil => rfl
 | cons x l ih => simp only [sl, sq]; rw [ih]
theorem sq_congr {α : Type} {l : List α} {f g : α → B} (h : ∀ x ∈ l, f x = g x) : sq l f = sq l g := by
 induction l with
 | nil => rfl
 | cons x l ih => simp only [sq]; rw [h x (by simp), ih (fun y hy => h y (by simp [hy]))]
theorem nodup_len {α : Type} [DecidableEq α] : ∀ (l l' : List α), l.Nodup → (∀ x ∈ l, x ∈ l') → l.length ≤ l'.length := by
 intro l
 induction l with
 | nil => intro l' _ _; exact Nat.zero_le _
 | cons a l ih =>
  intro l' hn hs
  rw [List.nodup_cons] at hn
  have h1 := hs a (by simp)
  have h2 := ih (l'.erase a) hn.2 (fun x hx => (List.mem_erase_of_ne (fun e => hn.1 (by rw [← e]; exact hx))).2 (hs x (by simp [hx])))
  rw [List.length_erase_of_mem h1] at h2
  have h3 := List.length_pos_of_mem h1
  rw [List.length_cons]
  omega
theorem filter_split {α : Type} (p : α → Bool) (l : List α) : (l.filter p).length + (l.filter fun x => !p x).length = l.length := by
 induction l with
 | nil => rfl
 | cons a l ih =>
  simp only [List.filter_cons]
  cases p a <;> simp <;> omega
theorem sq_filter {α : Type} (p : α → Bool) (f : α → B) (l : List α) (h : ∀ x ∈ l, p x = false → f x = 0#8) : sq (l.filter p) f = sq l f := by
 induction l with
 | nil => rfl
 | cons a l ih =>
  simp only [List.filter_cons]
  cases hp : p a with
  | true => simp only [if_true, sq]; rw [ih (fun x hx => h x (by simp [hx]))]
  | false => simp only [Bool.false_eq_true, if_false, sq]; rw [ih (fun x hx => h x (by simp [hx])), h a (by simp) hp, BitVec.zero_xor]
theorem sq_map {α β : Type} (g : α → β) (f : β → B) (l : List α) : sq (l.map g) f = sq l (fun x => f (g x)) := by
 induction l with
 | nil => rfl
 | cons a l ih => simp only [List.map_cons, sq]; rw [ih]
theorem sq_append {α : Type} (f : α → B) (l l' : List α) : sq (l ++ l') f = sq l f ^^^ sq l' f := by
 induction l with
 | nil => simp [sq]
 | cons a l ih => simp only [List.cons_append, sq]; rw [ih, BitVec.xor_assoc]
theorem sm_range (n : Nat) (f : Nat → B) : sm n f = sq (List.range n) f := by
 induction n with
 | zero => rfl
 | succ n ih => rw [List.range_succ, sq_append]; simp only [sm, sq]; rw [ih, BitVec.xor_zero]
/-- An element of the code's matrix. -/
def cau (k m : Nat) : Fm := fun v j => if v < k then I v j else inv (BitVec.ofNat 8 (v - k) ^^^ BitVec.ofNat 8 (m + j))
theorem ofNat8_inj {a b : Nat} (ha : a < 256) (hb : b < 256) (h : BitVec.ofNat 8 a = BitVec.ofNat 8 b) : a = b := by
 have := congrArg BitVec.toNat h
 rw [BitVec.toNat_ofNat, BitVec.toNat_ofNat] at this
 omega
theorem nodup_map {α β : Type} (g : α → β) (l : List α) (h : l.Nodup) (hi : ∀ x ∈ l, ∀ y ∈ l, g x = g y → x = y) : (l.map g).Nodup := by
 induction l with
 | nil => exact List.nodup_nil
 | cons a l ih =>
  rw [List.nodup_cons] at h
  rw [List.map_cons, List.nodup_cons]
  refine ⟨fun hm => ?_, ih h.2 (fun x hx y hy => hi x (by simp [hx]) y (by simp [hy]))⟩
  obtain ⟨b, hb, e⟩ := List.mem_map.1 hm
  have := hi b (by simp [hb]) a (by simp) e
  exact h.1 (by rw [← this]; exact hb)
theorem getD_inj {l : List Nat} (h : l.Nodup) {i j : Nat} (hi : i < l.length) (hj : j < l.length) (e : l.getD i 0 = l.getD j 0) : i = j := by
 rw [List.getD_eq_getElem?_getD, List.getElem?_eq_getElem hi, List.getD_eq_getElem?_getD, List.getElem?_eq_getElem hj] at e
 exact (List.getElem_inj h).1 e
theorem getD_mem {l : List Nat} {i : Nat} (hi : i < l.length) : l.getD i 0 ∈ l := by
 rw [List.getD_eq_getElem?_getD, List.getElem?_eq_getElem hi]
 exact List.getElem_mem hi
/-- Any k rows of the code's matrix: no sum of multiples of them is nought but that of nought. -/
theorem cauchy_regular {k m : Nat} (hk : k + m ≤ 255) (ls : List Nat) (hl : ls.length = k) (hnd : ls.Nodup) (hb : ∀ v ∈ ls, v < k + m) (y : Nat → B) (h0 : ∀ j, j < k → sm k (fun i => mul (y i) (cau k m (ls.getD i 0) j)) = 0#8) : ∀ i, i < k → y i = 0#8 := by
 have hlt : ∀ i, i < k → ls.getD i 0 < k + m := fun i hi => hb _ (getD_mem (by rw [hl]; exact hi))
 -- the rows behind the first k
 have hbig : ∀ i, i < k → k ≤ ls.getD i 0 → y i = 0#8 := by
  let Pi : List Nat := (List.range k).filter fun i => decide (k ≤ ls.getD i 0)
  let Ji : List Nat := (List.range k).filter fun j => !decide (j ∈ ls)
  have hPi : ∀ i, i ∈ Pi ↔ i < k ∧ k ≤ ls.getD i 0 := fun i => by simp only [Pi, List.mem_filter, List.mem_range, decide_eq_true_eq]
  have hJi : ∀ j, j ∈ Ji ↔ j < k ∧ ¬ j ∈ ls := fun j => by simp only [Ji, List.mem_filter, List.mem_range, Bool.not_eq_true', decide_eq_false_iff_not]
  let gx : Nat → B := fun i => BitVec.ofNat 8 (ls.getD i 0 - k)
  let gy : Nat → B := fun j => BitVec.ofNat 8 (m + j)
  let c : B → B := fun x => match (List.range k).find? (fun i => ls.getD i 0 == k + x.toNat) with | some i => y i | none => 0#8
  have hc : ∀ i, i ∈ Pi → c (gx i) = y i := by
   intro i hi
   obtain ⟨h1, h2⟩ := (hPi i).1 hi
   have h3 := hlt i h1
   have h4 : (gx i).toNat = ls.getD i 0 - k := by simp only [gx, BitVec.toNat_ofNat]; omega
   have h5 : (List.range k).find? (fun i' => ls.getD i' 0 == k + (gx i).toNat) = some i := by
    rw [List.find?_range_eq_some]
    refine ⟨by rw [h4, beq_iff_eq]; omega, List.mem_range.2 h1, fun j hj => ?_⟩
    rw [h4, Bool.not_eq_true', beq_eq_false_iff_ne]
    intro e
    have := getD_inj hnd (i := j) (j := i) (by omega) (by omega) (by omega)
    omega
   show (match (List.range k).find? (fun i' => ls.getD i' 0 == k + (gx i).toNat) with | some i => y i | none => 0#8) = y i
   rw [h5]
  have hlen : (Pi.map gx).length ≤ (Ji.map gy).length := by
   rw [List.length_map, List.length_map]
   have s1 := filter_split (fun i => decide (k ≤ ls.getD i 0)) (List.range k)
   have s2 := filter_split (fun j => !decide (j ∈ ls)) (List.range k)
   rw [List.length_range] at s1 s2
   have s3 : ((List.range k).filter fun j => !(!decide (j ∈ ls))).length ≤ (((List.range k).filter fun i => !decide (k ≤ ls.getD i 0)).map fun i => ls.getD i 0).length := by
    refine nodup_len _ _ (List.Pairwise.filter _ List.nodup_range) (fun j hj => ?_)
    simp only [List.mem_filter, List.mem_range, Bool.not_not, decide_eq_true_eq] at hj
    obtain ⟨i, hi, e⟩ := List.mem_iff_getElem.1 hj.2
    have e2 : ls.getD i 0 = j := by rw [List.getD_eq_getElem?_getD, List.getElem?_eq_getElem hi]; exact e
    refine List.mem_map.2 ⟨i, ?_, e2⟩
    simp only [List.mem_filter, List.mem_range, Bool.not_eq_true', decide_eq_false_iff_not]
    exact ⟨by omega, by rw [e2]; omega⟩
   rw [List.length_map] at s3
   show ((List.range k).filter fun i => decide (k ≤ ls.getD i 0)).length ≤ ((List.range k).filter fun j => !decide (j ∈ ls)).length
   omega
  have key := cauchy_null (Pi.map gx) (Ji.map gy) ?_ ?_ ?_ hlen c ?_
  ·intro i hi h1
   have hm : i ∈ Pi := (hPi i).2 ⟨hi, h1⟩
   rw [← hc i hm]
   exact key _ (List.mem_map.2 ⟨i, hm, rfl⟩)
  ·refine nodup_map gx Pi (List.Pairwise.filter _ List.nodup_range) (fun i hi j hj e => ?_)
   obtain ⟨h1, h2⟩ := (hPi i).1 hi
   obtain ⟨h3, h4⟩ := (hPi j).1 hj
   have h5 := hlt i h1
   have h6 := hlt j h3
   have := ofNat8_inj (by omega) (by omega) e
   exact getD_inj hnd (by omega) (by omega) (by omega)
  ·refine nodup_map gy Ji (List.Pairwise.filter _ List.nodup_range) (fun i hi j hj e => ?_)
   obtain ⟨h1, h2⟩ := (hJi i).1 hi
   obtain ⟨h3, h4⟩ := (hJi j).1 hj
   have := ofNat8_inj (by omega) (by omega) e
   omega
  ·intro x hx z hz e
   obtain ⟨i, hi, rfl⟩ := List.mem_map.1 hx
   obtain ⟨j, hj, rfl⟩ := List.mem_map.1 hz
   obtain ⟨h1, h2⟩ := (hPi i).1 hi
   obtain ⟨h3, h4⟩ := (hJi j).1 hj
   have h5 := hlt i h1
   have := ofNat8_inj (by omega) (by omega) e
   omega
  ·intro z hz
   obtain ⟨j, hj, rfl⟩ := List.mem_map.1 hz
   obtain ⟨h3, h4⟩ := (hJi j).1 hj
   rw [← h0 j h3, sm_range, sl_sq, sq_map]
   have e1 : sq Pi (fun i => mul (c (gx i)) (inv (gx i ^^^ gy j))) = sq Pi (fun i => mul (y i) (cau k m (ls.getD i 0) j)) := by
    refine sq_congr (fun i hi => ?_)
    rw [hc i hi]
    unfold cau
    rw [if_neg (by have := ((hPi i).1 hi).2; omega)]
   rw [e1]
   refine sq_filter _ _ _ (fun i hi hp => ?_)
   have h5 : ¬ k ≤ ls.getD i 0 := by simpa using hp
   unfold cau
   rw [if_pos (by omega)]
   unfold I
   rw [if_neg (fun e => h4 (by rw [← e]; exact getD_mem (by rw [hl]; exact List.mem_range.1 hi))), mul_zero]
 intro i hi
 by_cases h1 : k ≤ ls.getD i 0
 ·exact hbig i hi h1
 ·have h2 := h0 (ls.getD i 0) (by omega)
  rw [sm_single hi (fun j hj hne => ?_)] at h2
  ·unfold cau I at h2
   rw [if_pos (by omega), if_pos rfl, mul_one] at h2
   exact h2
  ·by_cases h3 : k ≤ ls.getD j 0
   ·rw [hbig j hj h3, zero_mul]
   ·unfold cau I
    rw [if_pos (by omega), if_neg (fun e => hne (getD_inj hnd (by omega) (by omega) e)), mul_zero]
end Go.Proofs.YtnfgiamdmfkcjaaDoor.Mx
namespace Go.Proofs.YtnfgiamdmfkcjaaDoor.P
open Go.Proofs.YtnfgiamdmfkcjaaDoor.Leaf
open Go.RowKit Go.Proofs.YtnfgiamdmfkcjaaDoorW.PrintWords Go.Proofs.YtnfgiamdmfkcjaaDoorW.PrintLast Go.Proofs.YtnfgiamdmfkcjaaDoorW.PrintMore
attribute [local go_sem] max2_int min2_int max_two min_two max_three min_three max_four min_four
mutual
def wMc_.j0 : Nat → Int → Int → Bool → Option ((List (List Int)) × Int)
 | 0, _, _, _ => none
 | k + 1, x0, x1, x26 => if x26 = true then (some (([] : List (List Int)), 1)) else ((wMi_.f k x0).bind fun bt101 => (wMc_.l0 k x0 x1 bt101.1 x1 0))
def wMc_.l0 : Nat → Int → Int → List (List Int) → Int → Int → Option ((List (List Int)) × Int)
 | 0, _, _, _, _, _ => none
 | k + 1, x0, x1, x6, x32, x33 => if x33 < x32 then (if 0 ≤ x0 then (if (x0 : Int).toNat ≤ 281474976710656 then (wMc_.l1 k x0 x1 x6 x33 (List.replicate (x0 : Int).toNat 0) x32 x33 x0 0) else (none)) else (none)) else (some (x6, 0))
def wMc_.l1 : Nat → Int → Int → List (List Int) → Int → List Int → Int → Int → Int → Int → Option ((List (List Int)) × Int)
 | 0, _, _, _, _, _, _, _, _, _ => none
 | k + 1, x0, x1, x6, x8, x9, x32, x33, x38, x39 => if x39 < x38 then ((gf_Inv.f (Go.bits .xor .u8 ((x8) % 256) ((wrap64 (x1 + x39)) % 256))).bind fun bt108 => (if 0 ≤ x39 then (if x39 < (x9.length : Int) then (wMc_.l1 k x0 x1 x6 x8 (x9.set (x39 : Int).toNat bt108.1) x32 x33 x38 (wrap64 (x39 + 1))) else (none)) else (none))) else (if x6.length < 5864062014805 then (wMc_.l0 k x0 x1 (x6 ++ [x9]) x32 (wrap64 (x33 + 1))) else (none))
end
def wMc_.f (k : Nat) (a0 : Int) (a1 : Int) : Option ((List (List Int)) × Int) := if a0 < 1 then (wMc_.j0 k a0 a1 true) else (if a1 < 1 then (wMc_.j0 k a0 a1 true) else (if a0 > 255 then (wMc_.j0 k a0 a1 true) else (wMc_.j0 k a0 a1 (decide (a1 > (wrap64 (255 - a0)))))))
theorem wMc_.mono_l : ∀ k, (∀ y0 y1 y2, LeO (wMc_.j0 k y0 y1 y2) (wMc_.j0 (k + 1) y0 y1 y2)) ∧ (∀ y0 y1 y2 y3 y4, LeO (wMc_.l0 k y0 y1 y2 y3 y4) (wMc_.l0 (k + 1) y0 y1 y2 y3 y4)) ∧ (∀ y0 y1 y2 y3 y4 y5 y6 y7 y8, LeO (wMc_.l1 k y0 y1 y2 y3 y4 y5 y6 y7 y8) (wMc_.l1 (k + 1) y0 y1 y2 y3 y4 y5 y6 y7 y8))
 | 0 => ⟨fun _ _ _ r h => by simp [wMc_.j0] at h, fun _ _ _ _ _ r h => by simp [wMc_.l0] at h, fun _ _ _ _ _ _ _ _ _ r h => by simp [wMc_.l1] at h⟩
 | k + 1 => by
  obtain ⟨ih0, ih1, ih2⟩ := wMc_.mono_l k
  refine ⟨?_, ?_, ?_⟩
  ·intro y0 y1 y2
   unfold wMc_.j0
   repeat' first
   | (with_reducible exact ih0 _ _ _)
   | (with_reducible exact ih1 _ _ _ _ _)
   | (with_reducible exact ih2 _ _ _ _ _ _ _ _ _)
   | (with_reducible exact wMi_.mono _ _)
   | (with_reducible exact LeO.refl _)
   | (with_reducible exact LeO.none _)
   | (with_reducible refine LeO.ite ?_ ?_)
   | (with_reducible refine LeO.bind ?_ (fun _ => ?_))
   | exact ih0 _ _ _
   | exact ih1 _ _ _ _ _
   | exact ih2 _ _ _ _ _ _ _ _ _
   | exact wMi_.mono _ _
   | exact LeO.none _
   | refine LeO.ite ?_ ?_
   | refine LeO.bind ?_ (fun _ => ?_)
  ·intro y0 y1 y2 y3 y4
   unfold wMc_.l0
   repeat' first
   | (with_reducible exact ih0 _ _ _)
   | (with_reducible exact ih1 _ _ _ _ _)
   | (with_reducible exact ih2 _ _ _ _ _ _ _ _ _)
   | (with_reducible exact wMi_.mono _ _)
   | (with_reducible exact LeO.refl _)
   | (with_reducible exact LeO.none _)
   | (with_reducible refine LeO.ite ?_ ?_)
   | (with_reducible refine LeO.bind ?_ (fun _ => ?_))
   | exact ih0 _ _ _
   | exact ih1 _ _ _ _ _
   | exact ih2 _ _ _ _ _ _ _ _ _
   | exact wMi_.mono _ _
   | exact LeO.none _
   | refine LeO.ite ?_ ?_
   | refine LeO.bind ?_ (fun _ => ?_)
  ·intro y0 y1 y2 y3 y4 y5 y6 y7 y8
   unfold wMc_.l1
   repeat' first
   | (with_reducible exact ih0 _ _ _)
   | (with_reducible exact ih1 _ _ _ _ _)
   | (with_reducible exact ih2 _ _ _ _ _ _ _ _ _)
   | (with_reducible exact wMi_.mono _ _)
   | (with_reducible exact LeO.refl _)
   | (with_reducible exact LeO.none _)
   | (with_reducible refine LeO.ite ?_ ?_)
   | (with_reducible refine LeO.bind ?_ (fun _ => ?_))
   | exact ih0 _ _ _
   | exact ih1 _ _ _ _ _
   | exact ih2 _ _ _ _ _ _ _ _ _
   | exact wMi_.mono _ _
   | exact LeO.none _
   | refine LeO.ite ?_ ?_
   | refine LeO.bind ?_ (fun _ => ?_)
theorem wMc_.mono : ∀ a0 a1 k, LeO (wMc_.f k a0 a1) (wMc_.f (k + 1) a0 a1) := by
 intro a0 a1 k
 obtain ⟨ih0, ih1, ih2⟩ := wMc_.mono_l k
 unfold wMc_.f
 repeat' first
  | (with_reducible exact ih0 _ _ _)
  | (with_reducible exact ih1 _ _ _ _ _)
  | (with_reducible exact ih2 _ _ _ _ _ _ _ _ _)
  | (with_reducible exact wMi_.mono _ _)
  | (with_reducible exact LeO.refl _)
  | (with_reducible exact LeO.none _)
  | (with_reducible refine LeO.ite ?_ ?_)
  | (with_reducible refine LeO.bind ?_ (fun _ => ?_))
  | exact ih0 _ _ _
  | exact ih1 _ _ _ _ _
  | exact ih2 _ _ _ _ _ _ _ _ _
  | exact wMi_.mono _ _
  | exact LeO.none _
  | refine LeO.ite ?_ ?_
  | refine LeO.bind ?_ (fun _ => ?_)
set_option maxHeartbeats 8000000 in
set_option maxRecDepth 100000 in
theorem wMc_.calls (k : Nat) (a0 : Int) (a1 : Int) (r1 : List (List Int)) (r2 : Int) (w : World) (h : wMc_.f k a0 a1 = some (r1, r2)) :
 Calls Tryd.prog 34 #[.int .i64 a0, .int .i64 a1] w fun e w' => ∃ v0_ : Value, e = .returned (.tuple #[v0_, .int .i64 r2]) ∧ Kd.S (Kd.slice 5 (Kd.int .u8)) 22 w' w.heap.size (fun _ => True) v0_ r1 ∧ Below w.heap.size w w' := by
 have HB := Aside0.mk (Below.refl w.heap.size w)
 have H : (if a0 < 1 then (wMc_.j0 k a0 a1 true) else (if a1 < 1 then (wMc_.j0 k a0 a1 true) else (if a0 > 255 then (wMc_.j0 k a0 a1 true) else (wMc_.j0 k a0 a1 (decide (a1 > (wrap64 (255 - a0)))))))) = some (r1, r2) := h
 clear h
 have HC3 := Aside0.mk H
 clear H
 go_enter Tryd.func34, Tryd.ntmps34
 go_upto_region 1 with (fail)
 go_cut [26] (fun v26 wc => ∃ (kq : Nat) (x26_2 : Bool), v26 = .bool x26_2 ∧ Aside0 (wMc_.j0 kq a0 a1 x26_2 = some (r1, r2)) ∧ Aside0 (kq ≤ k) ∧ Aside0 (Below w.heap.size w wc))
 case first =>
  have H := HC3.out
  clear HC3
  by_cases c4 : a0 < 1
  ·rw [if_pos c4] at H
   have c4b0 : decide (a0 < 1) = true := decide_eq_true c4
   clear c4
   (first | rw [c4b0] | (simp only [i64_w, i32_w]; rw [c4b0]) | skip)
   have H' := Aside0.mk H
   clear H
   go_wp2
   go_meet
   case rel => exact ⟨_, (true), (by first | rfl | (simp; done) | (simp [*]; done)), H', ⟨by first | omega | exact Nat.le_refl _⟩, ⟨by repeat (first | (with_reducible first | exact HB.out | apply zC_ | apply zA_ | apply zB_) | exact HB.out)⟩⟩
  ·rw [if_neg c4] at H
   have c4b0 : decide (a0 < 1) = false := decide_eq_false c4
   clear c4
   (first | rw [c4b0] | (simp only [i64_w, i32_w]; rw [c4b0]) | skip)
   by_cases c5 : a1 < 1
   ·rw [if_pos c5] at H
    have c5b0 : decide (a1 < 1) = true := decide_eq_true c5
    clear c5
    have H' := Aside0.mk H
    clear H
    go_wp2
    go_meet
    case rel => exact ⟨_, (true), (by first | rfl | (simp; done) | (simp [*]; done)), H', ⟨by first | omega | exact Nat.le_refl _⟩, ⟨by repeat (first | (with_reducible first | exact HB.out | apply zC_ | apply zA_ | apply zB_) | exact HB.out)⟩⟩
   ·rw [if_neg c5] at H
    have c5b0 : decide (a1 < 1) = false := decide_eq_false c5
    clear c5
    by_cases c6 : a0 > 255
    ·rw [if_pos c6] at H
     have c6b0 : decide (255 < a0) = true := decide_eq_true c6
     clear c6
     have H' := Aside0.mk H
     clear H
     go_wp2
     go_meet
     case rel => exact ⟨_, (true), (by first | rfl | (simp; done) | (simp [*]; done)), H', ⟨by first | omega | exact Nat.le_refl _⟩, ⟨by repeat (first | (with_reducible first | exact HB.out | apply zC_ | apply zA_ | apply zB_) | exact HB.out)⟩⟩
    ·rw [if_neg c6] at H
     have c6b0 : decide (255 < a0) = false := decide_eq_false c6
     clear c6
     have H' := Aside0.mk H
     clear H
     go_wp2
     go_meet
     case rel => exact ⟨_, (decide (a1 > (wrap64 (255 - a0)))), (by first | rfl | (simp; done) | (simp [*]; done)), H', ⟨by first | omega | exact Nat.le_refl _⟩, ⟨by repeat (first | (with_reducible first | exact HB.out | apply zC_ | apply zA_ | apply zB_) | exact HB.out)⟩⟩
 case rest =>
  clear HC3
  try clear p2
  try clear c3
  try clear c4
  try clear c4b0
  try clear c5
  try clear c5b0
  try clear c6
  try clear c6b0
  try clear p6
  obtain ⟨kq, x26_2, rfl, HA, HJ2, HB⟩ := hcut
  cases kq with
  | zero => exact absurd HA.out (by simp [wMc_.j0])
  | succ kj2 =>
   have H := HA.out
   clear HA
   simp only [wMc_.j0] at H
   by_cases c7 : x26_2 = true
   ·subst c7
    have H1 : (some (([] : List (List Int)), 1)) = some (r1, r2) := by rw [if_pos rfl] at H; exact H
    clear H
    have H := H1
    clear H1
    simp only [Option.some.injEq, Prod.mk.injEq] at H
    obtain ⟨rfl, rfl⟩ := H
    go_wp2
    go_ret2
    exact ⟨_, by first | rfl | (simp [errW_none, errW_some] <;> rfl) | (simp [*, errW_none, errW_some] <;> rfl), by first | exact Kd.S_nil _ _ _ _ _ | exact Kd.N_nil _ _ _ _ _ | exact Kd.V_nil _ _ _ _ _ | exact Kd.Q_nil _ _ _ _ _ | exact Kd.R_nil _ _ _ _ _, by repeat (first | (with_reducible first | exact HB.out | apply zC_ | apply zA_ | apply zB_) | exact HB.out)⟩
   ·replace c7 := Bool.eq_false_iff.mpr c7
    subst c7
    have H1 : ((wMi_.f kj2 a0).bind fun bt101 => (wMc_.l0 kj2 a0 a1 bt101.1 a1 0)) = some (r1, r2) := by rw [if_neg (show ¬ (false = true) by decide)] at H; exact H
    clear H
    have H := H1
    clear H1
    replace H := Option.bind_eq_some_iff.mp H
    obtain ⟨⟨t101, t102⟩, A80, H⟩ := H
    replace H : (wMc_.l0 kj2 a0 a1 t101 a1 0) = some (r1, r2) := H
    have A8 := Aside0.mk A80
    clear A80
    have H' := Aside0.mk H
    clear H
    go_wp2_with (first | ((with_reducible refine gate_callee (f := 63) rfl ?_); refine goesL_ (some 29) rfl rfl Tryd.func63 (by kernel_rfl) rfl #[.int .i64 a0] rfl (by (try simp only [List.map_toArray, List.map_cons, List.map_nil]); first | done | rfl | (simp only [List.length_drop, List.length_take]; rfl)) ?_; (with_reducible refine (wMi_.calls kj2 a0 t101 t102 _ A8.out).mono ?_); rintro e w9 ⟨v103, rfl, ho0, hb⟩; refine ⟨_, rfl, ?_⟩; have n0_ := Aside0.mk (Kd.S_lower ho0 (zF_ (by repeat (first | (with_reducible first | exact HB.out | apply zC_ | apply zA_ | apply zB_) | exact HB.out)))); have n1_ := Aside0.mk (zE_ (by repeat (first | (with_reducible first | exact HB.out | apply zC_ | apply zA_ | apply zB_) | exact HB.out)) hb); clear HB; have HO104 := n0_; have HB := n1_; clear n0_ n1_; (try clear hb); (try clear hb2); (try clear hk); (try clear hi); (try clear ho0)))
    go_loopg [6, 33] kj2 (fun kq v6 v33 w' => ∃ (x6_2 : List (List Int)) (x33_2 : Int), v33 = .int .i64 x33_2 ∧ Aside0 (wMc_.l0 kq a0 a1 x6_2 a1 x33_2 = some (r1, r2)) ∧ Aside0 (kq ≤ kj2) ∧ Aside0 (Kd.S (Kd.slice 5 (Kd.int .u8)) 22 w' w.heap.size (fun _ => True) v6 x6_2) ∧ Aside0 (Below w.heap.size w w'))
    case atStart => exact ⟨(t101), (0), (by first | rfl | (simp; done) | (simp [*]; done)), H', ⟨Nat.le_refl _⟩, ⟨by (with_reducible repeat (first | apply Kd.S_alloc | apply Kd.S_drewN | apply Kd.S_drew)); exact HO104.out⟩, ⟨by repeat (first | (with_reducible first | exact HB.out | apply zC_ | apply zA_ | apply zB_) | exact HB.out)⟩⟩
    case round =>
     clear H'
     try clear p2
     try clear c3
     try clear c4
     try clear c4b0
     try clear c5
     try clear c5b0
     try clear c6
     try clear c6b0
     try clear p6
     try clear c7
     try clear p2
     try clear p6
     obtain ⟨x6_2, x33_2, rfl, HA, HK2, HO_6, HB⟩ := hrel
     cases gk with
     | zero => exact absurd HA.out (by simp [wMc_.l0])
     | succ k2 =>
      have H := HA.out
      clear HA
      simp only [wMc_.l0] at H
      by_cases c10 : x33_2 < a1
      ·rw [if_pos c10] at H
       have c10b0 : decide (x33_2 < a1) = true := decide_eq_true c10
       clear c10
       by_cases c11 : 0 ≤ a0
       ·rw [if_pos c11] at H
        have c11b0 := eq_true c11
        have c11b1 : decide (0 ≤ a0) = true := decide_eq_true c11
        clear c11
        by_cases c12 : (a0 : Int).toNat ≤ 281474976710656
        ·rw [if_pos c12] at H
         have c12b0 := eq_true c12
         have c12b1 : decide ((a0 : Int).toNat ≤ 281474976710656) = true := decide_eq_true c12
         clear c12
         obtain ⟨y105, hy105⟩ : ∃ y_ : List Int, y_ = (List.replicate (a0 : Int).toNat 0) := ⟨_, rfl⟩
         replace H : (wMc_.l1 k2 a0 a1 x6_2 x33_2 y105 a1 x33_2 a0 0) = some (r1, r2) := by first | (rw [hy105]; with_reducible exact H) | (have H2_ := (Option.bind_some _ _).symm.trans H; rw [hy105]; with_reducible exact H2_) | (have H2_ := (Option.bind_some _ _).symm.trans H; with_reducible exact H2_) | with_reducible exact H | (rw [hy105]; exact H) | exact H
         have Ny105 := Aside0.mk hy105
         clear hy105
         have H' := Aside0.mk H
         clear H
         go_wp2_with (first | ((with_reducible refine gate_dst (N := 37) rfl ?_); refine Kd.R_make (Kd.int .u8) _ 5 rfl (N := 37) rfl 22 _ _ rfl a0 rfl rfl Tryd.underlying22 (.int .u8 0) 1 info5 rfl (by decide) (by omega) 0 (ok := fun _ => True) (okp := fun _ => True) rfl (fun _ hk => hk) trivial (of_decide_eq_true (by first | (with_reducible assumption) | assumption)) (Nat.le_trans (Nat.mul_le_mul_right _ (of_decide_eq_true (by first | (with_reducible assumption) | assumption) : a0.toNat ≤ 281474976710656)) (by omega)) (Below.refl _ _) (Nat.le_refl _) ?_; intro v106 w13 ho14 hb hg_ hnew_; clear hg_ hnew_; (first | rw [← Ny105.out] at ho14 | (simp only [Int.reduceToNat] at ho14; rw [← Ny105.out] at ho14)); have n0_ := Aside0.mk (Kd.S_elder' (by (with_reducible repeat (first | apply Kd.S_alloc | apply Kd.S_drewN | apply Kd.S_drew)); exact HO_6.out) (Kd.R_base ho14) hb); have n1_ := Aside0.mk (Kd.R_lower ho14 (zF_ (by repeat (first | (with_reducible first | exact HB.out | apply zC_ | apply zA_ | apply zB_) | exact HB.out)))); have n2_ := Aside0.mk (zE_ (by repeat (first | (with_reducible first | exact HB.out | apply zC_ | apply zA_ | apply zB_) | exact HB.out)) hb); clear HO_6; clear HB; have HO_6 := n0_; have HO107 := n1_; have HB := n2_; clear n0_ n1_ n2_; clear hb ho14))
         go_loopg [39] k2 (fun kq v39 w' => ∃ (x9_3 : List Int) (x39_3 : Int), v39 = .int .i64 x39_3 ∧ Aside0 (wMc_.l1 kq a0 a1 x6_2 x33_2 x9_3 a1 x33_2 a0 x39_3 = some (r1, r2)) ∧ Aside0 (kq ≤ k2) ∧ Aside0 (Kd.S (Kd.slice 5 (Kd.int .u8)) 22 w' w.heap.size (fun k_ => some k_ ≠ (v106 : Value).ownBlock) u6 x6_2) ∧ Aside0 (Kd.R (Kd.int .u8) 5 w' w.heap.size (fun _ => True) v106 x9_3) ∧ Aside0 (Below w.heap.size w w'))
         case atStart => exact ⟨(y105), (0), (by first | rfl | (simp; done) | (simp [*]; done)), H', ⟨Nat.le_refl _⟩, ⟨by (with_reducible repeat (first | apply Kd.S_alloc | apply Kd.S_drewN | apply Kd.S_drew)); exact Kd.S_mono HO_6.out (fun _ hk => hk.2)⟩, ⟨by (with_reducible repeat (first | apply Kd.R_alloc | apply Kd.R_drewN | apply Kd.R_drew)); exact HO107.out⟩, ⟨by repeat (first | (with_reducible first | exact HB.out | apply zC_ | apply zA_ | apply zB_) | exact HB.out)⟩⟩
         case round =>
          clear H'
          try clear c1
          try clear p2
          try clear c3
          try clear c4
          try clear c4b0
          try clear c5
          try clear c5b0
          try clear c6
          try clear c6b0
          try clear p6
          try clear c7
          try clear c10
          try clear c10b0
          try clear c11
          try clear c11b0
          try clear c11b1
          try clear c12
          try clear c12b0
          try clear c12b1
          try clear p2
          try clear p6
          obtain ⟨x9_3, x39_3, rfl, HA, HK3, HO_6, HO_9, HB⟩ := hrel
          cases gk with
          | zero => exact absurd HA.out (by simp [wMc_.l1])
          | succ k3 =>
           have H := HA.out
           clear HA
           simp only [wMc_.l1] at H
           by_cases c15 : x39_3 < a0
           ·rw [if_pos c15] at H
            have c15b0 : decide (x39_3 < a0) = true := decide_eq_true c15
            clear c15
            replace H := Option.bind_eq_some_iff.mp H
            obtain ⟨⟨t108, t109⟩, A160, H⟩ := H
            replace H : (if 0 ≤ x39_3 then (if x39_3 < (x9_3.length : Int) then (wMc_.l1 k3 a0 a1 x6_2 x33_2 (x9_3.set (x39_3 : Int).toNat t108) a1 x33_2 a0 (wrap64 (x39_3 + 1))) else (none)) else (none)) = some (r1, r2) := H
            have A16 := Aside0.mk A160
            clear A160
            by_cases c17 : 0 ≤ x39_3
            ·rw [if_pos c17] at H
             have c17b0 : decide (0 ≤ x39_3) = true := decide_eq_true c17
             clear c17
             by_cases c18 : x39_3 < (x9_3.length : Int)
             ·rw [if_pos c18] at H
              have c18b0 : decide (x39_3 < (x9_3.length : Int)) = true := decide_eq_true c18
              clear c18
              obtain ⟨y110, hy110⟩ : ∃ y_ : List Int, y_ = (x9_3.set (x39_3 : Int).toNat t108) := ⟨_, rfl⟩
              replace H : (wMc_.l1 k3 a0 a1 x6_2 x33_2 y110 a1 x33_2 a0 (wrap64 (x39_3 + 1))) = some (r1, r2) := by first | (rw [hy110]; with_reducible exact H) | (have H2_ := (Option.bind_some _ _).symm.trans H; rw [hy110]; with_reducible exact H2_) | (have H2_ := (Option.bind_some _ _).symm.trans H; with_reducible exact H2_) | with_reducible exact H | (rw [hy110]; exact H) | exact H
              have Ny110 := Aside0.mk hy110
              clear hy110
              have H' := Aside0.mk H
              clear H
              go_wp2_with (first | ((with_reducible refine gate_callee (f := 64) rfl ?_); refine goesL_ (some 52) rfl rfl Tryd.func64 (by kernel_rfl) rfl #[.int .u8 (Go.bits .xor .u8 ((x33_2) % 256) ((wrap64 (a1 + x39_3)) % 256))] rfl (by (try simp only [List.map_toArray, List.map_cons, List.map_nil]); first | done | rfl | (simp only [List.length_drop, List.length_take]; rfl)) ?_; (with_reducible refine (gf_Inv.calls (Go.bits .xor .u8 ((x33_2) % 256) ((wrap64 (a1 + x39_3)) % 256)) t108 t109 _ A16.out).mono ?_); rintro e w20 ⟨rfl, hb⟩; refine ⟨_, rfl, ?_⟩; have n0_ := Aside0.mk (Kd.S_below (by (with_reducible repeat (first | apply Kd.S_alloc | apply Kd.S_drewN | apply Kd.S_drew)); exact HO_6.out) hb); have n1_ := Aside0.mk (Kd.R_below (by (with_reducible repeat (first | apply Kd.R_alloc | apply Kd.R_drewN | apply Kd.R_drew)); exact HO_9.out) hb); have n2_ := Aside0.mk (zE_ (by repeat (first | (with_reducible first | exact HB.out | apply zC_ | apply zA_ | apply zB_) | exact HB.out)) hb); clear HO_6; clear HO_9; clear HB; have HO_6 := n0_; have HO_9 := n1_; have HB := n2_; clear n0_ n1_ n2_; (try clear hb); (try clear hb2); (try clear hk); (try clear hi); have p19 : 0 ≤ (x39_3 : Int) := of_decide_eq_true (by first | (with_reducible assumption) | assumption); have q19 : (x39_3 : Int) < ((x9_3.length : Int) : Int) := of_decide_eq_true (by first | (with_reducible assumption) | assumption); obtain ⟨go19, co19, eo19, gb19, gl19, cl19, HG19⟩ := Kd.R_form HO_9.out (by omega); (first | cases eo19 | (injection eo19 with ea_ en_ ec_; (first | subst ea_ | (injection ea_ with ea_; subst ea_)); subst ec_; clear en_)); have GB19 := Aside0.mk gb19; have GG19 := Aside0.mk HG19; clear gb19 gl19 HG19; obtain ⟨hx19_0, hf19_0⟩ := Kd.R_celln 0 HO_9.out (x39_3 : Int) p19 q19; replace p19 := eq_true p19; replace q19 := eq_true q19; obtain ⟨hy21_, hz21_⟩ := Kd.R_celln 0 HO_9.out (x39_3 : Int) (of_decide_eq_true (by first | (with_reducible assumption) | assumption)) (of_decide_eq_true (by first | (with_reducible assumption) | assumption)); have HP21 := Kd.R_putg HO_9.out (x39_3 : Int) t108) | ((with_reducible refine gate_store (t := 5) (p := 55) rfl ?_); refine store_event (t := 5) (p := 55) (v := ?vo_w22) (w1 := (w20.setCell ⟨go19, (x39_3 : Int).toNat, none⟩ (.int .u8 t108))) ?hg ?ho ?hn ?hr ?_; (case ho => rfl); (case hg => rfl); (case hn => rfl); (case hr => first | (go_simp; done) | (go_simp; rfl)); intro w22 hw; have hg : w20.grownBy w22 (some go19) := (by rw [hw]; exact HP21.2); have hp_ : Kd.R (Kd.int .u8) 5 w22 w.heap.size (fun _ => True) (.slice (some ⟨go19, 0, none⟩) x9_3.length co19) y110 := (by rw [hw, Ny110.out]; exact HP21.1); clear HP21; have n0_ := Aside0.mk (Kd.S_after (v := (.slice (some ⟨go19, 0, none⟩) x9_3.length co19)) (v1 := (.slice (some ⟨go19, 0, none⟩) x9_3.length co19)) (ok := (fun _ => True)) (by (with_reducible repeat (first | apply Kd.S_alloc | apply Kd.S_drewN | apply Kd.S_drew)); exact Kd.S_mono HO_6.out (fun _ hk => ⟨trivial, hk⟩)) hg (.inl rfl)); have n1_ := Aside0.mk (hp_); have n2_ := Aside0.mk ((by rw [hw]; exact below_set (HB.out) GB19.out : Below w.heap.size w w22)); clear HO_6; clear HO_9; clear HB; have HO_6 := n0_; have HO_9 := n1_; have HB := n2_; clear n0_ n1_ n2_; clear hg hw hp_))
              go_roundg k3
              case measure => have := HJ2.out; have := HK2.out; have := HK3.out; omega
              case rel => exact ⟨(y110), (wrap64 (x39_3 + 1)), (by first | rfl | (simp; done) | (simp [*]; done)), H', ⟨by have := HJ2.out; have := HK2.out; have := HK3.out; omega⟩, ⟨by (with_reducible repeat (first | apply Kd.S_alloc | apply Kd.S_drewN | apply Kd.S_drew)); exact Kd.S_mono HO_6.out (fun _ hk => hk.2)⟩, ⟨by (with_reducible repeat (first | apply Kd.R_alloc | apply Kd.R_drewN | apply Kd.R_drew)); exact HO_9.out⟩, ⟨by repeat (first | (with_reducible first | exact HB.out | apply zC_ | apply zA_ | apply zB_) | exact HB.out)⟩⟩
             ·rw [if_neg c18] at H
              exact absurd H (by simp)
            ·rw [if_neg c17] at H
             exact absurd H (by simp)
           ·rw [if_neg c15] at H
            have c15b0 : decide (x39_3 < a0) = false := decide_eq_false c15
            clear c15
            by_cases c23 : x6_2.length < 5864062014805
            ·rw [if_pos c23] at H
             have LMc23 := Aside0.mk c23
             clear c23
             obtain ⟨y111, hy111⟩ : ∃ y_ : List (List Int), y_ = (x6_2 ++ [x9_3]) := ⟨_, rfl⟩
             replace H : (wMc_.l0 k3 a0 a1 y111 a1 (wrap64 (x33_2 + 1))) = some (r1, r2) := by first | (rw [hy111]; with_reducible exact H) | (have H2_ := (Option.bind_some _ _).symm.trans H; rw [hy111]; with_reducible exact H2_) | (have H2_ := (Option.bind_some _ _).symm.trans H; with_reducible exact H2_) | with_reducible exact H | (rw [hy111]; exact H) | exact H
             have Ny111 := Aside0.mk hy111
             clear hy111
             have H' := Aside0.mk H
             clear H
             obtain ⟨Ao25, co25, eo25⟩ := Kd.R_slice HO_9.out
             subst eo25
             go_wp2_with (first | ((with_reducible refine gate_builtin (b := .append) (xs := #[.tmp 57, .tmp 59]) rfl ?_); at_builtin; refine Kd.S_append (Kd.slice 5 (Kd.int .u8)) (w0 := w) w.heap.size rfl (.tmp 57) (.tmp 59) 26 22 (.slice none 0 0) 24 rfl Tryd.underlying26 info22 rfl (by decide) (by omega) u6 x6_2 x9_3 [.slice Ao25 x9_3.length co25] (fun _ => True) (fun k_ => some k_ = (.slice Ao25 x9_3.length co25 : Value).ownBlock) rfl rfl ?aP (fun k_ hk_ => ((Kd.R_mono (ok' := fun k_ => ((fun _ => True)) k_ ∧ some k_ ≠ (u6 : Value).ownBlock) (Kd.R_apart' (HO_9.out) (Kd.S_typed HO_6.out) (by decide)) (fun k_ hk => ⟨trivial, hk.2⟩))).1 k_ hk_.symm) ?aF ?aO ?aB ?aS ?aL ?_; (case aP => exact Kd.M_row (Kd.R_mono (Kd.R_tight rfl (Kd.R_mono (ok' := fun k_ => ((fun _ => True)) k_ ∧ some k_ ≠ (u6 : Value).ownBlock) (Kd.R_apart' (HO_9.out) (Kd.S_typed HO_6.out) (by decide)) (fun k_ hk => ⟨trivial, hk.2⟩))) (fun _ h_ => h_))); (case aB => exact (by repeat (first | (with_reducible first | exact HB.out | apply zC_ | apply zA_ | apply zB_) | exact HB.out))); (case aF => exact (fun _ _ => trivial)); (case aO => exact (by (with_reducible repeat (first | apply Kd.S_alloc | apply Kd.S_drewN | apply Kd.S_drew)); exact Kd.S_mono HO_6.out (fun k_ hk => ⟨trivial, fun e_ => hk e_⟩))); (case aS => exact (zF_ (by repeat (first | (with_reducible first | exact HB.out | apply zC_ | apply zA_ | apply zB_) | exact HB.out)))); (case aL => have := LMc23.out; omega); intro v112 w24 ho hb hg hat; rw [← Ny111.out] at ho; have n0_ := Aside0.mk (hb); have n1_ := Aside0.mk (ho); clear HB; clear HO_6; clear HO_9; have HB := n0_; have HO113 := n1_; clear n0_ n1_; clear ho hb hg hat))
             go_roundg k3
             case measure => have := HJ2.out; have := HK2.out; have := HK3.out; omega
             case rel => exact ⟨(y111), (wrap64 (x33_2 + 1)), (by first | rfl | (simp; done) | (simp [*]; done)), H', ⟨by have := HJ2.out; have := HK2.out; have := HK3.out; omega⟩, ⟨by (with_reducible repeat (first | apply Kd.S_alloc | apply Kd.S_drewN | apply Kd.S_drew)); exact HO113.out⟩, ⟨by repeat (first | (with_reducible first | exact HB.out | apply zC_ | apply zA_ | apply zB_) | exact HB.out)⟩⟩
            ·rw [if_neg c23] at H
             exact absurd H (by simp)
        ·rw [if_neg c12] at H
         exact absurd H (by simp)
       ·rw [if_neg c11] at H
        exact absurd H (by simp)
      ·rw [if_neg c10] at H
       have c10b0 : decide (x33_2 < a1) = false := decide_eq_false c10
       clear c10
       simp only [Option.some.injEq, Prod.mk.injEq] at H
       obtain ⟨rfl, rfl⟩ := H
       go_wp2
       go_ret2
       exact ⟨_, by first | rfl | (simp [errW_none, errW_some] <;> rfl) | (simp [*, errW_none, errW_some] <;> rfl), by (with_reducible repeat (first | apply Kd.S_alloc | apply Kd.S_drewN | apply Kd.S_drew)); exact HO_6.out, by repeat (first | (with_reducible first | exact HB.out | apply zC_ | apply zA_ | apply zB_) | exact HB.out)⟩
end Go.Proofs.YtnfgiamdmfkcjaaDoor.P
