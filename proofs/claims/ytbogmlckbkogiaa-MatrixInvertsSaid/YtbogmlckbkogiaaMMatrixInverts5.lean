import Derived.Test.YtbogmlckbkogiaaMMatrixInverts1
import Derived.Test.YtbogmlckbkogiaaMMatrixInverts3
import Derived.Test.YtbogmlckbkogiaaMMatrixInverts4
import Derived.Test.YtbogmlckbkogiaaMMatrixInverts2
import Derived.StillTailTactics
import Derived.BigQuiet
import Derived.BigRegion
-- Printed by a wrapper (wip/tools/myprint.py) of the kit's print, with hand-written contracts as given leaves.
namespace Go.Proofs.Ytbogmlckbkogiaa.P
open Go.Proofs.Ytbogmlckbkogiaa.Leaf
open Go.RowKit Go.Proofs.YtbogmlckbkogiaaW.PrintWords Go.Proofs.YtbogmlckbkogiaaW.PrintLast Go.Proofs.YtbogmlckbkogiaaW.PrintMore
attribute [local go_sem] max2_int min2_int max_two min_two max_three min_three max_four min_four   -- for this text's walks alone
set_option linter.unusedVariables false
set_option linter.unusedSimpArgs false

/-! ### matrix_own: function 91 -/
def matrix_own.l0 : Nat → List (List Int) → List (List Int) → Int → Int → Option ((List (List Int)))
  | 0, _, _, _, _ => none
  | k + 1, x3, x9, x10, x11 => if x11 < x10 then (if 0 ≤ x11 then (if x11 < (x9.length : Int) then ((slices_Clone_byte_byte.f (rd_L1 x9 x11)).bind fun t105 => (if x11 < (x3.length : Int) then (matrix_own.l0 k (x3.set (x11 : Int).toNat t105) x9 x10 (wrap64 (x11 + 1))) else (none))) else (none)) else (none)) else (some x3)
def matrix_own.f (k : Nat) (l0 : List (List Int)) : Option ((List (List Int))) := if 0 ≤ (l0.length : Int) then (if ((l0.length : Int) : Int).toNat ≤ 11728124029610 then (matrix_own.l0 k (List.replicate ((l0.length : Int) : Int).toNat []) l0 (l0.length : Int) 0) else (none)) else (none)
theorem matrix_own.mono_l : ∀ k, (∀ y0 y1 y2 y3, LeO (matrix_own.l0 k y0 y1 y2 y3) (matrix_own.l0 (k + 1) y0 y1 y2 y3))
  | 0 => fun _ _ _ _ r h => by simp [matrix_own.l0] at h
  | k + 1 => by
    have ih0 := matrix_own.mono_l k
    · intro y0 y1 y2 y3
      unfold matrix_own.l0
      repeat' first
      | (with_reducible exact ih0 _ _ _ _)
      | (with_reducible exact LeO.refl _)
      | (with_reducible exact LeO.none _)
      | (with_reducible refine LeO.ite ?_ ?_)
      | (with_reducible refine LeO.bind ?_ (fun _ => ?_))
      | exact ih0 _ _ _ _
      | exact LeO.none _
      | refine LeO.ite ?_ ?_
      | refine LeO.bind ?_ (fun _ => ?_)
theorem matrix_own.mono : ∀ a0 k, LeO (matrix_own.f k a0) (matrix_own.f (k + 1) a0) := by
  intro a0 k
  have ih0 := matrix_own.mono_l k
  unfold matrix_own.f
  repeat' first
      | (with_reducible exact ih0 _ _ _ _)
      | (with_reducible exact LeO.refl _)
      | (with_reducible exact LeO.none _)
      | (with_reducible refine LeO.ite ?_ ?_)
      | (with_reducible refine LeO.bind ?_ (fun _ => ?_))
      | exact ih0 _ _ _ _
      | exact LeO.none _
      | refine LeO.ite ?_ ?_
      | refine LeO.bind ?_ (fun _ => ?_)
set_option maxHeartbeats 8000000 in
set_option maxRecDepth 100000 in
theorem matrix_own.calls (k : Nat) (A0 : Option Addr) (c0 : Nat) (l0 : List (List Int)) (r : List (List Int)) (w : World) (hr0 : Kd.C (Kd.slice 5 (Kd.int .u8)) w A0 l0.length l0) (hc0 : l0.length ≤ c0) (h : matrix_own.f k l0 = some r) :
    Calls Try.prog 91 #[.slice A0 l0.length c0] w fun e w' => ∃ v0_ : Value, e = .returned (v0_) ∧ Kd.S (Kd.slice 5 (Kd.int .u8)) 22 w' w.heap.size (fun _ => True) v0_ r ∧ Below w.heap.size w w' := by
  have HR0 := Aside0.mk hr0
  have HC0 := Aside0.mk hc0
  clear hr0 hc0
  have HB := Aside0.mk (Below.refl w.heap.size w)
  have H : (if 0 ≤ (l0.length : Int) then (if ((l0.length : Int) : Int).toNat ≤ 11728124029610 then (matrix_own.l0 k (List.replicate ((l0.length : Int) : Int).toNat []) l0 (l0.length : Int) 0) else (none)) else (none)) = some r := h
  clear h
  by_cases c2 : 0 ≤ (l0.length : Int)
  · rw [if_pos c2] at H
    have c2b0 := eq_true c2
    have c2b1 : decide (0 ≤ (l0.length : Int)) = true := decide_eq_true c2
    clear c2
    by_cases c3 : ((l0.length : Int) : Int).toNat ≤ 11728124029610
    · rw [if_pos c3] at H
      have c3b0 := eq_true c3
      have c3b1 : decide (((l0.length : Int) : Int).toNat ≤ 11728124029610) = true := decide_eq_true c3
      clear c3
      obtain ⟨y101, hy101⟩ : ∃ y_ : List (List Int), y_ = (List.replicate ((l0.length : Int) : Int).toNat []) := ⟨_, rfl⟩
      replace H : (matrix_own.l0 k y101 l0 (l0.length : Int) 0) = some r := by first | (rw [hy101]; with_reducible exact H) | (have H2_ := (Option.bind_some _ _).symm.trans H; rw [hy101]; with_reducible exact H2_) | (have H2_ := (Option.bind_some _ _).symm.trans H; with_reducible exact H2_) | with_reducible exact H | (rw [hy101]; exact H) | exact H
      have Ny101 := Aside0.mk hy101
      clear hy101
      have H' := Aside0.mk H
      clear H
      go_enter Try.func91, Try.ntmps91
      go_wp2_with (first | ((with_reducible refine gate_dst (N := 8) rfl ?_); refine Kd.S_make (Kd.slice 5 (Kd.int .u8)) _ 22 rfl (N := 8) rfl 51 _ _ rfl (l0.length : Int) rfl rfl Try.underlying51 (.slice none 0 0) 24 info22 rfl (by decide) (by omega) [] (ok := fun _ => True) (okp := fun _ => True) ⟨_, rfl, Kd.R_nil _ _ _ _ _⟩ (fun _ hk => hk) trivial (of_decide_eq_true (by first | (with_reducible assumption) | assumption)) (Nat.le_trans (Nat.mul_le_mul_right _ (of_decide_eq_true (by first | (with_reducible assumption) | assumption) : (l0.length : Int).toNat ≤ 11728124029610)) (by omega)) (Below.refl _ _) (Nat.le_refl _) ?_; intro v102 w4 ho5 hb hg_ hnew_; clear hg_ hnew_; (first | rw [← Ny101.out] at ho5 | (simp only [Int.reduceToNat] at ho5; rw [← Ny101.out] at ho5)); have n0_ := Aside0.mk (Kd.S_lower ho5 (below_size (by repeat (first | (with_reducible first | exact HB.out | apply below_alloc | apply pw_below_drewN | apply below_drew1) | exact HB.out)))); have n1_ := Aside0.mk (below_step (by repeat (first | (with_reducible first | exact HB.out | apply below_alloc | apply pw_below_drewN | apply below_drew1) | exact HB.out)) hb); clear HB; have HO103 := n0_; have HB := n1_; clear n0_ n1_; clear hb ho5))
      go_loopg [11] k (fun kq v11 w' => ∃ (x3_1 : List (List Int)) (x11_1 : Int), v11 = .int .i64 x11_1 ∧ Aside0 (matrix_own.l0 kq x3_1 l0 (l0.length : Int) x11_1 = some r) ∧ Aside0 (kq ≤ k) ∧ Aside0 (Kd.S (Kd.slice 5 (Kd.int .u8)) 22 w' w.heap.size (fun _ => True) v102 x3_1) ∧ Aside0 (Below w.heap.size w w'))
      case atStart => exact ⟨(y101), (0), (by first | rfl | (simp; done) | (simp [*]; done)), H', ⟨Nat.le_refl _⟩, ⟨by (with_reducible repeat (first | apply Kd.S_alloc | apply Kd.S_drewN | apply Kd.S_drew)); exact HO103.out⟩, ⟨by repeat (first | (with_reducible first | exact HB.out | apply below_alloc | apply pw_below_drewN | apply below_drew1) | exact HB.out)⟩⟩
      case round =>
        clear H'
        try clear c2
        try clear c2b0
        try clear c2b1
        try clear p2
        try clear c3
        try clear c3b0
        try clear c3b1
        obtain ⟨x3_1, x11_1, rfl, HA, HK1, HO_3, HB⟩ := hrel
        cases gk with
        | zero => exact absurd HA.out (by simp [matrix_own.l0])
        | succ k1 =>
          have H := HA.out
          clear HA
          simp only [matrix_own.l0] at H
          by_cases c6 : x11_1 < (l0.length : Int)
          · rw [if_pos c6] at H
            have c6b0 : decide (x11_1 < (l0.length : Int)) = true := decide_eq_true c6
            clear c6
            by_cases c7 : 0 ≤ x11_1
            · rw [if_pos c7] at H
              have c7b0 : decide (0 ≤ x11_1) = true := decide_eq_true c7
              clear c7
              by_cases c8 : x11_1 < (l0.length : Int)
              · rw [if_pos c8] at H
                have c8b0 : decide (x11_1 < (l0.length : Int)) = true := decide_eq_true c8
                clear c8
                replace H := Option.bind_eq_some_iff.mp H
                obtain ⟨t105, A90, H⟩ := H
                replace H : (if x11_1 < (x3_1.length : Int) then (matrix_own.l0 k1 (x3_1.set (x11_1 : Int).toNat t105) l0 (l0.length : Int) (wrap64 (x11_1 + 1))) else (none)) = some r := H
                have A9 := Aside0.mk A90
                clear A90
                by_cases c10 : x11_1 < (x3_1.length : Int)
                · rw [if_pos c10] at H
                  have c10b0 : decide (x11_1 < (x3_1.length : Int)) = true := decide_eq_true c10
                  clear c10
                  obtain ⟨y108, hy108⟩ : ∃ y_ : List (List Int), y_ = (x3_1.set (x11_1 : Int).toNat t105) := ⟨_, rfl⟩
                  replace H : (matrix_own.l0 k1 y108 l0 (l0.length : Int) (wrap64 (x11_1 + 1))) = some r := by first | (rw [hy108]; with_reducible exact H) | (have H2_ := (Option.bind_some _ _).symm.trans H; rw [hy108]; with_reducible exact H2_) | (have H2_ := (Option.bind_some _ _).symm.trans H; with_reducible exact H2_) | with_reducible exact H | (rw [hy108]; exact H) | exact H
                  have Ny108 := Aside0.mk hy108
                  clear hy108
                  have H' := Aside0.mk H
                  clear H
                  have p104 : 0 ≤ (x11_1 : Int) := of_decide_eq_true (by first | (with_reducible assumption) | assumption)
                  have q104 : x11_1 < (l0.length : Int) := of_decide_eq_true (by first | (with_reducible assumption) | assumption)
                  obtain ⟨ad104, A104_0, c104_0, e104, hx104_0, hl104_0, hi104_0⟩ := at_L1 HR0.out x11_1 p104 q104
                  cases e104
                  replace hx104_0 := (HB.out.cell (World.block_lt_of_cell? w _ hx104_0)).trans hx104_0
                  have HR104_0 := Aside0.mk hi104_0
                  have HC104_0 := Aside0.mk hl104_0
                  clear hi104_0 hl104_0
                  replace p104 := eq_true p104
                  replace q104 := eq_true q104
                  go_wp2_with (first | ((with_reducible refine gate_callee (f := 89) rfl ?_); refine goesL_ (some 19) rfl rfl Try.func89 (by kernel_rfl) rfl #[.slice A104_0 (rd_L1 l0 x11_1).length c104_0] rfl (by (try simp only [List.map_toArray, List.map_cons, List.map_nil]); first | done | rfl | (simp only [List.length_drop, List.length_take]; rfl)) ?_; (with_reducible refine (slices_Clone_byte_byte.calls _ _ (rd_L1 l0 x11_1) t105 _ ?side1 ?side2 A9.out).mono ?_); (case side1 => repeat (first | exact (Kd.C_below HR104_0.out HB.out) | (with_reducible refine Kd.C_alloc ?_ _) | (with_reducible refine Kd.C_drewN ?_ _) | (with_reducible refine Kd.C_drew ?_))); (case side2 => exact HC104_0.out); rintro e w12 ⟨v106, rfl, ho0, hb⟩; refine ⟨_, rfl, ?_⟩; have n0_ := Aside0.mk (Kd.S_elder' (by (with_reducible repeat (first | apply Kd.S_alloc | apply Kd.S_drewN | apply Kd.S_drew)); exact HO_3.out) (Kd.R_base ho0) hb); have n1_ := Aside0.mk (Kd.R_lower ho0 (below_size (by repeat (first | (with_reducible first | exact HB.out | apply below_alloc | apply pw_below_drewN | apply below_drew1) | exact HB.out)))); have n2_ := Aside0.mk (below_step (by repeat (first | (with_reducible first | exact HB.out | apply below_alloc | apply pw_below_drewN | apply below_drew1) | exact HB.out)) hb); clear HO_3; clear HB; have HO_3 := n0_; have HO107 := n1_; have HB := n2_; clear n0_ n1_ n2_; (try clear hb); (try clear hb2); (try clear hk); (try clear hi); (try clear ho0); have p11 : 0 ≤ (x11_1 : Int) := of_decide_eq_true (by first | (with_reducible assumption) | assumption); have q11 : (x11_1 : Int) < ((x3_1.length : Int) : Int) := of_decide_eq_true (by first | (with_reducible assumption) | assumption); obtain ⟨go11, co11, eo11, gb11, gl11, cl11, HG11⟩ := Kd.S_form HO_3.out (by omega); (first | cases eo11 | (injection eo11 with ea_ en_ ec_; (first | subst ea_ | (injection ea_ with ea_; subst ea_)); subst ec_; clear en_)); have GB11 := Aside0.mk gb11; have GG11 := Aside0.mk HG11; clear gb11 gl11 HG11; obtain ⟨_, ce11, hcl11, hM11, hcc11, hfr11, _, _⟩ := Kd.S_elem HO_3.out [] (x11_1 : Int) p11 q11; obtain ⟨ve11_0, rfl, ge11_0⟩ := hM11; have hx11_0 := hcc11 0 _ rfl; have hf11_0 := hfr11 0; (try simp only [show ((Kd.slice 5 (Kd.int .u8))).sz = 1 from rfl, Nat.mul_one, Nat.add_zero] at hx11_0); (try simp only [show ((Kd.slice 5 (Kd.int .u8))).sz = 1 from rfl, Nat.mul_one, Nat.add_zero] at hf11_0); (try clear hcl11); (try clear hcc11); (try clear hfr11); (try clear hM11); replace p11 := eq_true p11; replace q11 := eq_true q11; have n_ := Aside0.mk (Kd.S_mono (ok' := (fun k_ => some k_ ≠ (v106 : Value).ownBlock)) HO_3.out (fun k_ hk => hk.2)); clear HO_3; have HO_3 := n_; clear n_; have HX13 := Aside0.mk (show Kd.S (Kd.slice 5 (Kd.int .u8)) 22 w12 w.heap.size (fun k_ => ((fun _ => True)) k_ ∧ ¬ ((fun k_ => some k_ = (v106 : Value).ownBlock)) k_) (.slice (some ⟨go11, 0, none⟩) x3_1.length co11) x3_1 from (by (with_reducible repeat (first | apply Kd.S_alloc | apply Kd.S_drewN | apply Kd.S_drew)); exact Kd.S_mono HO_3.out (fun k_ hk => ⟨trivial, fun e_ => hk e_⟩))); obtain ⟨oki13, ce13, hcl13, hM13, hcc13, hfr13, hoki13, hH13⟩ := Kd.S_elem HX13.out [] (x11_1 : Int) (of_decide_eq_true (by first | (with_reducible assumption) | assumption)) (by have h_ : (x11_1 : Int) < ((x3_1.length : Int) : Int) := of_decide_eq_true (by first | (with_reducible assumption) | assumption); first | exact h_ | (have e_ := (Kd.S_reads' HO_3.out).1; omega) | simpa using h_); obtain ⟨ve13_0, rfl, ge13_0⟩ := hM13; obtain ⟨Av13_, cv13_, ev13_⟩ := Kd.R_slice HO107.out; subst ev13_; have HP13 := Kd.S_seg hH13 (of_decide_eq_true (by first | (with_reducible assumption) | assumption)) (by have h_ : (x11_1 : Int) < ((x3_1.length : Int) : Int) := of_decide_eq_true (by first | (with_reducible assumption) | assumption); first | exact h_ | (have e_ := (Kd.S_reads' HO_3.out).1; omega) | simpa using h_) (seg := [(.slice Av13_ t105.length cv13_)]) (j := 0) (show 1 ≤ 1 from by decide) (x' := t105) (Kd.M_row (Kd.R_mono (Kd.R_tight rfl (Kd.R_mono (ok' := fun k_ => ((fun _ => True)) k_ ∧ k_ ≠ go11) (Kd.R_apart' (HO107.out) (Kd.S_typed HO_3.out) (by decide)) (fun k_ hk => ⟨trivial, fun e_ => (hk.2) (by rw [e_]; rfl)⟩))) (fun _ h_ => Or.inr (h_)))) (fun _ hk => hk) (fun k_ hk_ => ((Kd.R_mono (ok' := fun k_ => ((fun _ => True)) k_ ∧ k_ ≠ go11) (Kd.R_apart' (HO107.out) (Kd.S_typed HO_3.out) (by decide)) (fun k_ hk => ⟨trivial, fun e_ => (hk.2) (by rw [e_]; rfl)⟩))).1 k_ hk_.symm); have hx13_0 := hcc13 0 _ rfl; (try simp only [show ((Kd.slice 5 (Kd.int .u8))).sz = 1 from rfl, Nat.mul_one, Nat.add_zero] at hx13_0); have hf13_0 := hfr13 0; (try simp only [show ((Kd.slice 5 (Kd.int .u8))).sz = 1 from rfl, Nat.mul_one, Nat.add_zero] at hf13_0); (try clear hcl13); (try clear hcc13); (try clear hfr13); (try clear hM13); (try clear hoki13); (try clear hH13); (try simp only [show ((Kd.slice 5 (Kd.int .u8))).sz = 1 from rfl, Nat.mul_one, Nat.add_zero] at HP13)) | ((with_reducible refine gate_store (t := 22) (p := 20) rfl ?_); refine store_event (t := 22) (p := 20) (v := ?vo_w14) (w1 := (w12.setCell ⟨go11, (x11_1 : Int).toNat, none⟩ ((.slice Av13_ t105.length cv13_)))) ?hg ?ho ?hn ?hr ?_; (case ho => rfl); (case hg => rfl); (case hn => rfl); (case hr => first | (go_simp; done) | (go_simp; rfl)); intro w14 hw; have hg : w12.grownBy w14 (some go11) := (by rw [hw]; exact HP13.2); have hp_ : Kd.S (Kd.slice 5 (Kd.int .u8)) 22 w14 w.heap.size (fun _ => True) (.slice (some ⟨go11, 0, none⟩) x3_1.length co11) y108 := (by rw [hw, Ny108.out]; exact HP13.1); clear HP13; have n0_ := Aside0.mk (hp_); have n1_ := Aside0.mk ((by rw [hw]; exact below_set (HB.out) GB11.out : Below w.heap.size w w14)); clear HO_3; clear HB; clear HO107; have HO_3 := n0_; have HB := n1_; clear n0_ n1_; clear hg hw hp_))
                  go_roundg k1
                  case measure => have := HK1.out; omega
                  case rel => exact ⟨(y108), (wrap64 (x11_1 + 1)), (by first | rfl | (simp; done) | (simp [*]; done)), H', ⟨by have := HK1.out; omega⟩, ⟨by (with_reducible repeat (first | apply Kd.S_alloc | apply Kd.S_drewN | apply Kd.S_drew)); exact HO_3.out⟩, ⟨by repeat (first | (with_reducible first | exact HB.out | apply below_alloc | apply pw_below_drewN | apply below_drew1) | exact HB.out)⟩⟩
                · rw [if_neg c10] at H
                  exact absurd H (by simp)
              · rw [if_neg c8] at H
                exact absurd H (by simp)
            · rw [if_neg c7] at H
              exact absurd H (by simp)
          · rw [if_neg c6] at H
            have c6b0 : decide (x11_1 < (l0.length : Int)) = false := decide_eq_false c6
            clear c6
            obtain rfl := Option.some.inj H
            go_wp2
            go_ret
            exact ⟨_, by first | rfl | (simp [errW_none, errW_some] <;> rfl) | (simp [*, errW_none, errW_some] <;> rfl), by (with_reducible repeat (first | apply Kd.S_alloc | apply Kd.S_drewN | apply Kd.S_drew)); exact HO_3.out, by repeat (first | (with_reducible first | exact HB.out | apply below_alloc | apply pw_below_drewN | apply below_drew1) | exact HB.out)⟩
    · rw [if_neg c3] at H
      exact absurd H (by simp)
  · rw [if_neg c2] at H
    exact absurd H (by simp)

end Go.Proofs.Ytbogmlckbkogiaa.P

/- What the program's and the reference's matrix functions come to, over bytes. Conditions: told at each. -/
namespace Go.Proofs.Ytbogmlckbkogiaa.Red
open Go.RowKit Go.Proofs.YtbogmlckbkogiaaW.PrintWords Go.Proofs.Ytbogmlckbkogiaa.Leaf Go.Proofs.Ytbogmlckbkogiaa.Gf Go.Proofs.Ytbogmlckbkogiaa.H Go.Proofs.Ytbogmlckbkogiaa.Mx Go.Proofs.Ytbogmlckbkogiaa.P
set_option linter.unusedVariables false
def oM (A : Mat) : List (List Int) := A.map ofL
theorem oM_length (A : Mat) : (oM A).length = A.length := List.length_map _
theorem rd_oM (A : Mat) (i : Nat) : rd_L1 (oM A) (i : Int) = ofL (row A i) := map_getD A i
theorem rd_oM0 (A : Mat) : rd_L1 (oM A) 0 = ofL (row A 0) := map_getD A 0
theorem oM_inj {A C : Mat} (h : oM A = oM C) : A = C := by
  have hl : A.length = C.length := by rw [← oM_length A, h, oM_length]
  refine List.ext_getElem hl fun i h1 h2 => ?_
  have h3 : (oM A)[i]? = (oM C)[i]? := by rw [h]
  unfold oM at h3
  rw [List.getElem?_map, List.getElem?_map, List.getElem?_eq_getElem h1, List.getElem?_eq_getElem h2] at h3
  exact ofL_inj (Option.some.inj h3)
theorem oM_set (A : Mat) (i : Nat) (r : List B) : (oM A).set i (ofL r) = oM (A.set i r) := map_set A i r
theorem oM_append (A C : Mat) : oM A ++ oM C = oM (A ++ C) := by unfold oM; rw [List.map_append]
theorem oM_one (r : List B) : [ofL r] = oM [r] := rfl
/-- May a matrix be? -/
def mayB (A : Mat) : Bool := decide (0 < A.length) && decide (A.length ≤ 255) && decide (0 < (row A 0).length) && decide ((row A 0).length ≤ 255) && (List.range A.length).all fun i => (row A i).length == (row A 0).length
theorem mayB_iff (A : Mat) : mayB A = true ↔ 0 < A.length ∧ A.length ≤ 255 ∧ 0 < (row A 0).length ∧ (row A 0).length ≤ 255 ∧ ∀ i, i < A.length → (row A i).length = (row A 0).length := by
  unfold mayB
  simp only [Bool.and_eq_true, decide_eq_true_eq, List.all_eq_true, List.mem_range, beq_iff_eq]
  exact ⟨fun ⟨⟨⟨⟨a, b⟩, c⟩, d⟩, e⟩ => ⟨a, b, c, d, e⟩, fun ⟨a, b, c, d, e⟩ => ⟨⟨⟨⟨a, b⟩, c⟩, d⟩, e⟩⟩
theorem mayB_reg {A : Mat} (h : mayB A = true) : Reg A A.length (row A 0).length ∧ 0 < A.length ∧ A.length ≤ 255 ∧ 0 < (row A 0).length ∧ (row A 0).length ≤ 255 := by
  obtain ⟨a, b, c, d, e⟩ := (mayB_iff A).1 h
  exact ⟨⟨rfl, e⟩, a, b, c, d⟩
theorem mayB_of {A : Mat} {n m : Nat} (h : Reg A n m) (h1 : 0 < n) (h2 : n ≤ 255) (h3 : 0 < m) (h4 : m ≤ 255) : mayB A = true := by
  rw [mayB_iff, h.1, h.2 0 h1]
  exact ⟨h1, h2, h3, h4, fun i hi => h.2 i hi⟩
/-! ### Check, May -/
theorem chk_ok (A : Mat) (hs : A.length ≤ 9223372036854775807) (h : ∀ j, j < A.length → (row A j).length = (row A 0).length) (n : Nat) : ∀ i : Nat, i + n = A.length → Ev (fun k => matrix_Check.l0 k (oM A) (oM A) (A.length : Int) (i : Int)) 0 := by
  induction n with
  | zero =>
    intro i hi
    refine Ev.step (f := fun _ => some 0) (fun k => ?_) (Ev.now _)
    simp only [matrix_Check.l0]
    rw [if_neg (by omega)]
  | succ n ih =>
    intro i hi
    refine Ev.step (f := fun k => matrix_Check.l0 k (oM A) (oM A) (A.length : Int) ((i + 1 : Nat) : Int)) (fun k => ?_) (ih (i + 1) (by omega))
    simp only [matrix_Check.l0, oM_length, rd_oM, rd_oM0, ofL_length]
    rw [if_pos (by omega), if_pos (by omega), if_pos (by omega), if_pos (by omega), if_pos (by rw [h i (by omega)]), w64 _ (by omega) (by omega)]
    rfl
theorem chk_bad (A : Mat) (hs : A.length ≤ 9223372036854775807) (j : Nat) (hj : j < A.length) (hne : (row A j).length ≠ (row A 0).length) (n : Nat) : ∀ i : Nat, i + n = j → Ev (fun k => matrix_Check.l0 k (oM A) (oM A) (A.length : Int) (i : Int)) 1 := by
  induction n with
  | zero =>
    intro i hi
    refine Ev.step (f := fun _ => some 1) (fun k => ?_) (Ev.now _)
    simp only [matrix_Check.l0, oM_length, rd_oM, rd_oM0, ofL_length]
    rw [if_pos (by omega), if_pos (by omega), if_pos (by omega), if_pos (by omega), if_neg (by rw [show i = j by omega]; omega)]
  | succ n ih =>
    intro i hi
    by_cases he : (row A i).length = (row A 0).length
    · refine Ev.step (f := fun k => matrix_Check.l0 k (oM A) (oM A) (A.length : Int) ((i + 1 : Nat) : Int)) (fun k => ?_) (ih (i + 1) (by omega))
      simp only [matrix_Check.l0, oM_length, rd_oM, rd_oM0, ofL_length]
      rw [if_pos (by omega), if_pos (by omega), if_pos (by omega), if_pos (by omega), if_pos (by rw [he]), w64 _ (by omega) (by omega)]
      rfl
    · refine Ev.step (f := fun _ => some 1) (fun k => ?_) (Ev.now _)
      simp only [matrix_Check.l0, oM_length, rd_oM, rd_oM0, ofL_length]
      rw [if_pos (by omega), if_pos (by omega), if_pos (by omega), if_pos (by omega), if_neg (by omega)]
theorem uneven {A : Mat} (h : ¬ ∀ j, j < A.length → (row A j).length = (row A 0).length) : ∃ j, j < A.length ∧ (row A j).length ≠ (row A 0).length := by
  apply Classical.byContradiction
  intro hn
  exact h fun j hj => Classical.byContradiction fun he => hn ⟨j, hj, he⟩
theorem not_may {A : Mat} (h : ¬ (0 < A.length ∧ A.length ≤ 255 ∧ 0 < (row A 0).length ∧ (row A 0).length ≤ 255 ∧ ∀ i, i < A.length → (row A i).length = (row A 0).length)) : mayB A = false := by
  rw [← Bool.not_eq_true, mayB_iff]; exact h
theorem evCheck (A : Mat) (hs : A.length ≤ 9223372036854775807) : Ev (fun k => matrix_Check.f k (oM A)) (if mayB A = true then 0 else 1) := by
  have j1 : Ev (fun k => matrix_Check.j0 k (oM A) true) 1 := Ev.step (f := fun _ => some 1) (fun k => by simp only [matrix_Check.j0, if_true]) (Ev.now _)
  unfold matrix_Check.f
  simp only [oM_length, rd_oM0, ofL_length]
  by_cases h1 : A.length = 0
  · rw [not_may (by omega)]
    simp only [show ((A.length : Int) = 0) = True from eq_true (by omega), if_true, Bool.false_eq_true, if_false]
    exact j1
  · simp only [show ((A.length : Int) = 0) = False from eq_false (by omega), if_false]
    by_cases h2 : A.length > 255
    · rw [not_may (by omega)]
      simp only [show ((A.length : Int) > 255) = True from eq_true (by omega), if_true, Bool.false_eq_true, if_false]
      exact j1
    · simp only [show ((A.length : Int) > 255) = False from eq_false (by omega), if_false, show ((0 : Int) < (A.length : Int)) = True from eq_true (by omega), if_true]
      by_cases h3 : (row A 0).length = 0
      · rw [not_may (by omega)]
        simp only [show (((row A 0).length : Int) = 0) = True from eq_true (by omega), if_true, Bool.false_eq_true, if_false]
        exact j1
      · simp only [show (((row A 0).length : Int) = 0) = False from eq_false (by omega), if_false]
        by_cases h4 : (row A 0).length > 255
        · rw [not_may (by omega)]
          simp only [show decide (((row A 0).length : Int) > 255) = true from decide_eq_true (by omega), Bool.false_eq_true, if_false]
          exact j1
        · simp only [show decide (((row A 0).length : Int) > 255) = false from decide_eq_false (by omega)]
          by_cases h5 : ∀ j, j < A.length → (row A j).length = (row A 0).length
          · rw [show mayB A = true from (mayB_iff A).2 ⟨by omega, by omega, by omega, by omega, h5⟩, if_pos rfl]
            refine Ev.step (f := fun k => matrix_Check.l0 k (oM A) (oM A) (A.length : Int) ((0 : Nat) : Int)) (fun k => ?_) (chk_ok A hs h5 A.length 0 (by omega))
            simp only [matrix_Check.j0, Bool.false_eq_true, if_false, oM_length]
            rfl
          · obtain ⟨j, hj, hne⟩ := uneven h5
            rw [not_may (fun h => h5 h.2.2.2.2)]
            simp only [Bool.false_eq_true, if_false]
            refine Ev.step (f := fun k => matrix_Check.l0 k (oM A) (oM A) (A.length : Int) ((0 : Nat) : Int)) (fun k => ?_) (chk_bad A hs j hj hne j 0 (by omega))
            simp only [matrix_Check.j0, Bool.false_eq_true, if_false, oM_length]
            rfl
theorem may_ok (A : Mat) (hs : A.length ≤ 9223372036854775807) (h0 : 0 < (row A 0).length) (h1 : (row A 0).length ≤ 255) (h : ∀ j, j < A.length → (row A j).length = (row A 0).length) (n : Nat) : ∀ i : Nat, i + n = A.length → Ev (fun k => mooringref02_May.l0 k (oM A) (i : Int)) true := by
  induction n with
  | zero =>
    intro i hi
    refine Ev.step (f := fun _ => some true) (fun k => ?_) (Ev.now _)
    simp only [mooringref02_May.l0, oM_length]
    rw [if_neg (by omega)]
  | succ n ih =>
    intro i hi
    have hi' := h i (by omega)
    refine Ev.step (f := fun k => mooringref02_May.l0 k (oM A) ((i + 1 : Nat) : Int)) (fun k => ?_) (ih (i + 1) (by omega))
    simp only [mooringref02_May.l0, oM_length, rd_oM, rd_oM0, ofL_length]
    rw [if_pos (by omega), if_pos (by omega), if_neg (by omega), if_neg (by omega), if_pos (by omega), if_pos (by omega), w64 _ (by omega) (by omega)]
    rfl
theorem may_bad (A : Mat) (hs : A.length ≤ 9223372036854775807) (j : Nat) (hj : j < A.length) (hne : (row A j).length < 1 ∨ (row A j).length > 255 ∨ (row A j).length ≠ (row A 0).length) (n : Nat) : ∀ i : Nat, i + n = j → Ev (fun k => mooringref02_May.l0 k (oM A) (i : Int)) false := by
  induction n with
  | zero =>
    intro i hi
    obtain rfl : i = j := by omega
    refine Ev.step (f := fun _ => some false) (fun k => ?_) (Ev.now _)
    simp only [mooringref02_May.l0, oM_length, rd_oM, rd_oM0, ofL_length]
    rw [if_pos (by omega), if_pos (by omega)]
    by_cases h1 : (row A i).length < 1
    · rw [if_pos (by omega)]
    · rw [if_neg (by omega)]
      by_cases h2 : (row A i).length > 255
      · rw [if_pos (by omega)]
      · rw [if_neg (by omega), if_pos (by omega), if_neg (by omega)]
  | succ n ih =>
    intro i hi
    by_cases he : (row A i).length < 1 ∨ (row A i).length > 255 ∨ (row A i).length ≠ (row A 0).length
    · refine Ev.step (f := fun _ => some false) (fun k => ?_) (Ev.now _)
      simp only [mooringref02_May.l0, oM_length, rd_oM, rd_oM0, ofL_length]
      rw [if_pos (by omega), if_pos (by omega)]
      by_cases h1 : (row A i).length < 1
      · rw [if_pos (by omega)]
      · rw [if_neg (by omega)]
        by_cases h2 : (row A i).length > 255
        · rw [if_pos (by omega)]
        · rw [if_neg (by omega), if_pos (by omega), if_neg (by omega)]
    · refine Ev.step (f := fun k => mooringref02_May.l0 k (oM A) ((i + 1 : Nat) : Int)) (fun k => ?_) (ih (i + 1) (by omega))
      simp only [mooringref02_May.l0, oM_length, rd_oM, rd_oM0, ofL_length]
      rw [if_pos (by omega), if_pos (by omega), if_neg (by omega), if_neg (by omega), if_pos (by omega), if_pos (by omega), w64 _ (by omega) (by omega)]
      rfl
theorem evMay (A : Mat) (hs : A.length ≤ 9223372036854775807) : Ev (fun k => mooringref02_May.f k (oM A)) (mayB A) := by
  have j1 : Ev (fun k => mooringref02_May.j0 k (oM A) true) false := Ev.step (f := fun _ => some false) (fun k => by simp only [mooringref02_May.j0, if_true]) (Ev.now _)
  have j2 : ∀ r, Ev (fun k => mooringref02_May.l0 k (oM A) ((0 : Nat) : Int)) r → Ev (fun k => mooringref02_May.j0 k (oM A) false) r := fun r h =>
    Ev.step (f := fun k => mooringref02_May.l0 k (oM A) ((0 : Nat) : Int)) (fun k => by simp only [mooringref02_May.j0, Bool.false_eq_true, if_false]; rfl) h
  unfold mooringref02_May.f
  simp only [oM_length]
  by_cases h1 : A.length < 1
  · rw [not_may (by omega)]
    simp only [show ((A.length : Int) < 1) = True from eq_true (by omega), if_true]
    exact j1
  · simp only [show ((A.length : Int) < 1) = False from eq_false (by omega), if_false]
    by_cases h2 : A.length > 255
    · rw [not_may (by omega)]
      simp only [show decide ((A.length : Int) > 255) = true from decide_eq_true (by omega)]
      exact j1
    · simp only [show decide ((A.length : Int) > 255) = false from decide_eq_false (by omega)]
      by_cases h3 : 0 < (row A 0).length ∧ (row A 0).length ≤ 255
      · by_cases h5 : ∀ j, j < A.length → (row A j).length = (row A 0).length
        · rw [show mayB A = true from (mayB_iff A).2 ⟨by omega, by omega, h3.1, h3.2, h5⟩]
          exact j2 _ (may_ok A hs h3.1 h3.2 h5 A.length 0 (by omega))
        · obtain ⟨j, hj, hne⟩ := uneven h5
          rw [not_may (fun h => h5 h.2.2.2.2)]
          exact j2 _ (may_bad A hs j hj (.inr (.inr hne)) j 0 (by omega))
      · rw [not_may (fun h => h3 ⟨h.2.2.1, h.2.2.2.1⟩)]
        exact j2 _ (may_bad A hs 0 (by omega) (by omega) 0 0 rfl)
/-! ### zeros, Identity, own -/
def zeroM (n m : Nat) : Mat := List.replicate n (List.replicate m 0#8)
theorem zeroM_reg (n m : Nat) : Reg (zeroM n m) n m := by
  refine ⟨List.length_replicate .., fun i hi => ?_⟩
  unfold row zeroM
  rw [List.getD_eq_getElem?_getD, List.getElem?_replicate, if_pos hi]
  simp
theorem el_zeroM {n m i j : Nat} (hi : i < n) (hj : j < m) : el (zeroM n m) i j = 0#8 := by
  unfold el row zeroM at0
  rw [List.getD_eq_getElem?_getD (l := List.replicate n _), List.getElem?_replicate, if_pos hi]
  rw [Option.getD_some, List.getD_eq_getElem?_getD, List.getElem?_replicate, if_pos hj]
  rfl
theorem zeros_l0 (n m : Nat) (hm : m ≤ 281474976710656) (hn : n < 2 ^ 62) (d : Nat) : ∀ (i : Nat) (X : List (List Int)), i + d = n → X.length = n → (∀ j, j < i → X.getD j [] = List.replicate m 0) → Ev (fun k => matrix_zeros.l0 k (m : Int) X (n : Int) (i : Int)) (List.replicate n (List.replicate m 0)) := by
  induction d with
  | zero =>
    intro i X hi hl h
    refine Ev.step (f := fun _ => some X) (fun k => ?_) ?_
    · simp only [matrix_zeros.l0]
      rw [if_neg (by omega)]
    · rw [show List.replicate n (List.replicate m (0 : Int)) = X from List.ext_getElem (by rw [List.length_replicate, hl]) fun j h1 h2 => by
        have h3 := h j (by omega)
        rw [List.getD_eq_getElem?_getD, List.getElem?_eq_getElem h2] at h3
        rw [List.getElem_replicate]
        exact h3.symm]
      exact Ev.now _
  | succ d ih =>
    intro i X hi hl h
    refine Ev.step (f := fun k => matrix_zeros.l0 k (m : Int) (X.set i (List.replicate m 0)) (n : Int) ((i + 1 : Nat) : Int)) (fun k => ?_) (ih (i + 1) _ (by omega) (by rw [List.length_set]; exact hl) (fun j hj => ?_))
    · simp only [matrix_zeros.l0, hl, Int.toNat_natCast]
      rw [if_pos (by omega), if_pos (by omega), if_pos hm, if_pos (by omega), if_pos (by omega), w64 _ (by omega) (by omega)]
      rfl
    · simp only [List.getD_eq_getElem?_getD, List.getElem?_set]
      by_cases e : i = j
      · subst e; rw [if_pos rfl, if_pos (by omega)]; rfl
      · rw [if_neg e]
        have := h j (by omega)
        rwa [List.getD_eq_getElem?_getD] at this
theorem evZeros (n m : Nat) (hm : m ≤ 281474976710656) (hn : n ≤ 11728124029610) : Ev (fun k => matrix_zeros.f k (n : Int) (m : Int)) (oM (zeroM n m)) := by
  unfold matrix_zeros.f
  simp only [show ((0 : Int) ≤ (n : Int)) = True from eq_true (by omega), if_true, Int.toNat_natCast, show (n ≤ 11728124029610) = True from eq_true hn, Option.bind_some, List.length_replicate]
  have e : oM (zeroM n m) = List.replicate n (List.replicate m 0) := by unfold oM zeroM; rw [List.map_replicate, ofL_replicate]
  rw [e]
  exact zeros_l0 n m hm (by omega) n 0 _ (by omega) (List.length_replicate ..) (fun j hj => by omega)
theorem set_one (r : List B) (i : Nat) : (ofL r).set i 1 = ofL (r.set i 1#8) := by rw [← ofB_one, ofL_set]
/-- The identity's rows, the first i of them done. -/
theorem id_l0 (n : Nat) (hn : n ≤ 255) (d : Nat) : ∀ i : Nat, i + d = n → Ev (fun k => matrix_Identity.l0 k (oM (matF n n (fun a b => if a < i then I a b else 0#8))) (n : Int) (i : Int)) (oM (idM n), 0) := by
  induction d with
  | zero =>
    intro i hi
    refine Ev.step (f := fun _ => some (oM (idM n), 0)) (fun k => ?_) (Ev.now _)
    simp only [matrix_Identity.l0]
    rw [if_neg (by omega), idM_eq, mat_ext (matF_reg n n _) (matF_reg n n I) (fun a b ha hb => by rw [el_matF _ ha hb, el_matF _ ha hb, if_pos (by omega)])]
  | succ d ih =>
    intro i hi
    have hr := (matF_reg n n (fun a b => if a < i then I a b else 0#8))
    have e : (matF n n (fun a b => if a < i then I a b else 0#8)).set i ((row (matF n n (fun a b => if a < i then I a b else 0#8)) i).set i 1#8) = matF n n (fun a b => if a < i + 1 then I a b else 0#8) := by
      refine mat_ext (hr.set (by omega) (by rw [List.length_set]; exact hr.2 i (by omega))) (matF_reg n n _) (fun a b ha hb => ?_)
      unfold el
      rw [row_set _ _ _ _ (by rw [hr.1]; omega)]
      show _ = el (matF n n _) a b
      rw [el_matF _ ha hb]
      by_cases e : a = i
      · subst e
        rw [if_pos rfl, at0_set _ _ _ _ (by rw [hr.2 a ha]; exact ha)]
        by_cases e2 : a = b
        · rw [if_pos e2, if_pos (by omega)]; unfold I; rw [if_pos e2]
        · rw [if_neg e2]
          show el (matF n n _) a b = _
          rw [el_matF _ ha hb, if_neg (by omega), if_pos (by omega)]
          unfold I; rw [if_neg e2]
      · rw [if_neg e]
        show el (matF n n _) a b = _
        rw [el_matF _ ha hb]
        by_cases e2 : a < i
        · rw [if_pos e2, if_pos (by omega)]
        · rw [if_neg e2, if_neg (by omega)]
    refine Ev.step (f := fun k => matrix_Identity.l0 k (oM (matF n n (fun a b => if a < i + 1 then I a b else 0#8))) (n : Int) ((i + 1 : Nat) : Int)) (fun k => ?_) (ih (i + 1) (by omega))
    simp only [matrix_Identity.l0, oM_length, rd_oM, ofL_length, hr.1, hr.2 i (by omega), Int.toNat_natCast]
    rw [if_pos (by omega), if_pos (by omega), if_pos (by omega), if_pos (by omega), set_one, oM_set, e, w64 _ (by omega) (by omega)]
    rfl
def idR (n : Int) : List (List Int) × Int := if 1 ≤ n ∧ n ≤ 255 then (oM (idM n.toNat), 0) else ([], 1)
theorem evIdentity (n : Int) : Ev (fun k => matrix_Identity.f k n) (idR n) := by
  unfold matrix_Identity.f idR
  have j1 : Ev (fun k => matrix_Identity.j0 k n true) ([], 1) := Ev.step (f := fun _ => some ([], 1)) (fun k => by simp only [matrix_Identity.j0, if_true]) (Ev.now _)
  by_cases h1 : n < 1
  · simp only [show (n < 1) = True from eq_true h1, if_true]
    rw [if_neg (by omega)]
    exact j1
  · simp only [show (n < 1) = False from eq_false h1, if_false]
    by_cases h2 : n > 255
    · simp only [show decide (n > 255) = true from decide_eq_true h2]
      rw [if_neg (by omega)]
      exact j1
    · simp only [show decide (n > 255) = false from decide_eq_false h2]
      rw [if_pos (by omega)]
      obtain ⟨m, rfl⟩ := Int.eq_ofNat_of_zero_le (show 0 ≤ n by omega)
      rw [Int.toNat_natCast]
      have hz : zeroM m m = matF m m (fun a b => if a < 0 then I a b else 0#8) := mat_ext (zeroM_reg m m) (matF_reg m m _) fun a b ha hb => by rw [el_zeroM ha hb, el_matF _ ha hb, if_neg (by omega)]
      refine Ev.step (f := fun k => (matrix_zeros.f k (m : Int) (m : Int)).bind fun t101 => matrix_Identity.l0 k t101 (t101.length : Int) 0) (fun k => by simp only [matrix_Identity.j0, Bool.false_eq_true, if_false]) ?_
      refine Ev.bind (evZeros m m (by omega) (by omega)) ?_
      rw [oM_length, (zeroM_reg m m).1, hz]
      exact id_l0 m (by omega) m 0 (by omega)
theorem refId_l0 (n : Nat) (hn : n ≤ 281474976710656) (hn2 : n < 5864062014805) (d : Nat) : ∀ i : Nat, i + d = n → Ev (fun k => mooringref02_Identity.l0 k (n : Int) (oM (matF i n I)) (i : Int)) (oM (idM n)) := by
  induction d with
  | zero =>
    intro i hi
    obtain rfl : i = n := by omega
    refine Ev.step (f := fun _ => some (oM (matF i i I))) (fun k => ?_) (Ev.now _)
    simp only [mooringref02_Identity.l0]
    rw [if_neg (by omega)]
  | succ d ih =>
    intro i hi
    refine Ev.step (f := fun k => mooringref02_Identity.l0 k (n : Int) (oM (matF (i + 1) n I)) ((i + 1 : Nat) : Int)) (fun k => ?_) (ih (i + 1) (by omega))
    simp only [mooringref02_Identity.l0, Int.toNat_natCast, Option.bind_some, List.length_replicate, oM_length, (matF_reg i n I).1]
    have e : (List.replicate n (0 : Int)).set i 1 = ofL ((List.range n).map (I i)) := by
      rw [ofL_replicate, ← ofB_one, ofL_set]
      congr 1
      refine ext0 (by simp) fun j hj => ?_
      simp only [List.length_set, List.length_replicate] at hj
      rw [at0_set _ _ _ _ (by rw [List.length_replicate]; omega), at0_map _ _ _ hj]
      unfold I
      by_cases e : i = j
      · rw [if_pos e, if_pos e]
      · rw [if_neg e, if_neg e]
        unfold at0
        simp [List.getD_eq_getElem?_getD, hj]
    rw [if_pos (by omega), if_pos (by omega), if_pos hn, if_pos (by omega), if_pos (by omega), if_pos (by omega), e, oM_one, oM_append, w64 _ (by omega) (by omega)]
    have e2 : matF i n I ++ [(List.range n).map (I i)] = matF (i + 1) n I := by unfold matF; rw [List.range_succ, List.map_append]; rfl
    rw [e2]
    rfl
theorem evRefIdentity (n : Nat) (hn : n < 5864062014805) : Ev (fun k => mooringref02_Identity.f k (n : Int)) (oM (idM n)) := by
  unfold mooringref02_Identity.f
  exact refId_l0 n (by omega) hn n 0 (by omega)
theorem evRefIdentity_neg (n : Int) (hn : n ≤ 0) : Ev (fun k => mooringref02_Identity.f k n) [] := by
  unfold mooringref02_Identity.f
  refine Ev.step (f := fun _ => some []) (fun k => ?_) (Ev.now _)
  simp only [mooringref02_Identity.l0]
  rw [if_neg (by omega)]
theorem own_l0 (A : Mat) (hs : A.length < 2 ^ 62) (hr : ∀ i, i < A.length → (row A i).length < 140737488355328) (d : Nat) : ∀ (i : Nat) (X : Mat), i + d = A.length → X.length = A.length → (∀ j, j < i → row X j = row A j) → Ev (fun k => matrix_own.l0 k (oM X) (oM A) (A.length : Int) (i : Int)) (oM A) := by
  induction d with
  | zero =>
    intro i X hi hl h
    refine Ev.step (f := fun _ => some (oM X)) (fun k => ?_) ?_
    · simp only [matrix_own.l0]
      rw [if_neg (by omega)]
    · rw [show A = X from List.ext_getElem hl.symm fun j h1 h2 => by
        have h3 := h j (by omega)
        unfold row at h3
        rw [List.getD_eq_getElem?_getD, List.getElem?_eq_getElem h2, List.getD_eq_getElem?_getD, List.getElem?_eq_getElem h1] at h3
        exact h3.symm]
      exact Ev.now _
  | succ d ih =>
    intro i X hi hl h
    refine Ev.step (f := fun k => matrix_own.l0 k (oM (X.set i (row A i))) (oM A) (A.length : Int) ((i + 1 : Nat) : Int)) (fun k => ?_) (ih (i + 1) _ (by omega) (by rw [List.length_set]; exact hl) (fun j hj => ?_))
    · simp only [matrix_own.l0, oM_length, rd_oM, slices_Clone_byte_byte.f, ofL_length, Int.toNat_natCast]
      rw [if_pos (by omega), if_pos (by omega), if_pos (by omega), if_pos (hr i (by omega)), Option.bind_some, if_pos (by omega), oM_set, w64 _ (by omega) (by omega)]
      rfl
    · rw [row_set _ _ _ _ (by omega)]
      by_cases e : j = i
      · rw [if_pos e, e]
      · rw [if_neg e]; exact h j (by omega)
theorem evOwn (A : Mat) (hs : A.length ≤ 11728124029610) (hr : ∀ i, i < A.length → (row A i).length < 140737488355328) : Ev (fun k => matrix_own.f k (oM A)) (oM A) := by
  unfold matrix_own.f
  simp only [oM_length, Int.toNat_natCast, show ((0 : Int) ≤ (A.length : Int)) = True from eq_true (by omega), if_true, show (A.length ≤ 11728124029610) = True from eq_true hs]
  have e : List.replicate A.length ([] : List Int) = oM (List.replicate A.length []) := by unfold oM; rw [List.map_replicate]; rfl
  rw [e]
  exact own_l0 A (by omega) hr A.length 0 _ (by omega) (List.length_replicate ..) (fun j hj => by omega)
end Go.Proofs.Ytbogmlckbkogiaa.Red

/- matrix.Inverse and matrix.Rank, by their contracts. Conditions: lists of bytes. -/
namespace Go.Proofs.Ytbogmlckbkogiaa.H
open Go.RowKit Go.Proofs.YtbogmlckbkogiaaW.PrintWords Go.Proofs.YtbogmlckbkogiaaW.PrintLast Go.Proofs.Ytbogmlckbkogiaa.Leaf Go.Proofs.Ytbogmlckbkogiaa.Gf Go.Proofs.Ytbogmlckbkogiaa.Red Go.Proofs.Ytbogmlckbkogiaa.P
set_option linter.unusedVariables false
set_option linter.unusedSimpArgs false
def byteRow (l : List Int) : Bool := l.all fun x => decide (0 ≤ x) && decide (x < 256)
def unM (l : List (List Int)) : Mat := l.map fun r => r.map toB
theorem byteRow_ofL (L : List B) : byteRow (ofL L) = true := by
  unfold byteRow ofL
  simp only [List.all_map, List.all_eq_true, Function.comp, Bool.and_eq_true, decide_eq_true_eq]
  exact fun x _ => ofB_range x
theorem ofL_toB (l : List Int) (h : byteRow l = true) : ofL (l.map toB) = l := by
  unfold ofL
  rw [List.map_map]
  refine (List.map_congr_left fun x hx => ?_).trans (List.map_id' l)
  have := List.all_eq_true.1 h x hx
  simp only [Bool.and_eq_true, decide_eq_true_eq] at this
  exact ofB_toB x this.1 this.2
theorem unM_oM (A : Mat) : unM (oM A) = A := by
  unfold unM oM ofL
  rw [List.map_map]
  refine (List.map_congr_left fun x hx => ?_).trans (List.map_id' A)
  simp only [Function.comp, List.map_map]
  refine (List.map_congr_left fun y _ => ?_).trans (List.map_id' x)
  exact toB_ofB y
theorem bytes_oM (A : Mat) : (oM A).all byteRow = true := by
  unfold oM
  simp only [List.all_map, List.all_eq_true, Function.comp]
  exact fun x _ => byteRow_ofL x
theorem oM_unM (l : List (List Int)) (h : l.all byteRow = true) : oM (unM l) = l := by
  unfold unM oM
  rw [List.map_map]
  refine (List.map_congr_left fun x hx => ?_).trans (List.map_id' l)
  exact ofL_toB x (List.all_eq_true.1 h x hx)
/-- An inverse, if the matrix may be and has one. -/
def invR (A : Mat) : List (List Int) × Int :=
  if mayB A = true ∧ A.length = (row A 0).length then if (redF A.length 0 0 A (idM A.length)).1 < A.length then ([], 4) else (oM (redF A.length 0 0 A (idM A.length)).2.2, 0) else ([], 1)
def matrix_Inverse.f (l0 : List (List Int)) : Option (List (List Int) × Int) := if l0.all byteRow = true then some (invR (unM l0)) else none
def rankR (A : Mat) : Int × Int := if mayB A = true then (((redF (row A 0).length 0 0 A (zeroM A.length 1)).1 : Int), 0) else (0, 1)
def matrix_Rank.f (l0 : List (List Int)) : Option (Int × Int) := if l0.all byteRow = true then some (rankR (unM l0)) else none
theorem matrix_Inverse.f_oM (A : Mat) : matrix_Inverse.f (oM A) = some (invR A) := by unfold matrix_Inverse.f; rw [if_pos (bytes_oM A), unM_oM]
theorem matrix_Rank.f_oM (A : Mat) : matrix_Rank.f (oM A) = some (rankR A) := by unfold matrix_Rank.f; rw [if_pos (bytes_oM A), unM_oM]
theorem Mt.lower {w : World} {base base' g cp : Nat} {id cap : Nat → Nat} {A : List (List Int)} (h : Mt w base g cp id cap A) (hb : base' ≤ base) : Mt w base' g cp id cap A :=
  ⟨own_weaken h.outer hb, fun i hi => own_weaken (h.rows i hi) hb, h.inj⟩
/-- Two matrices made one behind the other. -/
theorem St.make {w1 w2 : World} {base n m p : Nat} {A Z : Mat} {va vz : Value} (hZ : Kd.S (Kd.slice 5 (Kd.int .u8)) 22 w1 base (fun _ => True) vz (oM Z)) (hb : Below w1.heap.size w1 w2) (hA : Kd.S (Kd.slice 5 (Kd.int .u8)) 22 w2 w1.heap.size (fun _ => True) va (oM A)) (hbase : base ≤ w1.heap.size)
    (rA : Reg A n m) (rZ : Reg Z n p) (hn : 0 < n) (hm : 0 < m) (hp : 0 < p) : ∃ ga ca gz cz, va = .slice (some ⟨ga, 0, none⟩) n ca ∧ vz = .slice (some ⟨gz, 0, none⟩) n cz ∧ St w2 base ga ca gz cz n m p A Z := by
  obtain ⟨ga, ca, ida, capa, e1, h1, _⟩ := Mt.of_S hA (by rw [oM_length, rA.1]; exact hn) (fun i hi => by rw [oM_length, rA.1] at hi; unfold oM; rw [map_getD, ofL_length, rA.2 i hi]; exact hm)
  obtain ⟨gz, cz, idz, capz, e2, h2, _⟩ := Mt.of_S hZ (by rw [oM_length, rZ.1]; exact hn) (fun i hi => by rw [oM_length, rZ.1] at hi; unfold oM; rw [map_getD, ofL_length, rZ.2 i hi]; exact hp)
  rw [oM_length, rA.1] at e1
  rw [oM_length, rZ.1] at e2
  refine ⟨ga, ca, gz, cz, e1, e2, ida, capa, idz, capz, h1.lower hbase, h2.below hb, fun i j hi hj e => ?_, fun e => ?_, rA, rZ⟩
  · have h3 := (h1.rows i (by rw [oM_length, rA.1]; exact hi)).base_
    have h4 := (h2.rows j (by rw [oM_length, rZ.1]; exact hj)).lt
    omega
  · have h3 := h1.gbase
    have h4 := h2.glt
    omega
theorem St.toS {w : World} {base ga ca gb cb n m p : Nat} {A Z : Mat} (h : St w base ga ca gb cb n m p A Z) : Kd.S (Kd.slice 5 (Kd.int .u8)) 22 w base (fun _ => True) (.slice (some ⟨gb, 0, none⟩) n cb) (oM Z) := by
  obtain ⟨a, b, c, d, h1, h2, h3, h4, h5, h6⟩ := h
  have := Kd.S_mono h2.to_S (ok' := fun _ => True) (fun _ _ => trivial)
  rw [show (Z.map ofL).length = n by rw [List.length_map, h6.1]] at this
  exact this
set_option maxHeartbeats 2000000 in
set_option maxRecDepth 100000 in
theorem matrix_Inverse.calls (A0 : Option Addr) (c0 : Nat) (l0 : List (List Int)) (r1 : List (List Int)) (r2 : Int) (w : World) (hr0 : Kd.C (Kd.slice 5 (Kd.int .u8)) w A0 l0.length l0) (hc0 : l0.length ≤ c0) (h : matrix_Inverse.f l0 = some (r1, r2)) :
    Calls Try.prog 52 #[.slice A0 l0.length c0] w fun e w' => ∃ v0_ : Value, e = .returned (.tuple #[v0_, .int .i64 r2]) ∧ Kd.S (Kd.slice 5 (Kd.int .u8)) 22 w' w.heap.size (fun _ => True) v0_ r1 ∧ Below w.heap.size w w' := by
  unfold matrix_Inverse.f at h
  by_cases hby : l0.all byteRow = true
  · rw [if_pos hby] at h
    obtain ⟨A, rfl⟩ : ∃ A, l0 = oM A := ⟨unM l0, (oM_unM l0 hby).symm⟩
    rw [unM_oM] at h
    have hinv := Option.some.inj h
    clear h hby
    have hlen : A.length ≤ 9223372036854775807 := by have := hr0.2.1; rwa [oM_length] at this
    have hchk : Aside0 (Calls Try.prog 65 #[.slice A0 A.length c0] w fun e w' => e = .returned (.int .i64 (if mayB A = true then 0 else 1)) ∧ Drawn0 w w') := ⟨by
      obtain ⟨k, hk⟩ := (evCheck A hlen).rounds
      have := matrix_Check.calls k A0 c0 (oM A) _ w hr0 hc0 hk
      rwa [oM_length] at this⟩
    rw [oM_length]
    rw [oM_length] at hc0
    unfold invR at hinv
    by_cases hm : mayB A = true
    · rw [hm] at hchk
      obtain ⟨hreg, p1, p2, p3, p4⟩ := mayB_reg hm
      obtain ⟨As, cs, hcell, hrows⟩ := rows_vals hr0
      obtain ⟨ad, rfl, hce⟩ := hcell (by rw [oM_length]; exact p1)
      have hz : w.cell? ad = some (.slice (As 0) (row A 0).length (cs 0)) := by
        have := hce 0 (by rw [oM_length]; exact p1)
        rw [Addr.add_zero'] at this
        unfold oM at this
        rw [map_getD, ofL_length] at this
        exact this
      have hn0 : (0 : Int) < (A.length : Int) := by omega
      clear hce hrows hcell
      by_cases hsq : A.length = (row A 0).length
      · rw [if_pos ⟨hm, hsq⟩] at hinv
        have hsq2 : Reg A A.length A.length := by have := hreg; rw [← hsq] at this; exact this
        have hid : Aside0 (∀ W, Calls Try.prog 68 #[.int .i64 (A.length : Int)] W fun e w' => ∃ v, e = .returned (.tuple #[v, .int .i64 0]) ∧ Kd.S (Kd.slice 5 (Kd.int .u8)) 22 w' W.heap.size (fun _ => True) v (oM (idM A.length)) ∧ Below W.heap.size W w') := ⟨fun W => by
          obtain ⟨k, hk⟩ := (evIdentity (A.length : Int)).rounds
          unfold idR at hk
          rw [if_pos (by omega), Int.toNat_natCast] at hk
          exact matrix_Identity.calls k _ _ _ W hk⟩
        have hown : Aside0 (∀ W, Below w.heap.size w W → Calls Try.prog 91 #[.slice (some ad) A.length c0] W fun e w' => ∃ v, e = .returned v ∧ Kd.S (Kd.slice 5 (Kd.int .u8)) 22 w' W.heap.size (fun _ => True) v (oM A) ∧ Below W.heap.size W w') := ⟨fun W hW => by
          obtain ⟨k, hk⟩ := (evOwn A (by omega) (fun i hi => by rw [hreg.2 i hi]; omega)).rounds
          have := matrix_own.calls k _ c0 (oM A) _ W (Kd.C_below hr0 hW) (by rw [oM_length]; exact hc0) hk
          rwa [oM_length] at this⟩
        have t1 : ((A.length : Int) != ((row A 0).length : Int)) = false := by simp [hsq]
        have t2 : (A.length == (row A 0).length) = true := by simp [← hsq]
        have t3 : (A.length != (row A 0).length) = false := by simp [← hsq]
        have HR := Aside0.mk hinv
        have HG := Aside0.mk hsq2
        have HP := Aside0.mk (show 0 < A.length ∧ A.length ≤ 255 from ⟨p1, p2⟩)
        have HSQ := Aside0.mk hsq
        clear hinv hsq2 hsq hm hreg p3 p4 hr0
        go_enter Try.func52, Try.ntmps52
        go_wp2_with fail
        refine hchk.out.mono ?_
        rintro e w' ⟨rfl, ⟨nq, rfl⟩⟩
        clear hchk
        go_wp2_with fail
        refine (hid.out _).mono ?_
        rintro e w1 ⟨vz, rfl, hSz, hb1⟩
        have hbz : Below w.heap.size w w1 := below_step (pw_below_drewN (Below.refl _ _) nq) hb1
        have HZ : Aside0 (Kd.S (Kd.slice 5 (Kd.int .u8)) 22 w1 w.heap.size (fun _ => True) vz (oM (idM A.length))) := ⟨hSz⟩
        have HB1 := Aside0.mk hbz
        clear hid hSz hbz hb1
        go_wp2_with fail
        refine (hown.out _ HB1.out).mono ?_
        rintro e w2 ⟨va, rfl, hSa, hb2⟩
        obtain ⟨ga, ca, gz, cz, rfl, rfl, hSt⟩ := St.make HZ.out hb2 hSa (below_size HB1.out) HG.out (matF_reg _ _ _) HP.out.1 HP.out.1 HP.out.1
        have hb3 := below_step HB1.out hb2
        have hred := reduce_calls w2 w.heap.size ga ca gz cz A.length A.length A.length A (idM A.length) hSt HP.out.1 HP.out.1 HP.out.1 HP.out.2 HP.out.2 HP.out.2 (below_size hb3)
        have HRED := Aside0.mk hred
        have HB3 := Aside0.mk hb3
        clear hred hb3 hSt hSa hb2 HZ HB1 hown
        have hle := redF_le HP.out.1 HG.out (matF_reg A.length A.length Mx.I)
        rw [← idM_eq] at hle
        generalize redF A.length 0 0 A (idM A.length) = R at *
        obtain ⟨cnt, Ra, Rz⟩ := R
        simp only at HR HRED hle
        by_cases hlt : cnt < A.length
        · have HR2 : Aside0 (([], (4 : Int)) = (r1, r2)) := ⟨by have := HR.out; rw [if_pos hlt] at this; exact this⟩
          have u1 : decide ((cnt : Int) < (A.length : Int)) = true := decide_eq_true (by omega)
          have u2 : decide (cnt < A.length) = true := decide_eq_true hlt
          clear HR hlt hle
          go_wp2_with fail
          refine HRED.out.mono ?_
          rintro e w4 ⟨rfl, hst4, hb4⟩
          have HB4 := Aside0.mk (show Below w.heap.size w w4 from HB3.out.trans hb4)
          clear hst4 hb4 HRED
          go_wp2
          go_ret2
          obtain ⟨rfl, rfl⟩ := Prod.mk.inj HR2.out
          exact ⟨_, rfl, Kd.S_nil _ _ _ _ _, HB4.out⟩
        · have HR2 : Aside0 ((oM Rz, (0 : Int)) = (r1, r2)) := ⟨by have := HR.out; rw [if_neg hlt] at this; exact this⟩
          have u1 : decide ((cnt : Int) < (A.length : Int)) = false := decide_eq_false (by omega)
          have u2 : decide (cnt < A.length) = false := decide_eq_false hlt
          clear HR hlt hle
          go_wp2_with fail
          refine HRED.out.mono ?_
          rintro e w4 ⟨rfl, hst4, hb4⟩
          have HB4 := Aside0.mk (show Below w.heap.size w w4 from HB3.out.trans hb4)
          have HS4 := Aside0.mk hst4.toS
          clear hst4 hb4 HRED
          go_wp2
          go_ret2
          obtain ⟨rfl, rfl⟩ := Prod.mk.inj HR2.out
          exact ⟨_, rfl, HS4.out, HB4.out⟩
      · rw [if_neg (fun h => hsq h.2)] at hinv
        obtain ⟨rfl, rfl⟩ := Prod.mk.inj hinv
        have t1 : ((A.length : Int) != ((row A 0).length : Int)) = true := by simp; omega
        have t2 : (A.length == (row A 0).length) = false := by simp [hsq]
        have t3 : (A.length != (row A 0).length) = true := by simp [hsq]
        clear hinv hsq hm hreg hr0
        go_enter Try.func52, Try.ntmps52
        go_wp2_with fail
        refine hchk.out.mono ?_
        rintro e w' ⟨rfl, ⟨nq, rfl⟩⟩
        clear hchk
        go_wp2
        go_ret2
        exact ⟨_, rfl, Kd.S_nil _ _ _ _ _, pw_below_drewN (Below.refl _ _) nq⟩
    · rw [if_neg (fun h => hm h.1)] at hinv
      rw [if_neg hm] at hchk
      obtain ⟨rfl, rfl⟩ := Prod.mk.inj hinv
      clear hinv hm hr0
      go_enter Try.func52, Try.ntmps52
      go_wp2_with fail
      refine hchk.out.mono ?_
      rintro e w' ⟨rfl, ⟨nq, rfl⟩⟩
      clear hchk
      go_wp2
      go_ret2
      exact ⟨_, rfl, Kd.S_nil _ _ _ _ _, pw_below_drewN (Below.refl _ _) nq⟩
  · rw [if_neg hby] at h
    cases h
set_option maxHeartbeats 2000000 in
set_option maxRecDepth 100000 in
theorem matrix_Rank.calls (A0 : Option Addr) (c0 : Nat) (l0 : List (List Int)) (r1 : Int) (r2 : Int) (w : World) (hr0 : Kd.C (Kd.slice 5 (Kd.int .u8)) w A0 l0.length l0) (hc0 : l0.length ≤ c0) (h : matrix_Rank.f l0 = some (r1, r2)) :
    Calls Try.prog 70 #[.slice A0 l0.length c0] w fun e w' => e = .returned (.tuple #[.int .i64 r1, .int .i64 r2]) ∧ Below w.heap.size w w' := by
  unfold matrix_Rank.f at h
  by_cases hby : l0.all byteRow = true
  · rw [if_pos hby] at h
    obtain ⟨A, rfl⟩ : ∃ A, l0 = oM A := ⟨unM l0, (oM_unM l0 hby).symm⟩
    rw [unM_oM] at h
    have hinv := Option.some.inj h
    clear h hby
    have hlen : A.length ≤ 9223372036854775807 := by have := hr0.2.1; rwa [oM_length] at this
    have hchk : Aside0 (Calls Try.prog 65 #[.slice A0 A.length c0] w fun e w' => e = .returned (.int .i64 (if mayB A = true then 0 else 1)) ∧ Drawn0 w w') := ⟨by
      obtain ⟨k, hk⟩ := (evCheck A hlen).rounds
      have := matrix_Check.calls k A0 c0 (oM A) _ w hr0 hc0 hk
      rwa [oM_length] at this⟩
    rw [oM_length]
    rw [oM_length] at hc0
    unfold rankR at hinv
    by_cases hm : mayB A = true
    · rw [hm] at hchk
      rw [if_pos hm] at hinv
      obtain ⟨hreg, p1, p2, p3, p4⟩ := mayB_reg hm
      have hzs : Aside0 (∀ W, Calls Try.prog 94 #[.int .i64 (A.length : Int), .int .i64 1] W fun e w' => ∃ v, e = .returned v ∧ Kd.S (Kd.slice 5 (Kd.int .u8)) 22 w' W.heap.size (fun _ => True) v (oM (zeroM A.length 1)) ∧ Below W.heap.size W w') := ⟨fun W => by
        obtain ⟨k, hk⟩ := (evZeros A.length 1 (by omega) (by omega)).rounds
        exact matrix_zeros.calls k _ _ _ W hk⟩
      have hown : Aside0 (∀ W, Below w.heap.size w W → Calls Try.prog 91 #[.slice A0 A.length c0] W fun e w' => ∃ v, e = .returned v ∧ Kd.S (Kd.slice 5 (Kd.int .u8)) 22 w' W.heap.size (fun _ => True) v (oM A) ∧ Below W.heap.size W w') := ⟨fun W hW => by
        obtain ⟨k, hk⟩ := (evOwn A (by omega) (fun i hi => by rw [hreg.2 i hi]; omega)).rounds
        have := matrix_own.calls k _ c0 (oM A) _ W (Kd.C_below hr0 hW) (by rw [oM_length]; exact hc0) hk
        rwa [oM_length] at this⟩
      have HR := Aside0.mk hinv
      have HG := Aside0.mk hreg
      have HP := Aside0.mk (show 0 < A.length ∧ A.length ≤ 255 ∧ 0 < (row A 0).length ∧ (row A 0).length ≤ 255 from ⟨p1, p2, p3, p4⟩)
      clear hinv hm hreg p1 p2 p3 p4 hr0
      go_enter Try.func70, Try.ntmps70
      go_wp2_with fail
      refine hchk.out.mono ?_
      rintro e w' ⟨rfl, ⟨nq, rfl⟩⟩
      clear hchk
      go_wp2_with fail
      refine (hown.out _ (pw_below_drewN (Below.refl _ _) nq)).mono ?_
      rintro e w1 ⟨vz, rfl, hSz, hb1⟩
      have hbz : Below w.heap.size w w1 := below_step (pw_below_drewN (Below.refl _ _) nq) hb1
      have HZ : Aside0 (Kd.S (Kd.slice 5 (Kd.int .u8)) 22 w1 w.heap.size (fun _ => True) vz (oM A)) := ⟨hSz⟩
      have HB1 := Aside0.mk hbz
      clear hown hSz hbz hb1
      go_wp2_with fail
      refine (hzs.out _).mono ?_
      rintro e w2 ⟨va, rfl, hSa, hb2⟩
      obtain ⟨ga, ca, gz, cz, rfl, rfl, hSt⟩ := St.make HZ.out hb2 hSa (below_size HB1.out) (zeroM_reg A.length 1) HG.out HP.out.1 (by decide) HP.out.2.2.1
      have hb3 := below_step HB1.out hb2
      have hred := reduce_calls w2 w.heap.size gz cz ga ca A.length (row A 0).length 1 A (zeroM A.length 1) hSt.symm HP.out.1 HP.out.2.2.1 (by decide) (by decide) HP.out.2.1 HP.out.2.2.2 (below_size hb3)
      have HRED := Aside0.mk hred
      have HB3 := Aside0.mk hb3
      clear hred hb3 hSt hSa hb2 HZ HB1 hzs
      generalize redF (row A 0).length 0 0 A (zeroM A.length 1) = R at *
      obtain ⟨cnt, Ra, Rz⟩ := R
      simp only at HR HRED
      go_wp2_with fail
      refine HRED.out.mono ?_
      rintro e w4 ⟨rfl, hst4, hb4⟩
      have HB4 := Aside0.mk (show Below w.heap.size w w4 from HB3.out.trans hb4)
      clear hst4 hb4 HRED
      go_wp2
      go_ret2
      obtain ⟨rfl, rfl⟩ := Prod.mk.inj HR.out
      exact ⟨rfl, HB4.out⟩
    · rw [if_neg hm] at hchk
      rw [if_neg hm] at hinv
      obtain ⟨rfl, rfl⟩ := Prod.mk.inj hinv
      clear hinv hm hr0
      go_enter Try.func70, Try.ntmps70
      go_wp2_with fail
      refine hchk.out.mono ?_
      rintro e w' ⟨rfl, ⟨nq, rfl⟩⟩
      clear hchk
      go_wp2
      go_ret2
      exact ⟨rfl, pw_below_drewN (Below.refl _ _) nq⟩
  · rw [if_neg hby] at h
    cases h
end Go.Proofs.Ytbogmlckbkogiaa.H

/- The question of layer 2's statements that is always asked: answered with yes. Conditions: none. -/
namespace Go.Proofs.Ytbogmlckbkogiaa.H
open Go.RowKit Go.Proofs.YtbogmlckbkogiaaW.PrintWords Go.Proofs.YtbogmlckbkogiaaW.PrintLast Go.Proofs.Ytbogmlckbkogiaa.Leaf Go.Proofs.Ytbogmlckbkogiaa.Gf Go.Proofs.Ytbogmlckbkogiaa.Red Go.Proofs.Ytbogmlckbkogiaa.P
set_option linter.unusedVariables false
set_option linter.unusedSimpArgs false
theorem C_rows_of (w : World) (ad : Addr) (xs : List (List Int)) (As : Nat → Option Addr) (cs : Nat → Nat) (hl : xs.length ≤ 9223372036854775807)
    (h : ∀ j, j < xs.length → w.cell? (ad.add j) = some (.slice (As j) (xs.getD j []).length (cs j)) ∧ (xs.getD j []).length ≤ cs j ∧ Kd.C (Kd.int .u8) w (As j) (xs.getD j []).length (xs.getD j [])) : Kd.C KR w (some ad) xs.length xs := by
  refine ⟨rfl, hl, fun _ => ⟨ad, rfl, fun j p hj => ?_⟩⟩
  obtain ⟨hlt, hp⟩ := List.getElem?_eq_some_iff.1 hj
  have hd : xs.getD j [] = p := by rw [List.getD_eq_getElem?_getD, hj]; rfl
  obtain ⟨h1, h2, h3⟩ := h j hlt
  rw [hd] at h1 h2 h3
  refine ⟨[.slice (As j) p.length (cs j)], rfl, ⟨As j, cs j, rfl, h2, h3⟩, fun i u hu => ?_⟩
  cases i with
  | zero =>
    cases hu
    show w.cell? (ad.add (j * 1 + 0)) = _
    rw [Nat.mul_one, Nat.add_zero]
    exact h1
  | succ i => simp at hu
theorem inv2 : invR [[0x02#8]] = (oM [[0x8E#8]], 0) := by decide +kernel
def mooringlaw02_awake.f : Option Bool := some true
set_option maxHeartbeats 1000000 in
set_option maxRecDepth 100000 in
theorem mooringlaw02_awake.calls (r : Bool) (w : World) (h : mooringlaw02_awake.f = some r) : Calls Try.prog 51 #[] w fun e w' => e = .returned (.bool r) ∧ Below w.heap.size w w' := by
  obtain rfl := Option.some.inj h
  clear h
  have hin : Aside0 (∀ W : World, Calls Try.prog 52 #[.slice (some ⟨W.heap.size + 1, 0, none⟩) 1 1] ((W.alloc (.cells #[.int .u8 2] 5 (0, 0))).alloc (.cells #[.slice (some ⟨W.heap.size, 0, none⟩) 1 1] 22 (0, 0))) fun e w' => ∃ (g c : Nat) (A : Option Addr) (c' : Nat) (ad : Addr), e = .returned (.tuple #[.slice (some ⟨g, 0, none⟩) 1 c, .int .i64 0]) ∧ w'.cell? ⟨g, 0, none⟩ = some (.slice (some ad) 1 c') ∧ w'.cell? ad = some (.int .u8 142) ∧ Aside0 (Below W.heap.size W w')) := ⟨fun W => by
    have hb1 : Below W.heap.size W (W.alloc (.cells #[.int .u8 2] 5 (0, 0))) := (Below.refl _ _).alloc (Nat.le_refl _) _
    have hb2 := below_alloc hb1 (.cells #[.slice (some ⟨W.heap.size, 0, none⟩) 1 1] 22 (0, 0))
    have hC1 : Kd.C (Kd.int .u8) (W.alloc (.cells #[.int .u8 2] 5 (0, 0))) (some ⟨W.heap.size, 0, none⟩) 1 [2] := reads_block W _ _ [2] rfl (by decide)
    have hC := C_rows_of ((W.alloc (.cells #[.int .u8 2] 5 (0, 0))).alloc (.cells #[.slice (some ⟨W.heap.size, 0, none⟩) 1 1] 22 (0, 0))) ⟨W.heap.size + 1, 0, none⟩ [[2]] (fun _ => some ⟨W.heap.size, 0, none⟩) (fun _ => 1) (by decide) (fun j hj => by
      obtain rfl : j = 0 := by simpa using hj
      refine ⟨?_, by decide, Kd.C_below hC1 ((Below.refl _ _).alloc (Nat.le_refl _) _)⟩
      rw [Addr.add_zero']
      simp)
    have hcall := matrix_Inverse.calls (some ⟨W.heap.size + 1, 0, none⟩) 1 [[2]] _ _ _ hC (by decide) (show matrix_Inverse.f (oM [[0x02#8]]) = some (oM [[0x8E#8]], 0) by rw [matrix_Inverse.f_oM, inv2])
    refine hcall.mono ?_
    rintro e w' ⟨v, rfl, hS, hb⟩
    obtain ⟨g, c, rfl, _⟩ := Kd.S_form hS (by decide)
    obtain ⟨_, _, hC'⟩ := Kd.S_reads' hS
    obtain ⟨ad, A', c', e, hx, _, hC2⟩ := rows_at hC' 0 (by decide)
    obtain ⟨ad2, e2, hx2⟩ := Kd.at_int hC2 0 (by decide) (by decide)
    cases e
    rw [Addr.add_zero'] at hx
    rw [show ((0 : Int)).toNat = 0 from rfl, Addr.add_zero'] at hx2
    subst e2
    exact ⟨g, c, none, c', ad2, rfl, hx, hx2, ⟨below_step hb2 (hb.mono (by simp))⟩⟩⟩
  have hck : Aside0 (∀ W : World, Calls Try.prog 65 #[.slice none 0 0] W fun e w' => e = .returned (.int .i64 1) ∧ Drawn0 W w') := ⟨fun W => by
    obtain ⟨k, hk⟩ := (evCheck [] (by decide)).rounds
    exact matrix_Check.calls k none 0 [] _ W (Kd.C_nil _ _) (by decide) hk⟩
  go_enter Try.func51, Try.ntmps51
  go_wp2_with fail
  refine (hin.out _).mono ?_
  rintro e w1 ⟨g, c, A, c', ad, rfl, hx1, hx2, hB⟩
  clear hin
  go_wp2_with fail
  refine (hck.out _).mono ?_
  rintro e w2 ⟨rfl, ⟨nq, rfl⟩⟩
  go_wp2
  go_ret
  exact ⟨rfl, pw_below_drewN hB.out nq⟩
end Go.Proofs.Ytbogmlckbkogiaa.H

/- The reference's Rank, part one: one matrix in memory, and what is reckoned. Conditions: rows of one length. -/
namespace Go.Proofs.Ytbogmlckbkogiaa.H
open Go.RowKit Go.Proofs.YtbogmlckbkogiaaW.PrintWords Go.Proofs.Ytbogmlckbkogiaa.Leaf Go.Proofs.Ytbogmlckbkogiaa.Gf Go.Proofs.Ytbogmlckbkogiaa.Red
set_option linter.unusedVariables false
/-- A matrix of the call's own. -/
def S1 (w : World) (base g c n m : Nat) (A : Mat) : Prop := ∃ id cap, Mt w base g c id cap (A.map ofL) ∧ Reg A n m
section
variable {w w0 w1 : World} {base g c n m : Nat} {A : Mat}
theorem S1.below (h : S1 w base g c n m A) (hb : Below w.heap.size w w1) : S1 w1 base g c n m A := by
  obtain ⟨a, b, h1, h2⟩ := h
  exact ⟨a, b, h1.below hb, h2⟩
theorem S1.drew (h : S1 w base g c n m A) : S1 w.drew base g c n m A := h.below (below_drew (Below.refl _ _))
theorem S1.reg (h : S1 w base g c n m A) : Reg A n m ∧ base ≤ g ∧ g < w.heap.size ∧ ∃ cells, w.heap[g]? = some (.cells cells 22 (0, 0)) := by
  obtain ⟨a, b, h1, h2⟩ := h
  exact ⟨h2, h1.gbase, h1.glt, h1.typed⟩
theorem S1.cap (h : S1 w base g c n m A) : n ≤ c := by
  obtain ⟨a, b, h1, h2⟩ := h
  have := own_le h1.outer
  rw [List.length_map] at this
  have := h2.1
  omega
theorem S1.read (h : S1 w base g c n m A) (i : Nat) (hi : i < n) :
    ∃ b c, w.cell? ⟨g, i, none⟩ = some (.slice (some ⟨b, 0, none⟩) m c) ∧ w.frozen? ⟨g, i, none⟩ = false ∧ Rw w base b c (ofL (row A i)) := by
  obtain ⟨a, b, h1, h5⟩ := h
  have hi' : i < (A.map ofL).length := by rw [List.length_map, h5.1]; exact hi
  have hat := h1.at_ i hi'
  have hr := h1.rows i hi'
  rw [map_getD] at hr
  refine ⟨a i, b i, ?_, hat.2, hr⟩
  rw [hat.1]
  unfold sl
  rw [map_getD, ofL_length, h5.2 i hi]
theorem S1.look (h : S1 w base g c n m A) {i b cp : Nat} (hi : i < n) (hc : w.cell? ⟨g, i, none⟩ = some (.slice (some ⟨b, 0, none⟩) m cp)) : Rw w base b cp (ofL (row A i)) := by
  obtain ⟨b', c', h1, _, h2⟩ := h.read i hi
  rw [hc] at h1
  have := Option.some.inj h1
  injection this with t1 t2 t3
  injection t1 with t1
  injection t1 with t1
  subst t1 t3
  exact h2
theorem S1.exch (h : S1 w base g c n m A) (hB : Below base w0 w) {i j : Nat} (hi : i < n) (hj : j < n) {u v : Value} (hu : w.cell? ⟨g, i, none⟩ = some u) (hv : w.cell? ⟨g, j, none⟩ = some v) :
    S1 ((w.setCell ⟨g, i, none⟩ v).setCell ⟨g, j, none⟩ u).drew base g c n m (swapM A i j) ∧ Below base w0 ((w.setCell ⟨g, i, none⟩ v).setCell ⟨g, j, none⟩ u).drew := by
  obtain ⟨_, hg, _, _⟩ := h.reg
  obtain ⟨a, b, h1, h5⟩ := h
  have hi' : i < (A.map ofL).length := by rw [List.length_map, h5.1]; exact hi
  have hj' : j < (A.map ofL).length := by rw [List.length_map, h5.1]; exact hj
  have e1 := (h1.at_ i hi').1
  have e2 := (h1.at_ j hj').1
  rw [hu] at e1
  rw [hv] at e2
  obtain rfl := Option.some.inj e1
  obtain rfl := Option.some.inj e2
  have hs := h1.swap i j hi' hj'
  rw [map_swap] at hs
  exact ⟨S1.drew ⟨_, _, hs, h5.swap hi hj⟩, below_drew ((hB.setCell hg _).setCell hg _)⟩
theorem S1.put (h : S1 w base g c n m A) (hB : Below base w0 w) {i : Nat} (hi : i < n) {b cp : Nat} (hb : w.cell? ⟨g, i, none⟩ = some (.slice (some ⟨b, 0, none⟩) m cp)) (j : Nat) (x : B) :
    S1 (w.setCell ⟨b, j, none⟩ (.int .u8 (ofB x))) base g c n m (A.set i ((row A i).set j x)) ∧ Below base w0 (w.setCell ⟨b, j, none⟩ (.int .u8 (ofB x))) ∧ b ≠ g := by
  have hbase := (h.look hi hb).base_
  obtain ⟨a, b', h1, h5⟩ := h
  have hi' : i < (A.map ofL).length := by rw [List.length_map, h5.1]; exact hi
  have e1 := (h1.at_ i hi').1
  rw [hb] at e1
  have e2 : b = a i := by
    have := Option.some.inj e1
    unfold sl at this
    injection this with t1 t2 t3
    injection t1 with t1
    injection t1 with t1
  subst e2
  have hp := h1.put i hi' j (ofB x)
  rw [map_getD, ofL_set, map_set] at hp
  exact ⟨⟨a, b', hp, h5.set hi (by rw [List.length_set]; exact h5.2 i hi)⟩, hB.setCell hbase _, h1.ne (h1.rows i hi')⟩
/-- Two different rows lie in different blocks. -/
theorem S1.apart (h : S1 w base g c n m A) {i j bi ci bj cj : Nat} (hi : i < n) (hj : j < n) (hij : i ≠ j) (h1 : w.cell? ⟨g, i, none⟩ = some (.slice (some ⟨bi, 0, none⟩) m ci)) (h2 : w.cell? ⟨g, j, none⟩ = some (.slice (some ⟨bj, 0, none⟩) m cj)) : bi ≠ bj := by
  obtain ⟨a, b, hM, h5⟩ := h
  have hi' : i < (A.map ofL).length := by rw [List.length_map, h5.1]; exact hi
  have hj' : j < (A.map ofL).length := by rw [List.length_map, h5.1]; exact hj
  have e1 := (hM.at_ i hi').1
  have e2 := (hM.at_ j hj').1
  rw [h1] at e1
  rw [h2] at e2
  have t1 : bi = a i := by
    have := Option.some.inj e1
    unfold sl at this
    injection this with t1 t2 t3
    injection t1 with t1
    injection t1 with t1
  have t2 : bj = a j := by
    have := Option.some.inj e2
    unfold sl at this
    injection this with t1 t2 t3
    injection t1 with t1
    injection t1 with t1
  rw [t1, t2]
  exact fun e => hij (hM.inj i j hi' hj' e)
end
theorem S1.of_S {w : World} {base : Nat} {v : Value} {A : Mat} {n m : Nat} (h : Kd.S (Kd.slice 5 (Kd.int .u8)) 22 w base (fun _ => True) v (A.map ofL)) (hA : Reg A n m) (hn : 0 < n) (hm : 0 < m) : ∃ g c, v = .slice (some ⟨g, 0, none⟩) n c ∧ S1 w base g c n m A := by
  obtain ⟨g, c, id, cap, e, h1, _⟩ := Mt.of_S h (by rw [List.length_map, hA.1]; exact hn) (fun i hi => by rw [List.length_map, hA.1] at hi; rw [map_getD, ofL_length, hA.2 i hi]; exact hm)
  rw [List.length_map, hA.1] at e
  exact ⟨g, c, e, id, cap, h1, hA⟩
end Go.Proofs.Ytbogmlckbkogiaa.H
namespace Go.Proofs.Ytbogmlckbkogiaa.Red
open Go.RowKit Go.Proofs.YtbogmlckbkogiaaW.PrintWords Go.Proofs.Ytbogmlckbkogiaa.Leaf Go.Proofs.Ytbogmlckbkogiaa.Gf Go.Proofs.Ytbogmlckbkogiaa.H Go.Proofs.Ytbogmlckbkogiaa.Mx
set_option linter.unusedVariables false
/-- A row's places from `j` on, `q` times another row's added. -/
def amG (q : B) (M : List B) : Nat → Nat → List B → List B
  | 0, _, r => r
  | n + 1, j, r => amG q M n (j + 1) (r.set j (at0 r j ^^^ mul q (at0 M j)))
theorem amG_length (q : B) (M : List B) (n : Nat) : ∀ (j : Nat) (r : List B), (amG q M n j r).length = r.length := by
  induction n with
  | zero => intro j r; rfl
  | succ n ih => intro j r; simp only [amG]; rw [ih, List.length_set]
theorem amG_at (q : B) (M : List B) (n : Nat) : ∀ (j0 : Nat) (r : List B) (j : Nat), j0 + n = r.length → at0 (amG q M n j0 r) j = if j0 ≤ j ∧ j < r.length then at0 r j ^^^ mul q (at0 M j) else at0 r j := by
  induction n with
  | zero =>
    intro j0 r j h
    simp only [amG]
    rw [if_neg (by omega)]
  | succ n ih =>
    intro j0 r j h
    simp only [amG]
    rw [ih (j0 + 1) _ j (by rw [List.length_set]; omega), List.length_set, at0_set _ _ _ _ (by omega)]
    by_cases e : j0 = j
    · subst e
      rw [if_neg (by omega), if_pos rfl, if_pos (by omega)]
    · rw [if_neg e]
      by_cases h2 : j0 + 1 ≤ j ∧ j < r.length
      · rw [if_pos h2, if_pos (by omega)]
      · rw [if_neg h2, if_neg (by omega)]
/-- The rows from `i` on, the one at `d` taken off so often that column `c` is nought there. -/
def rkE (c d : Nat) : Nat → Nat → Mat → Mat
  | 0, _, A => A
  | n + 1, i, A => rkE c d n (i + 1) (A.set i (amG (mul (el A i c) (inv (el A d c))) (row A d) (row A i).length 0 (row A i)))
def rkF : Nat → Nat → Nat → Mat → Nat
  | 0, _, d, _ => d
  | n + 1, c, d, A => if pivot A d c < 0 then rkF n (c + 1) d A else rkF n (c + 1) (d + 1) (rkE c d (A.length - (d + 1)) (d + 1) (swapM A ((pivot A d c).toNat + d) d))
theorem rkE_row (c d : Nat) (n : Nat) : ∀ (i : Nat) (A : Mat), i + n = A.length → d < i → d < A.length →
    (rkE c d n i A).length = A.length ∧ ∀ k, row (rkE c d n i A) k = if i ≤ k ∧ k < A.length then amG (mul (el A k c) (inv (el A d c))) (row A d) (row A k).length 0 (row A k) else row A k := by
  induction n with
  | zero =>
    intro i A h hd hd2
    simp only [rkE]
    exact ⟨trivial, fun k => by rw [if_neg (by omega)]⟩
  | succ n ih =>
    intro i A h hd hd2
    simp only [rkE]
    obtain ⟨h1, h2⟩ := ih (i + 1) (A.set i (amG (mul (el A i c) (inv (el A d c))) (row A d) (row A i).length 0 (row A i))) (by rw [List.length_set]; omega) (by omega) (by rw [List.length_set]; exact hd2)
    rw [List.length_set] at h1 h2
    have qk := fun k => row_set A i k (amG (mul (el A i c) (inv (el A d c))) (row A d) (row A i).length 0 (row A i)) (by omega)
    have qd := (qk d).trans (if_neg (by omega))
    have qe : ∀ k, k ≠ i → el (A.set i (amG (mul (el A i c) (inv (el A d c))) (row A d) (row A i).length 0 (row A i))) k c = el A k c := by
      intro k hk
      unfold el
      unfold el at qk
      rw [qk, if_neg hk]
    refine ⟨h1, fun k => ?_⟩
    by_cases e : k = i
    · rw [h2 k, if_neg (by omega), qk k, if_pos e, e, if_pos ⟨Nat.le_refl _, by omega⟩]
    · rw [h2 k, qe k e, qe d (by omega), qk k, if_neg e, qd]
      by_cases h5 : i + 1 ≤ k ∧ k < A.length
      · rw [if_pos h5, if_pos ⟨by omega, h5.2⟩]
      · rw [if_neg h5, if_neg (fun h6 => h5 ⟨by omega, h6.2⟩)]
theorem pivot_congr {n m d c : Nat} {A C : Mat} (hA : Reg A n m) (hC : Reg C n m) (h : ∀ i, d ≤ i → i < n → row A i = row C i) : pivot A d c = pivot C d c := by
  unfold pivot
  rw [hA.1, hC.1]
  unfold firstP
  have e : (List.range (n - d)).find? (fun j => rd (ofL (row A (d + j))) (c : Int) != 0) = (List.range (n - d)).find? (fun j => rd (ofL (row C (d + j))) (c : Int) != 0) := by
    have key : ∀ l : List Nat, (∀ j ∈ l, j < n - d) → l.find? (fun j => rd (ofL (row A (d + j))) (c : Int) != 0) = l.find? (fun j => rd (ofL (row C (d + j))) (c : Int) != 0) := by
      intro l
      induction l with
      | nil => intro _; rfl
      | cons a l ih =>
        intro hl
        simp only [List.find?_cons]
        rw [h (d + a) (by omega) (by have := hl a (by simp); omega), ih (fun j hj => hl j (by simp [hj]))]
    exact key _ (fun j hj => List.mem_range.1 hj)
  rw [e]
theorem rkE_reg {n m c d : Nat} {A : Mat} (hA : Reg A n m) (hd : d < n) : Reg (rkE c d (A.length - (d + 1)) (d + 1) A) n m := by
  have hl := hA.1
  obtain ⟨h1, h2⟩ := rkE_row c d (A.length - (d + 1)) (d + 1) A (by omega) (by omega) (by omega)
  refine ⟨by rw [h1, hl], fun i hi => ?_⟩
  rw [h2]
  split
  · rw [amG_length]; exact hA.2 i hi
  · exact hA.2 i hi
theorem rkF_full {n m : Nat} (fuel : Nat) : ∀ (c : Nat) (A : Mat), Reg A n m → rkF fuel c n A = n := by
  induction fuel with
  | zero => intro c A hA; rfl
  | succ fuel ih =>
    intro c A hA
    simp only [rkF]
    have : pivot A n c < 0 := by
      unfold pivot
      rw [hA.1, Nat.sub_self]
      unfold firstP
      simp
    rw [if_pos this]
    exact ih _ A hA
/-- The reference's rank is what reduce counts. -/
theorem rkF_eq {n m p : Nat} (fuel : Nat) : ∀ (c d : Nat) (A C Z : Mat), c + fuel = m → d < n → Reg A n m → Reg C n m → Reg Z n p → (∀ i, d ≤ i → i < n → row A i = row C i) → rkF fuel c d C = (redF fuel c d A Z).1 := by
  induction fuel with
  | zero => intro c d A C Z _ _ _ _ _ _; rfl
  | succ fuel ih =>
    intro c d A C Z hc hd hA hC hZ h
    simp only [rkF, redF]
    rw [← pivot_congr hA hC h]
    by_cases hp : pivot A d c < 0
    · rw [if_pos hp, if_pos hp]
      exact ih (c + 1) d A C Z (by omega) hd hA hC hZ h
    · rw [if_neg hp, if_neg hp]
      obtain ⟨t, e, ht, hx, _⟩ := pivot_hit hA hp
      rw [e, show ((t : Int)).toNat = t from rfl]
      have ht' : t + d < n := by omega
      have hx' : el A (t + d) c ≠ 0#8 := by rw [Nat.add_comm]; exact hx
      obtain ⟨g1, g2, g3, _⟩ := stepF_spec hA hZ hd ht' (show c < m by omega)
      have hsw := hC.swap ht' hd
      have hswl := hsw.1
      have hE := rkE_reg (c := c) hsw hd
      have hCl := hC.1
      rw [show C.length - (d + 1) = (swapM C (t + d) d).length - (d + 1) by rw [hswl, hCl]]
      by_cases he : d + 1 = A.length
      · rw [if_pos he]
        have hAl := hA.1
        rw [show d + 1 = n by omega] at hE ⊢
        exact rkF_full fuel (c + 1) _ hE
      · rw [if_neg he]
        have hAl := hA.1
        refine ih (c + 1) (d + 1) _ _ _ (by omega) (by omega) g1 hE g2 (fun i hi1 hi2 => ?_)
        obtain ⟨q1, q2⟩ := rkE_row c d ((swapM C (t + d) d).length - (d + 1)) (d + 1) (swapM C (t + d) d) (by omega) (by omega) (by omega)
        have rC := fun k => row_swap C (t + d) d k (by omega) (by omega)
        rw [q2, if_pos ⟨hi1, by omega⟩]
        refine ext0 (by rw [g1.2 i hi2, amG_length, hsw.2 i hi2]) (fun j hj => ?_)
        rw [g1.2 i hi2] at hj
        show el _ i j = _
        have hsi : (if i = t + d then d else i) < n := by split <;> omega
        have hrow : row C (if i = t + d then d else i) = row A (if i = t + d then d else i) := (h _ (by split <;> omega) hsi).symm
        have hrt : row C (t + d) = row A (t + d) := (h _ (by omega) ht').symm
        have hd' : row (swapM C (t + d) d) d = row A (t + d) := by rw [rC, if_pos rfl, hrt]
        have hi' : row (swapM C (t + d) d) i = row A (if i = t + d then d else i) := by rw [rC, if_neg (by omega), hrow]
        rw [g3 i j hi2 hj, if_neg (by omega), amG_at _ _ _ _ _ _ (by rw [Nat.zero_add]), if_pos (show 0 ≤ j ∧ j < (row (swapM C (t + d) d) i).length from ⟨Nat.zero_le _, by rw [hsw.2 i hi2]; exact hj⟩)]
        unfold el
        rw [hd', hi']
        congr 1
        have key : ∀ p v x : B, mul (mul p v) x = mul (mul x v) p := fun p v x => by rw [mul_assoc, mul_comm v x, mul_comm p]
        exact key _ _ _
theorem rank_same {n m p p' : Nat} {A Z Z' : Mat} (hn : 0 < n) (hA : Reg A n m) (hZ : Reg Z n p) (hZ' : Reg Z' n p') : (redF m 0 0 A Z).1 = (redF m 0 0 A Z').1 := by
  rw [← rkF_eq m 0 0 A A Z (by omega) hn hA hA hZ (fun _ _ _ => rfl), rkF_eq m 0 0 A A Z' (by omega) hn hA hA hZ' (fun _ _ _ => rfl)]
end Go.Proofs.Ytbogmlckbkogiaa.Red

/- The reference's Rank, part two: the walk. Conditions: a matrix of bytes that may be. -/
namespace Go.Proofs.Ytbogmlckbkogiaa.H
open Go.RowKit Go.Proofs.YtbogmlckbkogiaaW.PrintWords Go.Proofs.YtbogmlckbkogiaaW.PrintLast Go.Proofs.Ytbogmlckbkogiaa.Leaf Go.Proofs.Ytbogmlckbkogiaa.Gf Go.Proofs.Ytbogmlckbkogiaa.Red Go.Proofs.Ytbogmlckbkogiaa.P
set_option linter.unusedVariables false
set_option linter.unusedSimpArgs false
def mooringref02_Rank.f (l0 : List (List Int)) : Option Int := if l0.all byteRow = true ∧ mayB (unM l0) = true then some (((redF (row (unM l0) 0).length 0 0 (unM l0) (zeroM (unM l0).length 1)).1 : Nat) : Int) else none
theorem take_oM (A : Mat) (i : Nat) (hi : i < A.length) : oM (A.take i) ++ [ofL (row A i)] = oM (A.take (i + 1)) := by
  rw [oM_one, oM_append, List.take_succ_eq_append_getElem hi]
  unfold row
  rw [List.getD_eq_getElem?_getD, List.getElem?_eq_getElem hi]
  rfl
theorem rkF_start {n m : Nat} {A : Mat} (hn : 0 < n) (hA : Reg A n m) : rkF m 0 0 A = (redF m 0 0 A (zeroM n 1)).1 := rkF_eq m 0 0 A A _ (by omega) hn hA hA (zeroM_reg n 1) (fun _ _ _ => rfl)
/-- Where the search stands. -/
def Found (A : Mat) (c d i : Nat) (v : Value) : Prop := (v = .int .i64 (-1) ∧ ∀ j, d ≤ j → j < i → el A j c = 0#8) ∨ ∃ t : Nat, v = .int .i64 (t : Int) ∧ d ≤ t ∧ t < i ∧ el A t c ≠ 0#8 ∧ ∀ j, d ≤ j → j < t → el A j c = 0#8
theorem pivot_none {n m : Nat} {A : Mat} (hA : Reg A n m) {d c : Nat} (h : ∀ i, d ≤ i → i < n → el A i c = 0#8) : pivot A d c < 0 := by
  apply Classical.byContradiction
  intro hn
  obtain ⟨t, _, h2, h3, _⟩ := pivot_hit hA hn
  exact h3 (h _ (by omega) h2)
theorem pivot_some {n m : Nat} {A : Mat} (hA : Reg A n m) {d c t : Nat} (hd : d ≤ t) (ht : t < n) (hx : el A t c ≠ 0#8) (h : ∀ i, d ≤ i → i < t → el A i c = 0#8) : pivot A d c = ((t - d : Nat) : Int) := by
  have hn : ¬ pivot A d c < 0 := fun hn => hx (pivot_miss hA hn t hd ht)
  obtain ⟨s, h1, h2, h3, h4⟩ := pivot_hit hA hn
  rw [h1]
  by_cases e : d + s < t
  · exact absurd (h _ (by omega) e) h3
  · by_cases e2 : t < d + s
    · exact absurd (h4 t hd e2) hx
    · congr 1
      omega
def rank_T : Bool × List (List Nat × List Nat) := (true, [([], []), ([], []), ([0, 1], [0, 1]), ([2], [2]), ([], []), ([], []), ([], []), ([5, 6], [5, 6]), ([7], [7]), ([], []), ([8, 9], [8, 9]), ([10], [10]), ([], []), ([], []), ([], []), ([13, 14], [13, 14]), ([15], [15]), ([], []), ([16, 17], [16, 17]), ([18], [18]), ([12, 19], [12, 19]), ([11, 20], [11, 20]), ([3, 4, 0, 1, 2, 3, 4, 5, 6, 7, 8, 9, 10, 11, 12, 13, 14, 15, 16, 17, 18, 19, 20, 21], [3, 4]), ([22, 21, 20, 0, 1, 2, 3, 4, 5, 6, 7, 8, 9, 10, 11, 12, 13, 14, 15, 16, 17, 18, 19, 20, 21], [21, 22])])
def rank_B : List Nat := [0, 0, 3, 7, 0, 0, 0, 96, 224, 0, 992, 2016, 0, 0, 0, 24576, 57344, 0, 253952, 516096, 1044480, 2097120, 4194303, 8388607]
theorem rank_tab25 : rtab .any (opsOf Try.f54 25) = rank_T := by kernel_rfl
theorem rank_bits25 : waitsOk rank_T.2 rank_B = true := by kernel_rfl
set_option maxHeartbeats 8000000 in
set_option maxRecDepth 100000 in
theorem mooringref02_Rank.calls (A0 : Option Addr) (c0 : Nat) (l0 : List (List Int)) (r : Int) (w : World) (hr0 : Kd.C (Kd.slice 5 (Kd.int .u8)) w A0 l0.length l0) (hc0 : l0.length ≤ c0) (h : mooringref02_Rank.f l0 = some r) :
    Calls Try.prog 54 #[.slice A0 l0.length c0] w fun e w' => e = .returned (.int .i64 r) ∧ Below w.heap.size w w' := by
  unfold mooringref02_Rank.f at h
  by_cases hby : l0.all byteRow = true ∧ mayB (unM l0) = true
  · rw [if_pos hby] at h
    obtain ⟨A, hA⟩ : ∃ A, A = unM l0 := ⟨_, rfl⟩
    have hl0 : l0 = oM A := by rw [hA]; exact (oM_unM l0 hby.1).symm
    obtain ⟨hreg, p1, p2, p3, p4⟩ := mayB_reg hby.2
    rw [← hA] at h hreg p1 p2 p3 p4
    clear hA hby
    subst hl0
    obtain rfl := Option.some.inj h
    rw [← rkF_start p1 hreg]
    clear h
    have hlen : (oM A).length = A.length := oM_length A
    generalize hn : A.length = n at *
    generalize hmm : (row A 0).length = m at *
    obtain ⟨As, cs, hcell, hrows⟩ := rows_vals hr0
    obtain ⟨ad, rfl, hce⟩ := hcell (by omega)
    have hce' : Aside0 (∀ i, i < n → w.cell? (ad.add i) = some (.slice (As i) m (cs i)) ∧ m ≤ cs i ∧ Kd.C (Kd.int .u8) w (As i) (ofL (row A i)).length (ofL (row A i))) := ⟨fun i hi => by
      have h1 := hce i (by omega)
      have h2 := hrows i (by omega)
      have e : (oM A).getD i [] = ofL (row A i) := map_getD A i
      rw [e, ofL_length, hreg.2 i hi] at h1 h2
      rw [ofL_length, hreg.2 i hi]
      exact ⟨h1, h2.1, h2.2⟩⟩
    rw [hlen]
    rw [hlen] at hc0
    have HREG := Aside0.mk hreg
    have HN := Aside0.mk hn
    clear hce hrows hcell hr0 hreg hn hmm hlen
    have HB := Aside0.mk (Below.refl w.heap.size w)
    go_enter Try.func54, Try.ntmps54
    go_wp2_with (first | ((with_reducible refine gate_dst (N := 13) rfl ?_); refine Kd.S_lit (Kd.slice 5 (Kd.int .u8)) _ 22 ?hg (N := 13) ?hd (xs := ([] : List (List Int))) (inner := []) (ok := fun _ => True) (okp := fun _ => True) ?hr ?hp (fun _ hk => hk) trivial (Below.refl _ _) (Nat.le_refl _) (by simp) ?_; (case hd => rfl); (case hg => rfl); (case hr => first | (go_simp; done) | (go_simp; rfl)); (case hp => exact (Reps.none _ _)); intro v102 w2 ho3 hb hg_ hnew_; clear hg_ hnew_; have HS0 := Aside0.mk ho3; have HB2 := Aside0.mk (below_step HB.out hb); clear HB; have HB := HB2; clear HB2 hb ho3))
    go_loopg [3, 4] n (fun gg v3 v4 w' => ∃ i : Nat, i + gg = n ∧ v4 = .int .i64 (i : Int) ∧ Aside0 (Kd.S (Kd.slice 5 (Kd.int .u8)) 22 w' w.heap.size (fun _ => True) v3 (oM (A.take i))) ∧ Aside0 (Below w.heap.size w w'))
    case atStart => exact ⟨0, Nat.zero_add _, rfl, HS0, HB⟩
    case round =>
      clear HS0 HB
      obtain ⟨i, hig, rfl, HS, HB⟩ := hrel
      by_cases hi : i < n
      · have hi' : (i : Int) < (n : Int) := by omega
        have hi0 : (0 : Int) ≤ (i : Int) := by omega
        obtain ⟨hx, hmc, hC⟩ := hce'.out i hi
        have hx2 := pw_cell_below HB.out hx
        have HCi := Aside0.mk hC
        have hll : (ofL (row A i)).length = m := by rw [ofL_length]; exact HREG.out.2 i hi
        have HLL := Aside0.mk hll
        clear hx hC hll
        have HTK := Aside0.mk (take_oM A i (by rw [HN.out]; exact hi))
        have HTL : Aside0 ((oM (A.take i)).length < 5864062014805) := ⟨by rw [oM_length, List.length_take, HN.out]; omega⟩
        replace hx2 : wr.cell? (ad.add i) = some (.slice (As i) (ofL (row A i)).length (cs i)) := by rw [HLL.out]; exact hx2
        go_wp2_with (first
          | ((with_reducible refine gate_dst (N := 21) rfl ?_); refine Kd.R_lit (Kd.int .u8) _ 5 ?hg (N := 21) ?hd (xs := ([] : List Int)) (inner := []) (ok := fun _ => True) (okp := fun _ => True) ?hr ?hp (fun _ hk => hk) trivial (Below.refl _ _) (Nat.le_refl _) (by simp) ?_; (case hd => rfl); (case hg => rfl); (case hr => first | (go_simp; done) | (go_simp; rfl)); (case hp => exact (Reps.none _ _)); intro v21 w3 ho3 hb hg_ hnew_; clear hg_ hnew_; have n0_ := Aside0.mk (Kd.S_elder' HS.out (Kd.R_base ho3) hb); have n1_ := Aside0.mk (Kd.R_lower ho3 (below_size HB.out)); have n2_ := Aside0.mk (below_step HB.out hb); have n3_ := pw_cell_below hb hx2; clear HS HB hx2; have HS := n0_; have HR := n1_; have HB := n2_; have hx2 := n3_; clear n0_ n1_ n2_ n3_ hb ho3)
          | ((with_reducible refine gate_builtin (b := .append) (xs := #[.tmp 21, .tmp 25]) rfl ?_); at_builtin; refine Kd.R_append_rows (Kd.int .u8) (w0 := w) w.heap.size rfl (.tmp 21) (.tmp 25) 22 5 (.int .u8 0) 1 rfl Try.underlying22 Go.Proofs.Ytbogmlckbkogiaa.P.info5 rfl (by decide) (by omega) v21 [] (ofL (row A i)) _ _ _ (fun _ => True) (fun _ => False) rfl rfl ?aO ?aR (fun _ _ h => h) (fun _ h => h.elim) ?aF ?aB ?aS ?aL ?_; (case aR => exact (Kd.C_below HCi.out HB.out)); (case aB => exact HB.out); (case aF => exact (fun _ _ => trivial)); (case aO => exact HR.out); (case aS => exact below_size HB.out); (case aL => have := HLL.out; simp only [List.length_nil]; omega); intro v26 w5 ho hb hg hat; rw [List.nil_append] at ho; have n0_ := Aside0.mk (Kd.S_after HS.out hg hat); have n1_ := Aside0.mk ho; have n2_ := Aside0.mk hb; clear HS HR HB hx2; have HS := n0_; have HR := n1_; have HB := n2_; clear n0_ n1_ n2_ ho hb hg hat; obtain ⟨Ao, co, eo⟩ := Kd.R_slice HR.out; subst eo)
          | ((with_reducible refine gate_builtin (b := .append) (xs := #[.tmp 20, .tmp 27]) rfl ?_); at_builtin; refine Kd.S_append (Kd.slice 5 (Kd.int .u8)) (w0 := w) w.heap.size rfl (.tmp 20) (.tmp 27) 51 22 (.slice none 0 0) 24 rfl Try.underlying51 Go.Proofs.Ytbogmlckbkogiaa.P.info22 rfl (by decide) (by omega) u3 (oM (A.take i)) (ofL (row A i)) [.slice Ao (ofL (row A i)).length co] (fun _ => True) (fun k_ => some k_ = (.slice Ao (ofL (row A i)).length co : Value).ownBlock) rfl rfl ?aP (fun k_ hk_ => ((Kd.R_mono (ok' := fun k_ => ((fun _ => True)) k_ ∧ some k_ ≠ (u3 : Value).ownBlock) (Kd.R_apart' (HR.out) (Kd.S_typed HS.out) (by decide)) (fun k_ hk => ⟨trivial, hk.2⟩))).1 k_ hk_.symm) ?aF ?aO ?aB ?aS ?aL ?_; (case aP => exact Kd.M_row (Kd.R_mono (Kd.R_tight rfl (Kd.R_mono (ok' := fun k_ => ((fun _ => True)) k_ ∧ some k_ ≠ (u3 : Value).ownBlock) (Kd.R_apart' (HR.out) (Kd.S_typed HS.out) (by decide)) (fun k_ hk => ⟨trivial, hk.2⟩))) (fun _ h_ => h_))); (case aB => exact HB.out); (case aF => exact (fun _ _ => trivial)); (case aO => exact (Kd.S_mono HS.out (fun k_ hk => ⟨trivial, fun e_ => hk.2 e_⟩))); (case aS => exact below_size HB.out); (case aL => have := HTL.out; omega); intro v28 w6 ho hb hg hat; rw [HTK.out] at ho; have n0_ := Aside0.mk ho; have n1_ := Aside0.mk hb; clear HS HR HB; have HS := n0_; have HB := n1_; clear n0_ n1_ ho hb hg hat))
        go_roundg (n - (i + 1))
        case measure => omega
        case rel => exact ⟨i + 1, by omega, by go_num, HS, HB⟩
      · have hi' : ¬ (i : Int) < (n : Int) := by omega
        have hin : i = n := by omega
        have HSA : Aside0 (Kd.S (Kd.slice 5 (Kd.int .u8)) 22 wr w.heap.size (fun _ => True) u3 (A.map ofL)) := ⟨by
          have := HS.out
          rw [hin, show n = A.length from HN.out.symm, List.take_length] at this
          exact this⟩
        obtain ⟨gb, cb, rfl, hS1⟩ := S1.of_S HSA.out HREG.out p1 p3
        have H1 := Aside0.mk hS1
        clear HS HSA hS1 hin hig
        go_wp2
        go_loopg [5, 6] m (fun gg v5 v6 w' => ∃ (dd kk : Nat) (A' : Mat), kk + gg = m ∧ dd ≤ n ∧ v5 = .int .i64 (dd : Int) ∧ v6 = .int .i64 (kk : Int) ∧ Aside0 (rkF gg kk dd A' = rkF m 0 0 A) ∧ Aside0 (S1 w' w.heap.size gb cb n m A') ∧ Aside0 (Below w.heap.size w w'))
        case atStart => exact ⟨0, 0, A, Nat.zero_add _, Nat.zero_le _, rfl, rfl, ⟨rfl⟩, H1, HB⟩
        case round =>
          clear H1 HB
          obtain ⟨dd, kk, A', hkg, hdn, rfl, rfl, HF, H1, HB⟩ := hrel
          have hx0 : wr.cell? ad = some (.slice (As 0) m (cs 0)) := by
            have := pw_cell_below HB.out (hce'.out 0 p1).1
            rwa [Addr.add_zero'] at this
          have hn0 : (0 : Int) < (n : Int) := by omega
          by_cases hk : kk < m
          · have hk' : (kk : Int) < (m : Int) := by omega
            have hF2 : rkF ((m - (kk + 1)) + 1) kk dd A' = rkF m 0 0 A := by rw [show (m - (kk + 1)) + 1 = gk by omega]; exact HF.out
            simp only [rkF] at hF2
            have HF2 := Aside0.mk hF2
            clear hF2 HF
            go_wp2
            go_loopg [7, 8] (n - dd) (fun gg v7 v8 w' => ∃ (i : Nat), dd ≤ i ∧ i + gg = n ∧ v8 = .int .i64 (i : Int) ∧ Aside0 (Found A' kk dd i v7) ∧ w' = wr)
            case atStart => exact ⟨dd, Nat.le_refl _, by omega, rfl, ⟨.inl ⟨rfl, fun j h1 h2 => by omega⟩⟩, rfl⟩
            case round =>
              obtain ⟨i, hdi, hig, rfl, HFd, rfl⟩ := hrel
              by_cases hi : i < n
              · have hi' : (i : Int) < (n : Int) := by omega
                have hi0 : (0 : Int) ≤ (i : Int) := by omega
                have hk0 : (0 : Int) ≤ (kk : Int) := by omega
                obtain ⟨bi, ci, hci, hfi, hri⟩ := H1.out.read i hi
                have hxc := (hri.cell kk (by rw [ofL_length, H1.out.reg.1.2 i hi]; exact hk)).1
                rw [rd_ofL] at hxc
                clear hri
                rcases HFd.out with ⟨rfl, hz⟩ | ⟨t, rfl, h1, h2, h3, h4⟩
                · have HZ := Aside0.mk hz
                  clear hz HFd
                  by_cases hx : el A' i kk = 0#8
                  · have hxz : ofB (at0 (row A' i) kk) = 0 := (ofB_eq_zero _).2 hx
                    have HX := Aside0.mk hx
                    rw [hxz] at hxc
                    clear hx hxz
                    go_wp2
                    go_roundg (n - (i + 1))
                    case measure => omega
                    case rel => exact ⟨i + 1, by omega, by omega, by go_num, ⟨.inl ⟨rfl, fun j h1 h2 => by
                      by_cases e : j = i
                      · rw [e]; exact HX.out
                      · exact HZ.out j h1 (by omega)⟩⟩, rfl⟩
                  · have hxz : ofB (at0 (row A' i) kk) ≠ 0 := fun h => hx ((ofB_eq_zero _).1 h)
                    have HX := Aside0.mk hx
                    have t4 : (ofB (at0 (row A' i) kk) != 0) = true := by simp [hxz]
                    have t5 : (ofB (at0 (row A' i) kk) == 0) = false := by simp [hxz]
                    generalize ofB (at0 (row A' i) kk) = x at *
                    clear hx hxz
                    go_wp2
                    go_roundg (n - (i + 1))
                    case measure => omega
                    case rel => exact ⟨i + 1, by omega, by omega, by go_num, ⟨.inr ⟨i, rfl, by omega, by omega, HX.out, HZ.out⟩⟩, rfl⟩
                · have HT := Aside0.mk (show dd ≤ t ∧ t < i ∧ el A' t kk ≠ 0#8 ∧ ∀ j, dd ≤ j → j < t → el A' j kk = 0#8 from ⟨h1, h2, h3, h4⟩)
                  have t6 : decide ((t : Int) < 0) = false := decide_eq_false (by omega)
                  clear h1 h2 h3 h4 HFd
                  go_wp2
                  go_roundg (n - (i + 1))
                  case measure => omega
                  case rel => exact ⟨i + 1, by omega, by omega, by go_num, ⟨.inr ⟨t, rfl, HT.out.1, by have := HT.out.2.1; omega, HT.out.2.2.1, HT.out.2.2.2⟩⟩, rfl⟩
              · have hi' : ¬ (i : Int) < (n : Int) := by omega
                have hin : i = n := by omega
                rw [hin] at HFd
                clear hin hig hdi
                rcases HFd.out with ⟨rfl, hz⟩ | ⟨t, rfl, h1, h2, h3, h4⟩
                · have hp := pivot_none H1.out.reg.1 hz
                  have HF3 : Aside0 (rkF (m - (kk + 1)) (kk + 1) dd A' = rkF m 0 0 A) := ⟨by have := HF2.out; rw [if_pos hp] at this; exact this⟩
                  clear hz HFd hp HF2
                  go_wp2
                  go_roundg (m - (kk + 1))
                  case measure => omega
                  case rel => exact ⟨dd, kk + 1, A', by omega, hdn, rfl, by go_num, HF3, H1, HB⟩
                · have hp := pivot_some H1.out.reg.1 h1 h2 h3 h4
                  have HF3 : Aside0 (rkF (m - (kk + 1)) (kk + 1) (dd + 1) (rkE kk dd (n - (dd + 1)) (dd + 1) (swapM A' t dd)) = rkF m 0 0 A) := ⟨by
                    have := HF2.out
                    rw [hp, if_neg (by omega), Int.toNat_natCast, H1.out.reg.1.1, show t - dd + dd = t by omega] at this
                    exact this⟩
                  have HX := Aside0.mk h3
                  have hd : dd < n := by omega
                  have t6 : decide ((t : Int) < 0) = false := decide_eq_false (by omega)
                  clear h3 h4 HFd hp HF2
                  go_wp2
                  have hi1 : (0 : Int) ≤ (t : Int) := by omega
                  have hi2 : (t : Int) < (n : Int) := by omega
                  have hi3 : (0 : Int) ≤ (dd : Int) := by omega
                  have hi4 : (dd : Int) < (n : Int) := by omega
                  obtain ⟨bt, ct, hct, hft, hrt⟩ := H1.out.read t h2
                  obtain ⟨bd, cd, hcd, hfd, hrd⟩ := H1.out.read dd hd
                  clear hrt hrd
                  obtain ⟨v1, hv1⟩ := cell?_setCell_some (w := wr) (p := ⟨gb, t, none⟩) (x := .slice (some ⟨bd, 0, none⟩) m cd) (q := ⟨gb, dd, none⟩) (v := .slice (some ⟨bd, 0, none⟩) m cd) hcd
                  have hv1f : (wr.setCell ⟨gb, t, none⟩ (.slice (some ⟨bd, 0, none⟩) m cd)).frozen? ⟨gb, dd, none⟩ = false := by rw [World.frozen?_setCell]; exact hfd
                  go_region
                  obtain ⟨hS1, hB1⟩ := H1.out.exch HB.out h2 hd hct hcd
                  have H2 := Aside0.mk hS1
                  have HB2 := Aside0.mk hB1
                  clear H1 HB hv1 hv1f hct hft hcd hfd hS1 hB1 hi1 hi2 hx0
                  generalize ((wr.setCell ⟨gb, t, none⟩ (.slice (some ⟨bd, 0, none⟩) m cd)).setCell ⟨gb, dd, none⟩ (.slice (some ⟨bt, 0, none⟩) m ct)).drew = w2 at *
                  obtain ⟨A1, hA1⟩ : ∃ A1, A1 = swapM A' t dd := ⟨_, rfl⟩
                  rw [← hA1] at HF3 H2
                  clear hA1
                  have hd9 : IntKind.i64.wrap ((dd : Int) + 1) = (dd : Int) + 1 := IntWalk.i64_in _ (by omega)
                  go_wp2
                  go_loopg [9] (n - (dd + 1)) (fun gg v9 w' => ∃ (i : Nat) (Ai : Mat), dd + 1 ≤ i ∧ i + gg = n ∧ v9 = .int .i64 (i : Int) ∧ Aside0 (rkE kk dd gg i Ai = rkE kk dd (n - (dd + 1)) (dd + 1) A1) ∧ Aside0 (S1 w' w.heap.size gb cb n m Ai) ∧ Aside0 (Below w.heap.size w w'))
                  case atStart => exact ⟨dd + 1, A1, Nat.le_refl _, by omega, by go_num, ⟨rfl⟩, H2, HB2⟩
                  case round =>
                    clear H2 HB2
                    obtain ⟨i, Ai, hdi, hig, rfl, HE, H1, HB⟩ := hrel
                    by_cases hi : i < n
                    · have hi' : (i : Int) < (n : Int) := by omega
                      have hi0 : (0 : Int) ≤ (i : Int) := by omega
                      have hk0 : (0 : Int) ≤ (kk : Int) := by omega
                      have hAl : (row Ai i).length = m := H1.out.reg.1.2 i hi
                      have hAd : (row Ai dd).length = m := H1.out.reg.1.2 dd hd
                      have HE2 : Aside0 (rkE kk dd (n - (i + 1)) (i + 1) (Ai.set i (amG (mul (el Ai i kk) (inv (el Ai dd kk))) (row Ai dd) m 0 (row Ai i))) = rkE kk dd (n - (dd + 1)) (dd + 1) A1) := ⟨by
                        have h := HE.out
                        rw [show gk = (n - (i + 1)) + 1 by omega] at h
                        simp only [rkE] at h
                        rw [hAl] at h
                        exact h⟩
                      clear HE
                      obtain ⟨bi, ci, hci, hfi, hri⟩ := H1.out.read i hi
                      obtain ⟨bd, cd, hcd, hfd, hrd⟩ := H1.out.read dd hd
                      have hxc := (hri.cell kk (by rw [ofL_length, hAl]; exact hk)).1
                      have hzc := (hrd.cell kk (by rw [ofL_length, hAd]; exact hk)).1
                      rw [rd_ofL] at hxc hzc
                      have HRI : Aside0 (Ai.length = n ∧ (row Ai i).length = m ∧ (row Ai dd).length = m) := ⟨⟨H1.out.reg.1.1, hAl, hAd⟩⟩
                      clear hri hrd hfi hfd hAl hAd
                      have hdiv : Aside0 (∀ W, Calls Try.prog 37 #[.int .u8 (ofB (at0 (row Ai i) kk)), .int .u8 (ofB (at0 (row Ai dd) kk))] W fun e w' => e = .returned (.tuple #[.int .u8 (ofB (mul (el Ai i kk) (inv (el Ai dd kk)))), .bool (decide (at0 (row Ai dd) kk ≠ 0#8))]) ∧ Drawn0 W w') := ⟨fun W => by
                        obtain ⟨f, hf⟩ := (refDiv (at0 (row Ai i) kk) (at0 (row Ai dd) kk)).rounds
                        exact mooringref01_Div.calls f _ _ _ _ W hf⟩
                      obtain ⟨Q, hQ⟩ : ∃ Q, Q = mul (el Ai i kk) (inv (el Ai dd kk)) := ⟨_, rfl⟩
                      rw [← hQ] at HE2 hdiv
                      clear hQ
                      generalize decide (at0 (row Ai dd) kk ≠ 0#8) = bb at hdiv
                      generalize ofB (at0 (row Ai i) kk) = x at *
                      generalize ofB (at0 (row Ai dd) kk) = z at *
                      obtain ⟨qv, hqv⟩ : ∃ qv, qv = ofB Q := ⟨_, rfl⟩
                      rw [← hqv] at hdiv
                      have HQV := Aside0.mk hqv
                      clear hqv
                      go_wp2
                      go_quiet (first | (go_at_call 37; (with_reducible refine (hdiv.out _).mono ?_); rintro e w' ⟨rfl, ⟨nd, rfl⟩⟩; (try first | exact ⟨rfl, _, World.drewN_drewN _ _ _⟩ | exact ⟨rfl, _, Eq.trans (World.drewN_drewN _ _ _) (congrArg (World.drewN _) (Nat.add_assoc _ _ _))⟩)))
                      have H5 : Aside0 (S1 (wr.drewN nq) w.heap.size gb cb n m Ai) := ⟨H1.out.below (pw_below_drewN (Below.refl _ _) nq)⟩
                      have HB5 : Aside0 (Below w.heap.size w (wr.drewN nq)) := ⟨pw_below_drewN HB.out nq⟩
                      clear H1 HB hci hcd hxc hzc hdiv
                      generalize wr.drewN nq = w5 at *
                      go_wp2
                      go_loopg [12] m (fun gg v12 w' => ∃ (j : Nat) (r : List B), j + gg = m ∧ v12 = .int .i64 (j : Int) ∧ r.length = m ∧ Aside0 (amG Q (row Ai dd) gg j r = amG Q (row Ai dd) m 0 (row Ai i)) ∧ Aside0 (S1 w' w.heap.size gb cb n m (Ai.set i r)) ∧ Aside0 (Below w.heap.size w w'))
                      case atStart => exact ⟨0, row Ai i, Nat.zero_add _, rfl, HRI.out.2.1, ⟨rfl⟩, ⟨by rw [set_self _ _ (by rw [HRI.out.1]; exact hi)]; exact H5.out⟩, HB5⟩
                      case round =>
                        clear H5 HB5
                        obtain ⟨j, r, hjg, rfl, hrl, HAG, H1, HB⟩ := hrel
                        have hri' : row (Ai.set i r) i = r := row_set_self _ _ _ (by rw [HRI.out.1]; exact hi)
                        have hrd' : row (Ai.set i r) dd = row Ai dd := by rw [row_set _ _ _ _ (by rw [HRI.out.1]; exact hi), if_neg (by omega)]
                        obtain ⟨bi, ci, hci, hfi, hri⟩ := H1.out.read i hi
                        by_cases hj : j < m
                        · have hj' : (j : Int) < (m : Int) := by omega
                          have hj0 : (0 : Int) ≤ (j : Int) := by omega
                          obtain ⟨bd, cd, hcd, hfd, hrd⟩ := H1.out.read dd hd
                          rw [hri'] at hri
                          rw [hrd'] at hrd
                          have hx := (hri.cell j (by rw [ofL_length, hrl]; exact hj)).1
                          have hz := (hrd.cell j (by rw [ofL_length, HRI.out.2.2]; exact hj)).1
                          rw [rd_ofL] at hx hz
                          have HFZ : Aside0 (∀ W, S1 W w.heap.size gb cb n m (Ai.set i r) → True ∧ (W.cell? ⟨gb, i, none⟩ = some (.slice (some ⟨bi, 0, none⟩) m ci) → W.frozen? ⟨bi, j, none⟩ = false)) := ⟨fun W hW => ⟨trivial, fun hc => by
                            have := hW.look hi hc
                            rw [hri'] at this
                            exact (this.cell j (by rw [ofL_length, hrl]; exact hj)).2⟩⟩
                          have hmul : Aside0 (∀ W, Calls Try.prog 38 #[.int .u8 qv, .int .u8 (ofB (at0 (row Ai dd) j))] W fun e w' => e = .returned (.int .u8 (ofB (mul Q (at0 (row Ai dd) j)))) ∧ Drawn0 W w') := ⟨fun W => by
                            rw [HQV.out]
                            obtain ⟨f, hf⟩ := (refMul Q (at0 (row Ai dd) j)).rounds
                            exact mooringref01_Mul.calls f _ _ _ W hf⟩
                          have hxr := xor_ofB (at0 r j) (mul Q (at0 (row Ai dd) j))
                          have HRI' := Aside0.mk hri'
                          clear hri hrd hfi hfd hri' hrd'
                          obtain ⟨y, hy⟩ : ∃ y, y = at0 r j ^^^ mul Q (at0 (row Ai dd) j) := ⟨_, rfl⟩
                          rw [← hy] at hxr
                          have HY := Aside0.mk hy
                          clear hy
                          generalize ofB (at0 r j) = x at *
                          generalize ofB (at0 (row Ai dd) j) = z at *
                          generalize ofB (mul Q (at0 (row Ai dd) j)) = tt at *
                          go_upto_region 25 with (fail)
                          refine start_ (n := 24) (S := (fun w' => w'.cell? ⟨gb, i, none⟩ = some (.slice (some ⟨bi, 0, none⟩) m ci) ∧ w'.cell? ⟨gb, dd, none⟩ = some (.slice (some ⟨bd, 0, none⟩) m cd) ∧ w'.cell? ⟨bi, j, none⟩ = some (.int .u8 x) ∧ w'.cell? ⟨bd, j, none⟩ = some (.int .u8 z))) (ds := [23]) #[false, false, false, false, false, false, false, false, false, false, false, false, false, false, false, false, false, false, false, false, false, false, false, false] (by kernel_rfl) rfl rfl ⟨hci, hcd, hx, hz⟩ (fun hHeld => ?_); refine with_tabW rank_tab25 rank_bits25 (fun HT_ HW_ => ?_)
                          have H5 : Aside0 (S1 wr.drew w.heap.size gb cb n m (Ai.set i r)) := ⟨H1.out.drew⟩
                          have HB5 : Aside0 (Below w.heap.size w wr.drew) := ⟨below_drew HB.out⟩
                          clear H1 HB hci hcd hx hz
                          generalize wr.drew = w6 at H5 HB5 hHeld ⊢
                          refine pure_ (i := 0) (N := some 108) (v := ?_) (a' := ?_) #[true, false, false, false, false, false, false, false, false, false, false, false, false, false, false, false, false, false, false, false, false, false, false, false] rfl rfl (any_of HT_.out (by kernel_rfl)) (fun _ _ _ h => h) (Or.inl ⟨by rfl, ?_⟩) ?_ ?_
                          rotate_left
                          · intro w'
                            go_simp
                            with_reducible rfl
                          rotate_left
                          · simp only [Act.put, List.setIfInBounds_toArray, List.set_cons_zero, List.set_cons_succ, i64_w, i32_w]
                            rfl
                          refine pure_ (i := 1) (N := some 109) (v := ?_) (a' := ?_) #[true, true, false, false, false, false, false, false, false, false, false, false, false, false, false, false, false, false, false, false, false, false, false, false] rfl rfl (any_of HT_.out (by kernel_rfl)) (fun _ _ _ h => h) (Or.inl ⟨by rfl, ?_⟩) ?_ ?_
                          rotate_left
                          · intro w'
                            go_simp
                            with_reducible rfl
                          rotate_left
                          · simp only [Act.put, List.setIfInBounds_toArray, List.set_cons_zero, List.set_cons_succ, i64_w, i32_w]
                            rfl
                          refine pure_ (i := 2) (N := some 110) (v := ?_) (a' := ?_) #[true, true, true, false, false, false, false, false, false, false, false, false, false, false, false, false, false, false, false, false, false, false, false, false] rfl rfl (any_of HT_.out (by kernel_rfl)) (fun _ _ _ h => h) (Or.inl ⟨by rfl, ?_⟩) ?_ ?_
                          rotate_left
                          · intro w'
                            go_simp
                            with_reducible rfl
                          rotate_left
                          · simp only [Act.put, List.setIfInBounds_toArray, List.set_cons_zero, List.set_cons_succ, i64_w, i32_w]
                            rfl
                          refine pure_ (i := 4) (N := some 112) (v := ?_) (a' := ?_) #[true, true, true, false, true, false, false, false, false, false, false, false, false, false, false, false, false, false, false, false, false, false, false, false] rfl rfl (any_of HT_.out (by kernel_rfl)) (fun _ _ _ h => h) (Or.inl ⟨by rfl, ?_⟩) ?_ ?_
                          rotate_left
                          · intro w'
                            go_simp
                            with_reducible rfl
                          rotate_left
                          · simp only [Act.put, List.setIfInBounds_toArray, List.set_cons_zero, List.set_cons_succ, i64_w, i32_w]
                            rfl
                          refine pure_ (i := 5) (N := some 113) (v := ?_) (a' := ?_) #[true, true, true, false, true, true, false, false, false, false, false, false, false, false, false, false, false, false, false, false, false, false, false, false] rfl rfl (any_of HT_.out (by kernel_rfl)) (fun _ _ _ h => h) (Or.inl ⟨by rfl, ?_⟩) ?_ ?_
                          rotate_left
                          · intro w'
                            go_simp
                            with_reducible rfl
                          rotate_left
                          · simp only [Act.put, List.setIfInBounds_toArray, List.set_cons_zero, List.set_cons_succ, i64_w, i32_w]
                            rfl
                          refine pure_ (i := 6) (N := some 114) (v := ?_) (a' := ?_) #[true, true, true, false, true, true, true, false, false, false, false, false, false, false, false, false, false, false, false, false, false, false, false, false] rfl rfl (any_of HT_.out (by kernel_rfl)) (fun _ _ _ h => h) (Or.inl ⟨by rfl, ?_⟩) ?_ ?_
                          rotate_left
                          · intro w'
                            go_simp
                            with_reducible rfl
                          rotate_left
                          · simp only [Act.put, List.setIfInBounds_toArray, List.set_cons_zero, List.set_cons_succ, i64_w, i32_w]
                            rfl
                          refine pure_ (i := 7) (N := some 115) (v := ?_) (a' := ?_) #[true, true, true, false, true, true, true, true, false, false, false, false, false, false, false, false, false, false, false, false, false, false, false, false] rfl rfl (any_of HT_.out (by kernel_rfl)) (fun _ _ _ h => h) (Or.inl ⟨by rfl, ?_⟩) ?_ ?_
                          rotate_left
                          · intro w'
                            go_simp
                            with_reducible rfl
                          rotate_left
                          · simp only [Act.put, List.setIfInBounds_toArray, List.set_cons_zero, List.set_cons_succ, i64_w, i32_w]
                            rfl
                          refine pure_ (i := 9) (N := some 117) (v := ?_) (a' := ?_) #[true, true, true, false, true, true, true, true, false, true, false, false, false, false, false, false, false, false, false, false, false, false, false, false] rfl rfl (any_of HT_.out (by kernel_rfl)) (fun _ _ _ h => h) (Or.inl ⟨by rfl, ?_⟩) ?_ ?_
                          rotate_left
                          · intro w'
                            go_simp
                            with_reducible rfl
                          rotate_left
                          · simp only [Act.put, List.setIfInBounds_toArray, List.set_cons_zero, List.set_cons_succ, i64_w, i32_w]
                            rfl
                          refine pure_ (i := 12) (N := some 120) (v := ?_) (a' := ?_) #[true, true, true, false, true, true, true, true, false, true, false, false, true, false, false, false, false, false, false, false, false, false, false, false] rfl rfl (any_of HT_.out (by kernel_rfl)) (fun _ _ _ h => h) (Or.inl ⟨by rfl, ?_⟩) ?_ ?_
                          rotate_left
                          · intro w'
                            go_simp
                            with_reducible rfl
                          rotate_left
                          · simp only [Act.put, List.setIfInBounds_toArray, List.set_cons_zero, List.set_cons_succ, i64_w, i32_w]
                            rfl
                          refine pure_ (i := 13) (N := some 121) (v := ?_) (a' := ?_) #[true, true, true, false, true, true, true, true, false, true, false, false, true, true, false, false, false, false, false, false, false, false, false, false] rfl rfl (any_of HT_.out (by kernel_rfl)) (fun _ _ _ h => h) (Or.inl ⟨by rfl, ?_⟩) ?_ ?_
                          rotate_left
                          · intro w'
                            go_simp
                            with_reducible rfl
                          rotate_left
                          · simp only [Act.put, List.setIfInBounds_toArray, List.set_cons_zero, List.set_cons_succ, i64_w, i32_w]
                            rfl
                          refine pure_ (i := 14) (N := some 122) (v := ?_) (a' := ?_) #[true, true, true, false, true, true, true, true, false, true, false, false, true, true, true, false, false, false, false, false, false, false, false, false] rfl rfl (any_of HT_.out (by kernel_rfl)) (fun _ _ _ h => h) (Or.inl ⟨by rfl, ?_⟩) ?_ ?_
                          rotate_left
                          · intro w'
                            go_simp
                            with_reducible rfl
                          rotate_left
                          · simp only [Act.put, List.setIfInBounds_toArray, List.set_cons_zero, List.set_cons_succ, i64_w, i32_w]
                            rfl
                          refine pure_ (i := 15) (N := some 123) (v := ?_) (a' := ?_) #[true, true, true, false, true, true, true, true, false, true, false, false, true, true, true, true, false, false, false, false, false, false, false, false] rfl rfl (any_of HT_.out (by kernel_rfl)) (fun _ _ _ h => h) (Or.inl ⟨by rfl, ?_⟩) ?_ ?_
                          rotate_left
                          · intro w'
                            go_simp
                            with_reducible rfl
                          rotate_left
                          · simp only [Act.put, List.setIfInBounds_toArray, List.set_cons_zero, List.set_cons_succ, i64_w, i32_w]
                            rfl
                          refine pure_ (i := 17) (N := some 125) (v := ?_) (a' := ?_) #[true, true, true, false, true, true, true, true, false, true, false, false, true, true, true, true, false, true, false, false, false, false, false, false] rfl rfl (any_of HT_.out (by kernel_rfl)) (fun _ _ _ h => h) (Or.inl ⟨by rfl, ?_⟩) ?_ ?_
                          rotate_left
                          · intro w'
                            go_simp
                            with_reducible rfl
                          rotate_left
                          · simp only [Act.put, List.setIfInBounds_toArray, List.set_cons_zero, List.set_cons_succ, i64_w, i32_w]
                            rfl
                          refine take_ (i := 3) (N := some 111) (v := ?_) (a' := ?_) #[true, true, true, true, true, true, true, true, false, true, false, false, true, true, true, true, false, true, false, false, false, false, false, false] rfl rfl (take_ofW HT_.out HW_.out (by kernel_rfl)) (fun _ _ _ h => h) (Or.inl ⟨by rfl, ?_⟩) hHeld ?_ ?_
                          rotate_left
                          · rintro w' ⟨s0, s1, s2, s3⟩
                            go_simp
                            with_reducible rfl
                          rotate_left
                          · simp only [Act.put, List.setIfInBounds_toArray, List.set_cons_zero, List.set_cons_succ, i64_w, i32_w]
                            rfl
                          refine take_ (i := 8) (N := some 116) (v := ?_) (a' := ?_) #[true, true, true, true, true, true, true, true, true, true, false, false, true, true, true, true, false, true, false, false, false, false, false, false] rfl rfl (take_ofW HT_.out HW_.out (by kernel_rfl)) (fun _ _ _ h => h) (Or.inl ⟨by rfl, ?_⟩) hHeld ?_ ?_
                          rotate_left
                          · rintro w' ⟨s0, s1, s2, s3⟩
                            go_simp
                            with_reducible rfl
                          rotate_left
                          · simp only [Act.put, List.setIfInBounds_toArray, List.set_cons_zero, List.set_cons_succ, i64_w, i32_w]
                            rfl
                          refine pure_ (i := 10) (N := some 118) (v := ?_) (a' := ?_) #[true, true, true, true, true, true, true, true, true, true, true, false, true, true, true, true, false, true, false, false, false, false, false, false] rfl rfl (any_of HT_.out (by kernel_rfl)) (fun _ _ _ h => h) (Or.inl ⟨by rfl, ?_⟩) ?_ ?_
                          rotate_left
                          · intro w'
                            go_simp
                            with_reducible rfl
                          rotate_left
                          · simp only [Act.put, List.setIfInBounds_toArray, List.set_cons_zero, List.set_cons_succ, i64_w, i32_w]
                            rfl
                          refine take_ (i := 11) (N := some 119) (v := ?_) (a' := ?_) #[true, true, true, true, true, true, true, true, true, true, true, true, true, true, true, true, false, true, false, false, false, false, false, false] rfl rfl (take_ofW HT_.out HW_.out (by kernel_rfl)) (fun _ _ _ h => h) (Or.inl ⟨by rfl, ?_⟩) hHeld ?_ ?_
                          rotate_left
                          · rintro w' ⟨s0, s1, s2, s3⟩
                            go_simp
                            with_reducible rfl
                          rotate_left
                          · simp only [Act.put, List.setIfInBounds_toArray, List.set_cons_zero, List.set_cons_succ, i64_w, i32_w]
                            rfl
                          refine take_ (i := 16) (N := some 124) (v := ?_) (a' := ?_) #[true, true, true, true, true, true, true, true, true, true, true, true, true, true, true, true, true, true, false, false, false, false, false, false] rfl rfl (take_ofW HT_.out HW_.out (by kernel_rfl)) (fun _ _ _ h => h) (Or.inl ⟨by rfl, ?_⟩) hHeld ?_ ?_
                          rotate_left
                          · rintro w' ⟨s0, s1, s2, s3⟩
                            go_simp
                            with_reducible rfl
                          rotate_left
                          · simp only [Act.put, List.setIfInBounds_toArray, List.set_cons_zero, List.set_cons_succ, i64_w, i32_w]
                            rfl
                          refine pure_ (i := 18) (N := some 126) (v := ?_) (a' := ?_) #[true, true, true, true, true, true, true, true, true, true, true, true, true, true, true, true, true, true, true, false, false, false, false, false] rfl rfl (any_of HT_.out (by kernel_rfl)) (fun _ _ _ h => h) (Or.inl ⟨by rfl, ?_⟩) ?_ ?_
                          rotate_left
                          · intro w'
                            go_simp
                            with_reducible rfl
                          rotate_left
                          · simp only [Act.put, List.setIfInBounds_toArray, List.set_cons_zero, List.set_cons_succ, i64_w, i32_w]
                            rfl
                          refine take_ (i := 19) (N := some 127) (v := ?_) (a' := ?_) #[true, true, true, true, true, true, true, true, true, true, true, true, true, true, true, true, true, true, true, true, false, false, false, false] rfl rfl (take_ofW HT_.out HW_.out (by kernel_rfl)) (fun _ _ _ h => h) (Or.inl ⟨by rfl, ?_⟩) hHeld ?_ ?_
                          rotate_left
                          · rintro w' ⟨s0, s1, s2, s3⟩
                            go_simp
                            with_reducible rfl
                          rotate_left
                          · simp only [Act.put, List.setIfInBounds_toArray, List.set_cons_zero, List.set_cons_succ, i64_w, i32_w]
                            rfl
                          refine one_ (i := 20) (N := some 128) #[true, true, true, true, true, true, true, true, true, true, true, true, true, true, true, true, true, true, true, true, true, false, false, false] rfl rfl (one_of HT_.out (by kernel_rfl)) (by decide) (fun K hK => ?_)
                          refine goes_ Try.func38 (by kernel_rfl) rfl #[.int .u8 qv, .int .u8 z] (by rfl) rfl rfl (by (try simp only [List.map_toArray, List.map_cons, List.map_nil]); first | done | rfl) ?_
                          refine (hmul.out _).mono ?_
                          rintro e w7 ⟨rfl, ⟨nd, rfl⟩⟩
                          refine ⟨_, rfl, ?_⟩
                          have H6 : Aside0 (S1 (w6.drewN nd) w.heap.size gb cb n m (Ai.set i r)) := ⟨H5.out.below (pw_below_drewN (Below.refl _ _) nd)⟩
                          have HB6 : Aside0 (Below w.heap.size w (w6.drewN nd)) := ⟨pw_below_drewN HB5.out nd⟩
                          have hf6 := (HFZ.out _ H6.out).2 hHeld.1
                          have hx6 : (w6.drewN nd).cell? ⟨bi, j, none⟩ = some (.int .u8 x) := hHeld.2.2.1
                          refine hK.out _ _ ⟨hHeld.1, hHeld.2.1, hHeld.2.2.1, hHeld.2.2.2⟩ (fun hHeld => ?_)
                          clear hK K H5 HB5
                          have HHI := Aside0.mk hHeld.1
                          generalize w6.drewN nd = w8 at H6 HB6 hHeld hf6 hx6 HHI ⊢
                          refine norm_ (a' := ?_) ?_ ?_
                          rotate_left
                          · show Act.put _ (some 128) _ = _
                            simp only [Act.put, List.setIfInBounds_toArray, List.set_cons_zero, List.set_cons_succ, i64_w, i32_w]
                            rfl
                          refine pure_ (i := 21) (N := some 129) (v := ?_) (a' := ?_) #[true, true, true, true, true, true, true, true, true, true, true, true, true, true, true, true, true, true, true, true, true, true, false, false] rfl rfl (any_of HT_.out (by kernel_rfl)) (fun _ _ _ h => h) (Or.inl ⟨by rfl, ?_⟩) ?_ ?_
                          rotate_left
                          · intro w'
                            go_simp
                            with_reducible rfl
                          rotate_left
                          · simp only [Act.put, List.setIfInBounds_toArray, List.set_cons_zero, List.set_cons_succ, i64_w, i32_w]
                            rfl
                          refine pure_ (i := 22) (N := some 130) (v := ?_) (a' := ?_) #[true, true, true, true, true, true, true, true, true, true, true, true, true, true, true, true, true, true, true, true, true, true, true, false] rfl rfl (any_of HT_.out (by kernel_rfl)) (fun _ _ _ h => h) (Or.inl ⟨by rfl, ?_⟩) ?_ ?_
                          rotate_left
                          · intro w'
                            go_simp
                            with_reducible rfl
                          rotate_left
                          · simp only [Act.put, List.setIfInBounds_toArray, List.set_cons_zero, List.set_cons_succ, i64_w, i32_w]
                            rfl
                          refine last_ (i := 23) (N := none) #[true, true, true, true, true, true, true, true, true, true, true, true, true, true, true, true, true, true, true, true, true, true, true, true] rfl rfl (one_of HT_.out (by kernel_rfl)) (by decide) (fun K hK => ?_)
                          refine skip_ (w1 := ?_) (by rfl) rfl ?_ ?_
                          rotate_left
                          · go_simp
                            rfl
                          refine hK.out _ _ ?_
                          clear hK K
                          refine done_ (done_of HT_.out (by kernel_rfl)) ?_
                          clear HT_ HW_ hHeld
                          clear hmul HFZ
                          obtain ⟨hp1, hp2, _⟩ := H6.out.put HB6.out hi HHI.out j y
                          rw [HRI'.out, set_set'] at hp1
                          have HP1 := Aside0.mk hp1
                          have HP2 := Aside0.mk hp2
                          clear hp1 hp2 H6 HB6 hf6 hx6
                          go_wp2
                          go_roundg (m - (j + 1))
                          case measure => omega
                          case rel => exact ⟨j + 1, r.set j y, by omega, by go_num, by rw [List.length_set]; exact hrl, ⟨by rw [← HAG.out, show gk = (m - (j + 1)) + 1 by omega, HY.out]; rfl⟩, HP1, HP2⟩
                        · have hj' : ¬ (j : Int) < (m : Int) := by omega
                          have hg0 : gk = 0 := by omega
                          have HR2 : Aside0 (r = amG Q (row Ai dd) m 0 (row Ai i)) := ⟨by rw [← HAG.out, hg0]; rfl⟩
                          clear HAG hg0 hjg hri
                          go_wp2
                          go_roundg (n - (i + 1))
                          case measure => omega
                          case rel => exact ⟨i + 1, _, by omega, by omega, by go_num, ⟨by rw [HR2.out]; exact HE2.out⟩, H1, HB⟩
                    · have hi' : ¬ (i : Int) < (n : Int) := by omega
                      have hg0 : gk = 0 := by omega
                      have HF4 : Aside0 (rkF (m - (kk + 1)) (kk + 1) (dd + 1) Ai = rkF m 0 0 A) := ⟨by
                        rw [← HF3.out]
                        have h := HE.out
                        rw [hg0] at h
                        rw [show Ai = rkE kk dd (n - (dd + 1)) (dd + 1) A1 from h]⟩
                      clear HE HF3 hg0 hig
                      go_wp2
                      go_roundg (m - (kk + 1))
                      case measure => omega
                      case rel => exact ⟨dd + 1, kk + 1, Ai, by omega, by omega, by go_num, by go_num, HF4, H1, HB⟩
          · have hk' : ¬ (kk : Int) < (m : Int) := by omega
            have hg0 : gk = 0 := by omega
            have HF4 : Aside0 (rkF m 0 0 A = dd) := ⟨by rw [← HF.out, hg0]; rfl⟩
            clear HF hg0 hkg
            go_wp2
            go_ret
            rw [HF4.out]
            exact ⟨rfl, HB.out⟩
  · rw [if_neg hby] at h
    cases h
end Go.Proofs.Ytbogmlckbkogiaa.H
