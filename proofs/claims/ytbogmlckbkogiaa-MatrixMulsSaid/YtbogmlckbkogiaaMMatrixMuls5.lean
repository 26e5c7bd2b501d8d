import Derived.Test.YtbogmlckbkogiaaMMatrixMuls1
import Derived.Test.YtbogmlckbkogiaaMMatrixMuls4
import Derived.Test.YtbogmlckbkogiaaMMatrixMuls2
import Derived.Test.YtbogmlckbkogiaaMMatrixMuls3
import Derived.Deep.Matrix
import Derived.SizedLaws
import Derived.ChangeSlices
-- Printed by a wrapper (wip/tools/myprint.py) of the kit's print, with hand-written contracts as given leaves.
namespace Go.Proofs.Ytbogmlckbkogiaa.P
open Go.Proofs.Ytbogmlckbkogiaa.Leaf
open Go.RowKit Go.Proofs.YtbogmlckbkogiaaW.PrintWords Go.Proofs.YtbogmlckbkogiaaW.PrintLast Go.Proofs.YtbogmlckbkogiaaW.PrintMore
attribute [local go_sem] max2_int min2_int max_two min_two max_three min_three max_four min_four   -- for this text's walks alone
set_option linter.unusedVariables false
set_option linter.unusedSimpArgs false

/-! ### mooringref02_Identity: function 56 -/
def mooringref02_Identity.l0 : Nat → Int → List (List Int) → Int → Option ((List (List Int)))
  | 0, _, _, _ => none
  | k + 1, x0, x3, x4 => if x4 < x0 then (if 0 ≤ x0 then (if (x0 : Int).toNat ≤ 281474976710656 then ((some (List.replicate (x0 : Int).toNat 0 : List Int)).bind fun y104 => (if 0 ≤ x4 then (if x4 < (y104.length : Int) then (if x3.length < 5864062014805 then (mooringref02_Identity.l0 k x0 (x3 ++ [(y104.set (x4 : Int).toNat 1)]) (wrap64 (x4 + 1))) else (none)) else (none)) else (none))) else (none)) else (none)) else (some x3)
def mooringref02_Identity.f (k : Nat) (a0 : Int) : Option ((List (List Int))) := mooringref02_Identity.l0 k a0 (([] : List (List Int))) 0
theorem mooringref02_Identity.mono_l : ∀ k, (∀ y0 y1 y2, LeO (mooringref02_Identity.l0 k y0 y1 y2) (mooringref02_Identity.l0 (k + 1) y0 y1 y2))
  | 0 => fun _ _ _ r h => by simp [mooringref02_Identity.l0] at h
  | k + 1 => by
    have ih0 := mooringref02_Identity.mono_l k
    · intro y0 y1 y2
      unfold mooringref02_Identity.l0
      repeat' first
      | (with_reducible exact ih0 _ _ _)
      | (with_reducible exact LeO.refl _)
      | (with_reducible exact LeO.none _)
      | (with_reducible refine LeO.ite ?_ ?_)
      | (with_reducible refine LeO.bind ?_ (fun _ => ?_))
      | exact ih0 _ _ _
      | exact LeO.none _
      | refine LeO.ite ?_ ?_
      | refine LeO.bind ?_ (fun _ => ?_)
theorem mooringref02_Identity.mono : ∀ a0 k, LeO (mooringref02_Identity.f k a0) (mooringref02_Identity.f (k + 1) a0) := by
  intro a0 k
  have ih0 := mooringref02_Identity.mono_l k
  unfold mooringref02_Identity.f
  repeat' first
      | (with_reducible exact ih0 _ _ _)
      | (with_reducible exact LeO.refl _)
      | (with_reducible exact LeO.none _)
      | (with_reducible refine LeO.ite ?_ ?_)
      | (with_reducible refine LeO.bind ?_ (fun _ => ?_))
      | exact ih0 _ _ _
      | exact LeO.none _
      | refine LeO.ite ?_ ?_
      | refine LeO.bind ?_ (fun _ => ?_)
set_option maxHeartbeats 8000000 in
set_option maxRecDepth 100000 in
theorem mooringref02_Identity.calls (k : Nat) (a0 : Int) (r : List (List Int)) (w : World) (h : mooringref02_Identity.f k a0 = some r) :
    Calls Try.prog 56 #[.int .i64 a0] w fun e w' => ∃ v0_ : Value, e = .returned (v0_) ∧ Kd.S (Kd.slice 5 (Kd.int .u8)) 22 w' w.heap.size (fun _ => True) v0_ r ∧ Below w.heap.size w w' := by
  have HB := Aside0.mk (Below.refl w.heap.size w)
  have H : (mooringref02_Identity.l0 k a0 (([] : List (List Int))) 0) = some r := h
  clear h
  obtain ⟨y101, hy101⟩ : ∃ y_ : List (List Int), y_ = (([] : List (List Int))) := ⟨_, rfl⟩
  replace H : (mooringref02_Identity.l0 k a0 y101 0) = some r := by first | (rw [hy101]; with_reducible exact H) | (have H2_ := (Option.bind_some _ _).symm.trans H; rw [hy101]; with_reducible exact H2_) | (have H2_ := (Option.bind_some _ _).symm.trans H; with_reducible exact H2_) | with_reducible exact H | (rw [hy101]; exact H) | exact H
  have Ny101 := Aside0.mk hy101
  clear hy101
  have H' := Aside0.mk H
  clear H
  go_enter Try.func56, Try.ntmps56
  go_wp2_with (first | ((with_reducible refine gate_dst (N := 6) rfl ?_); refine Kd.S_lit (Kd.slice 5 (Kd.int .u8)) _ 22 ?hg (N := 6) ?hd (xs := ([] : List (List Int))) (inner := []) (ok := fun _ => True) (okp := fun _ => True) ?hr ?hp (fun _ hk => hk) trivial (Below.refl _ _) (Nat.le_refl _) (by simp) ?_; (case hd => rfl); (case hg => rfl); (case hr => first | (go_simp; done) | (go_simp; rfl)); (case hp => exact (Reps.none _ _)); intro v102 w2 ho3 hb hg_ hnew_; clear hg_ hnew_; (first | rw [← Ny101.out] at ho3 | (simp only [Int.reduceToNat] at ho3; rw [← Ny101.out] at ho3)); have n0_ := Aside0.mk (Kd.S_lower ho3 (below_size (by repeat (first | (with_reducible first | exact HB.out | apply below_alloc | apply pw_below_drewN | apply below_drew1) | exact HB.out)))); have n1_ := Aside0.mk (below_step (by repeat (first | (with_reducible first | exact HB.out | apply below_alloc | apply pw_below_drewN | apply below_drew1) | exact HB.out)) hb); clear HB; have HO103 := n0_; have HB := n1_; clear n0_ n1_; clear hb ho3))
  go_loopg [3, 4] k (fun kq v3 v4 w' => ∃ (x3_1 : List (List Int)) (x4_1 : Int), v4 = .int .i64 x4_1 ∧ Aside0 (mooringref02_Identity.l0 kq a0 x3_1 x4_1 = some r) ∧ Aside0 (kq ≤ k) ∧ Aside0 (Kd.S (Kd.slice 5 (Kd.int .u8)) 22 w' w.heap.size (fun _ => True) v3 x3_1) ∧ Aside0 (Below w.heap.size w w'))
  case atStart => exact ⟨(y101), (0), (by first | rfl | (simp; done) | (simp [*]; done)), H', ⟨Nat.le_refl _⟩, ⟨by (with_reducible repeat (first | apply Kd.S_alloc | apply Kd.S_drewN | apply Kd.S_drew)); exact HO103.out⟩, ⟨by repeat (first | (with_reducible first | exact HB.out | apply below_alloc | apply pw_below_drewN | apply below_drew1) | exact HB.out)⟩⟩
  case round =>
    clear H'
    try clear p2
    obtain ⟨x3_1, x4_1, rfl, HA, HK1, HO_3, HB⟩ := hrel
    cases gk with
    | zero => exact absurd HA.out (by simp [mooringref02_Identity.l0])
    | succ k1 =>
      have H := HA.out
      clear HA
      simp only [mooringref02_Identity.l0] at H
      by_cases c4 : x4_1 < a0
      · rw [if_pos c4] at H
        have c4b0 : decide (x4_1 < a0) = true := decide_eq_true c4
        clear c4
        by_cases c5 : 0 ≤ a0
        · rw [if_pos c5] at H
          have c5b0 := eq_true c5
          have c5b1 : decide (0 ≤ a0) = true := decide_eq_true c5
          clear c5
          by_cases c6 : (a0 : Int).toNat ≤ 281474976710656
          · rw [if_pos c6] at H
            have c6b0 := eq_true c6
            have c6b1 : decide ((a0 : Int).toNat ≤ 281474976710656) = true := decide_eq_true c6
            clear c6
            obtain ⟨y104, hy104⟩ : ∃ y_ : List Int, y_ = (List.replicate (a0 : Int).toNat 0) := ⟨_, rfl⟩
            replace H : (if 0 ≤ x4_1 then (if x4_1 < (y104.length : Int) then (if x3_1.length < 5864062014805 then (mooringref02_Identity.l0 k1 a0 (x3_1 ++ [(y104.set (x4_1 : Int).toNat 1)]) (wrap64 (x4_1 + 1))) else (none)) else (none)) else (none)) = some r := by first | (rw [hy104]; with_reducible exact H) | (have H2_ := (Option.bind_some _ _).symm.trans H; rw [hy104]; with_reducible exact H2_) | (have H2_ := (Option.bind_some _ _).symm.trans H; with_reducible exact H2_) | with_reducible exact H | (rw [hy104]; exact H) | exact H
            have Ny104 := Aside0.mk hy104
            clear hy104
            by_cases c7 : 0 ≤ x4_1
            · rw [if_pos c7] at H
              have c7b0 : decide (0 ≤ x4_1) = true := decide_eq_true c7
              clear c7
              by_cases c8 : x4_1 < (y104.length : Int)
              · rw [if_pos c8] at H
                have c8b0 : decide (x4_1 < (y104.length : Int)) = true := decide_eq_true c8
                clear c8
                obtain ⟨y107, hy107⟩ : ∃ y_ : List Int, y_ = (y104.set (x4_1 : Int).toNat 1) := ⟨_, rfl⟩
                replace H : (if x3_1.length < 5864062014805 then (mooringref02_Identity.l0 k1 a0 (x3_1 ++ [y107]) (wrap64 (x4_1 + 1))) else (none)) = some r := by first | (rw [hy107]; with_reducible exact H) | (have H2_ := (Option.bind_some _ _).symm.trans H; rw [hy107]; with_reducible exact H2_) | (have H2_ := (Option.bind_some _ _).symm.trans H; with_reducible exact H2_) | with_reducible exact H | (rw [hy107]; exact H) | exact H
                have Ny107 := Aside0.mk hy107
                clear hy107
                by_cases c10 : x3_1.length < 5864062014805
                · rw [if_pos c10] at H
                  have LMc10 := Aside0.mk c10
                  clear c10
                  obtain ⟨y108, hy108⟩ : ∃ y_ : List (List Int), y_ = (x3_1 ++ [y107]) := ⟨_, rfl⟩
                  replace H : (mooringref02_Identity.l0 k1 a0 y108 (wrap64 (x4_1 + 1))) = some r := by first | (rw [hy108]; with_reducible exact H) | (have H2_ := (Option.bind_some _ _).symm.trans H; rw [hy108]; with_reducible exact H2_) | (have H2_ := (Option.bind_some _ _).symm.trans H; with_reducible exact H2_) | with_reducible exact H | (rw [hy108]; exact H) | exact H
                  have Ny108 := Aside0.mk hy108
                  clear hy108
                  have H' := Aside0.mk H
                  clear H
                  go_wp2_with (first | ((with_reducible refine gate_dst (N := 13) rfl ?_); refine Kd.R_make (Kd.int .u8) _ 5 rfl (N := 13) rfl 22 _ _ rfl a0 rfl rfl Try.underlying22 (.int .u8 0) 1 info5 rfl (by decide) (by omega) 0 (ok := fun _ => True) (okp := fun _ => True) rfl (fun _ hk => hk) trivial (of_decide_eq_true (by first | (with_reducible assumption) | assumption)) (Nat.le_trans (Nat.mul_le_mul_right _ (of_decide_eq_true (by first | (with_reducible assumption) | assumption) : a0.toNat ≤ 281474976710656)) (by omega)) (Below.refl _ _) (Nat.le_refl _) ?_; intro v105 w11 ho12 hb hg_ hnew_; clear hg_ hnew_; (first | rw [← Ny104.out] at ho12 | (simp only [Int.reduceToNat] at ho12; rw [← Ny104.out] at ho12)); have n0_ := Aside0.mk (Kd.S_elder' (by (with_reducible repeat (first | apply Kd.S_alloc | apply Kd.S_drewN | apply Kd.S_drew)); exact HO_3.out) (Kd.R_base ho12) hb); have n1_ := Aside0.mk (Kd.R_lower ho12 (below_size (by repeat (first | (with_reducible first | exact HB.out | apply below_alloc | apply pw_below_drewN | apply below_drew1) | exact HB.out)))); have n2_ := Aside0.mk (below_step (by repeat (first | (with_reducible first | exact HB.out | apply below_alloc | apply pw_below_drewN | apply below_drew1) | exact HB.out)) hb); clear HO_3; clear HB; have HO_3 := n0_; have HO106 := n1_; have HB := n2_; clear n0_ n1_ n2_; clear hb ho12; have p9 : 0 ≤ (x4_1 : Int) := of_decide_eq_true (by first | (with_reducible assumption) | assumption); have q9 : (x4_1 : Int) < ((y104.length : Int) : Int) := of_decide_eq_true (by first | (with_reducible assumption) | assumption); obtain ⟨go9, co9, eo9, gb9, gl9, cl9, HG9⟩ := Kd.R_form HO106.out (by omega); (first | cases eo9 | (injection eo9 with ea_ en_ ec_; (first | subst ea_ | (injection ea_ with ea_; subst ea_)); subst ec_; clear en_)); have GB9 := Aside0.mk gb9; have GG9 := Aside0.mk HG9; clear gb9 gl9 HG9; obtain ⟨hx9_0, hf9_0⟩ := Kd.R_celln 0 HO106.out (x4_1 : Int) p9 q9; replace p9 := eq_true p9; replace q9 := eq_true q9; obtain ⟨hy13_, hz13_⟩ := Kd.R_celln 0 HO106.out (x4_1 : Int) (of_decide_eq_true (by first | (with_reducible assumption) | assumption)) (of_decide_eq_true (by first | (with_reducible assumption) | assumption)); have HP13 := Kd.R_putg HO106.out (x4_1 : Int) 1) | ((with_reducible refine gate_store (t := 5) (p := 16) rfl ?_); refine store_event (t := 5) (p := 16) (v := ?vo_w14) (w1 := (w11.setCell ⟨go9, (x4_1 : Int).toNat, none⟩ (.int .u8 1))) ?hg ?ho ?hn ?hr ?_; (case ho => rfl); (case hg => rfl); (case hn => rfl); (case hr => first | (go_simp; done) | (go_simp; rfl)); intro w14 hw; have hg : w11.grownBy w14 (some go9) := (by rw [hw]; exact HP13.2); have hp_ : Kd.R (Kd.int .u8) 5 w14 w.heap.size (fun _ => True) (.slice (some ⟨go9, 0, none⟩) y104.length co9) y107 := (by rw [hw, Ny107.out]; exact HP13.1); clear HP13; have n0_ := Aside0.mk (Kd.S_after (v := (.slice (some ⟨go9, 0, none⟩) y104.length co9)) (v1 := (.slice (some ⟨go9, 0, none⟩) y104.length co9)) (ok := (fun _ => True)) (by (with_reducible repeat (first | apply Kd.S_alloc | apply Kd.S_drewN | apply Kd.S_drew)); exact HO_3.out) hg (.inl rfl)); have n1_ := Aside0.mk (hp_); have n2_ := Aside0.mk ((by rw [hw]; exact below_set (HB.out) GB9.out : Below w.heap.size w w14)); clear HO_3; clear HO106; clear HB; have HO_3 := n0_; have HO106 := n1_; have HB := n2_; clear n0_ n1_ n2_; clear hg hw hp_) | ((with_reducible refine gate_builtin (b := .append) (xs := #[.tmp 17, .tmp 19]) rfl ?_); at_builtin; refine Kd.S_append (Kd.slice 5 (Kd.int .u8)) (w0 := w) w.heap.size rfl (.tmp 17) (.tmp 19) 51 22 (.slice none 0 0) 24 rfl Try.underlying51 info22 rfl (by decide) (by omega) u3 x3_1 y107 [.slice (some ⟨go9, 0, none⟩) y104.length co9] (fun _ => True) (fun k_ => some k_ = (.slice (some ⟨go9, 0, none⟩) y104.length co9 : Value).ownBlock) rfl rfl ?aP (fun k_ hk_ => ((Kd.R_mono (ok' := fun k_ => ((fun _ => True)) k_ ∧ some k_ ≠ (u3 : Value).ownBlock) (Kd.R_apart' (HO106.out) (Kd.S_typed HO_3.out) (by decide)) (fun k_ hk => ⟨trivial, hk.2⟩))).1 k_ hk_.symm) ?aF ?aO ?aB ?aS ?aL ?_; (case aP => exact Kd.M_row (Kd.R_mono (Kd.R_tight rfl (Kd.R_mono (ok' := fun k_ => ((fun _ => True)) k_ ∧ some k_ ≠ (u3 : Value).ownBlock) (Kd.R_apart' (HO106.out) (Kd.S_typed HO_3.out) (by decide)) (fun k_ hk => ⟨trivial, hk.2⟩))) (fun _ h_ => h_))); (case aB => exact (by repeat (first | (with_reducible first | exact HB.out | apply below_alloc | apply pw_below_drewN | apply below_drew1) | exact HB.out))); (case aF => exact (fun _ _ => trivial)); (case aO => exact (by (with_reducible repeat (first | apply Kd.S_alloc | apply Kd.S_drewN | apply Kd.S_drew)); exact Kd.S_mono HO_3.out (fun k_ hk => ⟨trivial, fun e_ => hk.2 e_⟩))); (case aS => exact (below_size (by repeat (first | (with_reducible first | exact HB.out | apply below_alloc | apply pw_below_drewN | apply below_drew1) | exact HB.out)))); (case aL => have := LMc10.out; omega); intro v109 w15 ho hb hg hat; rw [← Ny108.out] at ho; have n0_ := Aside0.mk (hb); have n1_ := Aside0.mk (ho); clear HB; clear HO_3; clear HO106; have HB := n0_; have HO110 := n1_; clear n0_ n1_; clear ho hb hg hat))
                  go_roundg k1
                  case measure => have := HK1.out; omega
                  case rel => exact ⟨(y108), (wrap64 (x4_1 + 1)), (by first | rfl | (simp; done) | (simp [*]; done)), H', ⟨by have := HK1.out; omega⟩, ⟨by (with_reducible repeat (first | apply Kd.S_alloc | apply Kd.S_drewN | apply Kd.S_drew)); exact HO110.out⟩, ⟨by repeat (first | (with_reducible first | exact HB.out | apply below_alloc | apply pw_below_drewN | apply below_drew1) | exact HB.out)⟩⟩
                · rw [if_neg c10] at H
                  exact absurd H (by simp)
              · rw [if_neg c8] at H
                exact absurd H (by simp)
            · rw [if_neg c7] at H
              exact absurd H (by simp)
          · rw [if_neg c6] at H
            exact absurd H (by simp)
        · rw [if_neg c5] at H
          exact absurd H (by simp)
      · rw [if_neg c4] at H
        have c4b0 : decide (x4_1 < a0) = false := decide_eq_false c4
        clear c4
        obtain rfl := Option.some.inj H
        go_wp2
        go_ret
        exact ⟨_, by first | rfl | (simp [errW_none, errW_some] <;> rfl) | (simp [*, errW_none, errW_some] <;> rfl), by (with_reducible repeat (first | apply Kd.S_alloc | apply Kd.S_drewN | apply Kd.S_drew)); exact HO_3.out, by repeat (first | (with_reducible first | exact HB.out | apply below_alloc | apply pw_below_drewN | apply below_drew1) | exact HB.out)⟩

end Go.Proofs.Ytbogmlckbkogiaa.P

/- What the program's and the reference's matrix functions come to, over bytes. Conditions: told at each. -/
namespace Go.Proofs.Ytbogmlckbkogiaa.Red
open Go.RowKit Go.Proofs.YtbogmlckbkogiaaW.PrintWords Go.Proofs.Ytbogmlckbkogiaa.Leaf Go.Proofs.Ytbogmlckbkogiaa.Gf Go.Proofs.Ytbogmlckbkogiaa.H Go.Proofs.Ytbogmlckbkogiaa.Mx Go.Proofs.Ytbogmlckbkogiaa.P
set_option linter.unusedVariables false
def oM (A : Mat) : List (List Int) := A.map ofL
theorem oM_length (A : Mat) : (oM A).length = A.length := List.length_map _
theorem rd_oM (A : Mat) (i : Nat) : rd_L1 (oM A) (i : Int) = ofL (row A i) := map_getD A i
theorem rd_oM0 (A : Mat) : rd_L1 (oM A) 0 = ofL (row A 0) := map_getD A 0
theorem oM_inj {A C : Mat} (h : oM A = oM C) : A = C := by
  have hl : A.length = C.length := by rw [← oM_length A, h, oM_length]
  refine List.ext_getElem hl fun i h1 h2 => ?_
  have h3 : (oM A)[i]? = (oM C)[i]? := by rw [h]
  unfold oM at h3
  rw [List.getElem?_map, List.getElem?_map, List.getElem?_eq_getElem h1, List.getElem?_eq_getElem h2] at h3
  exact ofL_inj (Option.some.inj h3)
theorem oM_set (A : Mat) (i : Nat) (r : List B) : (oM A).set i (ofL r) = oM (A.set i r) := map_set A i r
theorem oM_append (A C : Mat) : oM A ++ oM C = oM (A ++ C) := by unfold oM; rw [List.map_append]
theorem oM_one (r : List B) : [ofL r] = oM [r] := rfl
/-- May a matrix be? -/
def mayB (A : Mat) : Bool := decide (0 < A.length) && decide (A.length ≤ 255) && decide (0 < (row A 0).length) && decide ((row A 0).length ≤ 255) && (List.range A.length).all fun i => (row A i).length == (row A 0).length
theorem mayB_iff (A : Mat) : mayB A = true ↔ 0 < A.length ∧ A.length ≤ 255 ∧ 0 < (row A 0).length ∧ (row A 0).length ≤ 255 ∧ ∀ i, i < A.length → (row A i).length = (row A 0).length := by
  unfold mayB
  simp only [Bool.and_eq_true, decide_eq_true_eq, List.all_eq_true, List.mem_range, beq_iff_eq]
  exact ⟨fun ⟨⟨⟨⟨a, b⟩, c⟩, d⟩, e⟩ => ⟨a, b, c, d, e⟩, fun ⟨a, b, c, d, e⟩ => ⟨⟨⟨⟨a, b⟩, c⟩, d⟩, e⟩⟩
theorem mayB_reg {A : Mat} (h : mayB A = true) : Reg A A.length (row A 0).length ∧ 0 < A.length ∧ A.length ≤ 255 ∧ 0 < (row A 0).length ∧ (row A 0).length ≤ 255 := by
  obtain ⟨a, b, c, d, e⟩ := (mayB_iff A).1 h
  exact ⟨⟨rfl, e⟩, a, b, c, d⟩
theorem mayB_of {A : Mat} {n m : Nat} (h : Reg A n m) (h1 : 0 < n) (h2 : n ≤ 255) (h3 : 0 < m) (h4 : m ≤ 255) : mayB A = true := by
  rw [mayB_iff, h.1, h.2 0 h1]
  exact ⟨h1, h2, h3, h4, fun i hi => h.2 i hi⟩
/-! ### Check, May -/
theorem chk_ok (A : Mat) (hs : A.length ≤ 9223372036854775807) (h : ∀ j, j < A.length → (row A j).length = (row A 0).length) (n : Nat) : ∀ i : Nat, i + n = A.length → Ev (fun k => matrix_Check.l0 k (oM A) (oM A) (A.length : Int) (i : Int)) 0 := by
  induction n with
  | zero =>
    intro i hi
    refine Ev.step (f := fun _ => some 0) (fun k => ?_) (Ev.now _)
    simp only [matrix_Check.l0]
    rw [if_neg (by omega)]
  | succ n ih =>
    intro i hi
    refine Ev.step (f := fun k => matrix_Check.l0 k (oM A) (oM A) (A.length : Int) ((i + 1 : Nat) : Int)) (fun k => ?_) (ih (i + 1) (by omega))
    simp only [matrix_Check.l0, oM_length, rd_oM, rd_oM0, ofL_length]
    rw [if_pos (by omega), if_pos (by omega), if_pos (by omega), if_pos (by omega), if_pos (by rw [h i (by omega)]), w64 _ (by omega) (by omega)]
    rfl
theorem chk_bad (A : Mat) (hs : A.length ≤ 9223372036854775807) (j : Nat) (hj : j < A.length) (hne : (row A j).length ≠ (row A 0).length) (n : Nat) : ∀ i : Nat, i + n = j → Ev (fun k => matrix_Check.l0 k (oM A) (oM A) (A.length : Int) (i : Int)) 1 := by
  induction n with
  | zero =>
    intro i hi
    refine Ev.step (f := fun _ => some 1) (fun k => ?_) (Ev.now _)
    simp only [matrix_Check.l0, oM_length, rd_oM, rd_oM0, ofL_length]
    rw [if_pos (by omega), if_pos (by omega), if_pos (by omega), if_pos (by omega), if_neg (by rw [show i = j by omega]; omega)]
  | succ n ih =>
    intro i hi
    by_cases he : (row A i).length = (row A 0).length
    · refine Ev.step (f := fun k => matrix_Check.l0 k (oM A) (oM A) (A.length : Int) ((i + 1 : Nat) : Int)) (fun k => ?_) (ih (i + 1) (by omega))
      simp only [matrix_Check.l0, oM_length, rd_oM, rd_oM0, ofL_length]
      rw [if_pos (by omega), if_pos (by omega), if_pos (by omega), if_pos (by omega), if_pos (by rw [he]), w64 _ (by omega) (by omega)]
      rfl
    · refine Ev.step (f := fun _ => some 1) (fun k => ?_) (Ev.now _)
      simp only [matrix_Check.l0, oM_length, rd_oM, rd_oM0, ofL_length]
      rw [if_pos (by omega), if_pos (by omega), if_pos (by omega), if_pos (by omega), if_neg (by omega)]
theorem uneven {A : Mat} (h : ¬ ∀ j, j < A.length → (row A j).length = (row A 0).length) : ∃ j, j < A.length ∧ (row A j).length ≠ (row A 0).length := by
  apply Classical.byContradiction
  intro hn
  exact h fun j hj => Classical.byContradiction fun he => hn ⟨j, hj, he⟩
theorem not_may {A : Mat} (h : ¬ (0 < A.length ∧ A.length ≤ 255 ∧ 0 < (row A 0).length ∧ (row A 0).length ≤ 255 ∧ ∀ i, i < A.length → (row A i).length = (row A 0).length)) : mayB A = false := by
  rw [← Bool.not_eq_true, mayB_iff]; exact h
theorem evCheck (A : Mat) (hs : A.length ≤ 9223372036854775807) : Ev (fun k => matrix_Check.f k (oM A)) (if mayB A = true then 0 else 1) := by
  have j1 : Ev (fun k => matrix_Check.j0 k (oM A) true) 1 := Ev.step (f := fun _ => some 1) (fun k => by simp only [matrix_Check.j0, if_true]) (Ev.now _)
  unfold matrix_Check.f
  simp only [oM_length, rd_oM0, ofL_length]
  by_cases h1 : A.length = 0
  · rw [not_may (by omega)]
    simp only [show ((A.length : Int) = 0) = True from eq_true (by omega), if_true, Bool.false_eq_true, if_false]
    exact j1
  · simp only [show ((A.length : Int) = 0) = False from eq_false (by omega), if_false]
    by_cases h2 : A.length > 255
    · rw [not_may (by omega)]
      simp only [show ((A.length : Int) > 255) = True from eq_true (by omega), if_true, Bool.false_eq_true, if_false]
      exact j1
    · simp only [show ((A.length : Int) > 255) = False from eq_false (by omega), if_false, show ((0 : Int) < (A.length : Int)) = True from eq_true (by omega), if_true]
      by_cases h3 : (row A 0).length = 0
      · rw [not_may (by omega)]
        simp only [show (((row A 0).length : Int) = 0) = True from eq_true (by omega), if_true, Bool.false_eq_true, if_false]
        exact j1
      · simp only [show (((row A 0).length : Int) = 0) = False from eq_false (by omega), if_false]
        by_cases h4 : (row A 0).length > 255
        · rw [not_may (by omega)]
          simp only [show decide (((row A 0).length : Int) > 255) = true from decide_eq_true (by omega), Bool.false_eq_true, if_false]
          exact j1
        · simp only [show decide (((row A 0).length : Int) > 255) = false from decide_eq_false (by omega)]
          by_cases h5 : ∀ j, j < A.length → (row A j).length = (row A 0).length
          · rw [show mayB A = true from (mayB_iff A).2 ⟨by omega, by omega, by omega, by omega, h5⟩, if_pos rfl]
            refine Ev.step (f := fun k => matrix_Check.l0 k (oM A) (oM A) (A.length : Int) ((0 : Nat) : Int)) (fun k => ?_) (chk_ok A hs h5 A.length 0 (by omega))
            simp only [matrix_Check.j0, Bool.false_eq_true, if_false, oM_length]
            rfl
          · obtain ⟨j, hj, hne⟩ := uneven h5
            rw [not_may (fun h => h5 h.2.2.2.2)]
            simp only [Bool.false_eq_true, if_false]
            refine Ev.step (f := fun k => matrix_Check.l0 k (oM A) (oM A) (A.length : Int) ((0 : Nat) : Int)) (fun k => ?_) (chk_bad A hs j hj hne j 0 (by omega))
            simp only [matrix_Check.j0, Bool.false_eq_true, if_false, oM_length]
            rfl
theorem may_ok (A : Mat) (hs : A.length ≤ 9223372036854775807) (h0 : 0 < (row A 0).length) (h1 : (row A 0).length ≤ 255) (h : ∀ j, j < A.length → (row A j).length = (row A 0).length) (n : Nat) : ∀ i : Nat, i + n = A.length → Ev (fun k => mooringref02_May.l0 k (oM A) (i : Int)) true := by
  induction n with
  | zero =>
    intro i hi
    refine Ev.step (f := fun _ => some true) (fun k => ?_) (Ev.now _)
    simp only [mooringref02_May.l0, oM_length]
    rw [if_neg (by omega)]
  | succ n ih =>
    intro i hi
    have hi' := h i (by omega)
    refine Ev.step (f := fun k => mooringref02_May.l0 k (oM A) ((i + 1 : Nat) : Int)) (fun k => ?_) (ih (i + 1) (by omega))
    simp only [mooringref02_May.l0, oM_length, rd_oM, rd_oM0, ofL_length]
    rw [if_pos (by omega), if_pos (by omega), if_neg (by omega), if_neg (by omega), if_pos (by omega), if_pos (by omega), w64 _ (by omega) (by omega)]
    rfl
theorem may_bad (A : Mat) (hs : A.length ≤ 9223372036854775807) (j : Nat) (hj : j < A.length) (hne : (row A j).length < 1 ∨ (row A j).length > 255 ∨ (row A j).length ≠ (row A 0).length) (n : Nat) : ∀ i : Nat, i + n = j → Ev (fun k => mooringref02_May.l0 k (oM A) (i : Int)) false := by
  induction n with
  | zero =>
    intro i hi
    obtain rfl : i = j := by omega
    refine Ev.step (f := fun _ => some false) (fun k => ?_) (Ev.now _)
    simp only [mooringref02_May.l0, oM_length, rd_oM, rd_oM0, ofL_length]
    rw [if_pos (by omega), if_pos (by omega)]
    by_cases h1 : (row A i).length < 1
    · rw [if_pos (by omega)]
    · rw [if_neg (by omega)]
      by_cases h2 : (row A i).length > 255
      · rw [if_pos (by omega)]
      · rw [if_neg (by omega), if_pos (by omega), if_neg (by omega)]
  | succ n ih =>
    intro i hi
    by_cases he : (row A i).length < 1 ∨ (row A i).length > 255 ∨ (row A i).length ≠ (row A 0).length
    · refine Ev.step (f := fun _ => some false) (fun k => ?_) (Ev.now _)
      simp only [mooringref02_May.l0, oM_length, rd_oM, rd_oM0, ofL_length]
      rw [if_pos (by omega), if_pos (by omega)]
      by_cases h1 : (row A i).length < 1
      · rw [if_pos (by omega)]
      · rw [if_neg (by omega)]
        by_cases h2 : (row A i).length > 255
        · rw [if_pos (by omega)]
        · rw [if_neg (by omega), if_pos (by omega), if_neg (by omega)]
    · refine Ev.step (f := fun k => mooringref02_May.l0 k (oM A) ((i + 1 : Nat) : Int)) (fun k => ?_) (ih (i + 1) (by omega))
      simp only [mooringref02_May.l0, oM_length, rd_oM, rd_oM0, ofL_length]
      rw [if_pos (by omega), if_pos (by omega), if_neg (by omega), if_neg (by omega), if_pos (by omega), if_pos (by omega), w64 _ (by omega) (by omega)]
      rfl
theorem evMay (A : Mat) (hs : A.length ≤ 9223372036854775807) : Ev (fun k => mooringref02_May.f k (oM A)) (mayB A) := by
  have j1 : Ev (fun k => mooringref02_May.j0 k (oM A) true) false := Ev.step (f := fun _ => some false) (fun k => by simp only [mooringref02_May.j0, if_true]) (Ev.now _)
  have j2 : ∀ r, Ev (fun k => mooringref02_May.l0 k (oM A) ((0 : Nat) : Int)) r → Ev (fun k => mooringref02_May.j0 k (oM A) false) r := fun r h =>
    Ev.step (f := fun k => mooringref02_May.l0 k (oM A) ((0 : Nat) : Int)) (fun k => by simp only [mooringref02_May.j0, Bool.false_eq_true, if_false]; rfl) h
  unfold mooringref02_May.f
  simp only [oM_length]
  by_cases h1 : A.length < 1
  · rw [not_may (by omega)]
    simp only [show ((A.length : Int) < 1) = True from eq_true (by omega), if_true]
    exact j1
  · simp only [show ((A.length : Int) < 1) = False from eq_false (by omega), if_false]
    by_cases h2 : A.length > 255
    · rw [not_may (by omega)]
      simp only [show decide ((A.length : Int) > 255) = true from decide_eq_true (by omega)]
      exact j1
    · simp only [show decide ((A.length : Int) > 255) = false from decide_eq_false (by omega)]
      by_cases h3 : 0 < (row A 0).length ∧ (row A 0).length ≤ 255
      · by_cases h5 : ∀ j, j < A.length → (row A j).length = (row A 0).length
        · rw [show mayB A = true from (mayB_iff A).2 ⟨by omega, by omega, h3.1, h3.2, h5⟩]
          exact j2 _ (may_ok A hs h3.1 h3.2 h5 A.length 0 (by omega))
        · obtain ⟨j, hj, hne⟩ := uneven h5
          rw [not_may (fun h => h5 h.2.2.2.2)]
          exact j2 _ (may_bad A hs j hj (.inr (.inr hne)) j 0 (by omega))
      · rw [not_may (fun h => h3 ⟨h.2.2.1, h.2.2.2.1⟩)]
        exact j2 _ (may_bad A hs 0 (by omega) (by omega) 0 0 rfl)
/-! ### zeros, Identity, own -/
def zeroM (n m : Nat) : Mat := List.replicate n (List.replicate m 0#8)
theorem zeroM_reg (n m : Nat) : Reg (zeroM n m) n m := by
  refine ⟨List.length_replicate .., fun i hi => ?_⟩
  unfold row zeroM
  rw [List.getD_eq_getElem?_getD, List.getElem?_replicate, if_pos hi]
  simp
theorem el_zeroM {n m i j : Nat} (hi : i < n) (hj : j < m) : el (zeroM n m) i j = 0#8 := by
  unfold el row zeroM at0
  rw [List.getD_eq_getElem?_getD (l := List.replicate n _), List.getElem?_replicate, if_pos hi]
  rw [Option.getD_some, List.getD_eq_getElem?_getD, List.getElem?_replicate, if_pos hj]
  rfl
theorem zeros_l0 (n m : Nat) (hm : m ≤ 281474976710656) (hn : n < 2 ^ 62) (d : Nat) : ∀ (i : Nat) (X : List (List Int)), i + d = n → X.length = n → (∀ j, j < i → X.getD j [] = List.replicate m 0) → Ev (fun k => matrix_zeros.l0 k (m : Int) X (n : Int) (i : Int)) (List.replicate n (List.replicate m 0)) := by
  induction d with
  | zero =>
    intro i X hi hl h
    refine Ev.step (f := fun _ => some X) (fun k => ?_) ?_
    · simp only [matrix_zeros.l0]
      rw [if_neg (by omega)]
    · rw [show List.replicate n (List.replicate m (0 : Int)) = X from List.ext_getElem (by rw [List.length_replicate, hl]) fun j h1 h2 => by
        have h3 := h j (by omega)
        rw [List.getD_eq_getElem?_getD, List.getElem?_eq_getElem h2] at h3
        rw [List.getElem_replicate]
        exact h3.symm]
      exact Ev.now _
  | succ d ih =>
    intro i X hi hl h
    refine Ev.step (f := fun k => matrix_zeros.l0 k (m : Int) (X.set i (List.replicate m 0)) (n : Int) ((i + 1 : Nat) : Int)) (fun k => ?_) (ih (i + 1) _ (by omega) (by rw [List.length_set]; exact hl) (fun j hj => ?_))
    · simp only [matrix_zeros.l0, hl, Int.toNat_natCast]
      rw [if_pos (by omega), if_pos (by omega), if_pos hm, if_pos (by omega), if_pos (by omega), w64 _ (by omega) (by omega)]
      rfl
    · simp only [List.getD_eq_getElem?_getD, List.getElem?_set]
      by_cases e : i = j
      · subst e; rw [if_pos rfl, if_pos (by omega)]; rfl
      · rw [if_neg e]
        have := h j (by omega)
        rwa [List.getD_eq_getElem?_getD] at this
theorem evZeros (n m : Nat) (hm : m ≤ 281474976710656) (hn : n ≤ 11728124029610) : Ev (fun k => matrix_zeros.f k (n : Int) (m : Int)) (oM (zeroM n m)) := by
  unfold matrix_zeros.f
  simp only [show ((0 : Int) ≤ (n : Int)) = True from eq_true (by omega), if_true, Int.toNat_natCast, show (n ≤ 11728124029610) = True from eq_true hn, Option.bind_some, List.length_replicate]
  have e : oM (zeroM n m) = List.replicate n (List.replicate m 0) := by unfold oM zeroM; rw [List.map_replicate, ofL_replicate]
  rw [e]
  exact zeros_l0 n m hm (by omega) n 0 _ (by omega) (List.length_replicate ..) (fun j hj => by omega)
theorem set_one (r : List B) (i : Nat) : (ofL r).set i 1 = ofL (r.set i 1#8) := by rw [← ofB_one, ofL_set]
/-- The identity's rows, the first i of them done. -/
theorem id_l0 (n : Nat) (hn : n ≤ 255) (d : Nat) : ∀ i : Nat, i + d = n → Ev (fun k => matrix_Identity.l0 k (oM (matF n n (fun a b => if a < i then I a b else 0#8))) (n : Int) (i : Int)) (oM (idM n), 0) := by
  induction d with
  | zero =>
    intro i hi
    refine Ev.step (f := fun _ => some (oM (idM n), 0)) (fun k => ?_) (Ev.now _)
    simp only [matrix_Identity.l0]
    rw [if_neg (by omega), idM_eq, mat_ext (matF_reg n n _) (matF_reg n n I) (fun a b ha hb => by rw [el_matF _ ha hb, el_matF _ ha hb, if_pos (by omega)])]
  | succ d ih =>
    intro i hi
    have hr := (matF_reg n n (fun a b => if a < i then I a b else 0#8))
    have e : (matF n n (fun a b => if a < i then I a b else 0#8)).set i ((row (matF n n (fun a b => if a < i then I a b else 0#8)) i).set i 1#8) = matF n n (fun a b => if a < i + 1 then I a b else 0#8) := by
      refine mat_ext (hr.set (by omega) (by rw [List.length_set]; exact hr.2 i (by omega))) (matF_reg n n _) (fun a b ha hb => ?_)
      unfold el
      rw [row_set _ _ _ _ (by rw [hr.1]; omega)]
      show _ = el (matF n n _) a b
      rw [el_matF _ ha hb]
      by_cases e : a = i
      · subst e
        rw [if_pos rfl, at0_set _ _ _ _ (by rw [hr.2 a ha]; exact ha)]
        by_cases e2 : a = b
        · rw [if_pos e2, if_pos (by omega)]; unfold I; rw [if_pos e2]
        · rw [if_neg e2]
          show el (matF n n _) a b = _
          rw [el_matF _ ha hb, if_neg (by omega), if_pos (by omega)]
          unfold I; rw [if_neg e2]
      · rw [if_neg e]
        show el (matF n n _) a b = _
        rw [el_matF _ ha hb]
        by_cases e2 : a < i
        · rw [if_pos e2, if_pos (by omega)]
        · rw [if_neg e2, if_neg (by omega)]
    refine Ev.step (f := fun k => matrix_Identity.l0 k (oM (matF n n (fun a b => if a < i + 1 then I a b else 0#8))) (n : Int) ((i + 1 : Nat) : Int)) (fun k => ?_) (ih (i + 1) (by omega))
    simp only [matrix_Identity.l0, oM_length, rd_oM, ofL_length, hr.1, hr.2 i (by omega), Int.toNat_natCast]
    rw [if_pos (by omega), if_pos (by omega), if_pos (by omega), if_pos (by omega), set_one, oM_set, e, w64 _ (by omega) (by omega)]
    rfl
def idR (n : Int) : List (List Int) × Int := if 1 ≤ n ∧ n ≤ 255 then (oM (idM n.toNat), 0) else ([], 1)
theorem evIdentity (n : Int) : Ev (fun k => matrix_Identity.f k n) (idR n) := by
  unfold matrix_Identity.f idR
  have j1 : Ev (fun k => matrix_Identity.j0 k n true) ([], 1) := Ev.step (f := fun _ => some ([], 1)) (fun k => by simp only [matrix_Identity.j0, if_true]) (Ev.now _)
  by_cases h1 : n < 1
  · simp only [show (n < 1) = True from eq_true h1, if_true]
    rw [if_neg (by omega)]
    exact j1
  · simp only [show (n < 1) = False from eq_false h1, if_false]
    by_cases h2 : n > 255
    · simp only [show decide (n > 255) = true from decide_eq_true h2]
      rw [if_neg (by omega)]
      exact j1
    · simp only [show decide (n > 255) = false from decide_eq_false h2]
      rw [if_pos (by omega)]
      obtain ⟨m, rfl⟩ := Int.eq_ofNat_of_zero_le (show 0 ≤ n by omega)
      rw [Int.toNat_natCast]
      have hz : zeroM m m = matF m m (fun a b => if a < 0 then I a b else 0#8) := mat_ext (zeroM_reg m m) (matF_reg m m _) fun a b ha hb => by rw [el_zeroM ha hb, el_matF _ ha hb, if_neg (by omega)]
      refine Ev.step (f := fun k => (matrix_zeros.f k (m : Int) (m : Int)).bind fun t101 => matrix_Identity.l0 k t101 (t101.length : Int) 0) (fun k => by simp only [matrix_Identity.j0, Bool.false_eq_true, if_false]) ?_
      refine Ev.bind (evZeros m m (by omega) (by omega)) ?_
      rw [oM_length, (zeroM_reg m m).1, hz]
      exact id_l0 m (by omega) m 0 (by omega)
theorem refId_l0 (n : Nat) (hn : n ≤ 281474976710656) (hn2 : n < 5864062014805) (d : Nat) : ∀ i : Nat, i + d = n → Ev (fun k => mooringref02_Identity.l0 k (n : Int) (oM (matF i n I)) (i : Int)) (oM (idM n)) := by
  induction d with
  | zero =>
    intro i hi
    obtain rfl : i = n := by omega
    refine Ev.step (f := fun _ => some (oM (matF i i I))) (fun k => ?_) (Ev.now _)
    simp only [mooringref02_Identity.l0]
    rw [if_neg (by omega)]
  | succ d ih =>
    intro i hi
    refine Ev.step (f := fun k => mooringref02_Identity.l0 k (n : Int) (oM (matF (i + 1) n I)) ((i + 1 : Nat) : Int)) (fun k => ?_) (ih (i + 1) (by omega))
    simp only [mooringref02_Identity.l0, Int.toNat_natCast, Option.bind_some, List.length_replicate, oM_length, (matF_reg i n I).1]
    have e : (List.replicate n (0 : Int)).set i 1 = ofL ((List.range n).map (I i)) := by
      rw [ofL_replicate, ← ofB_one, ofL_set]
      congr 1
      refine ext0 (by simp) fun j hj => ?_
      simp only [List.length_set, List.length_replicate] at hj
      rw [at0_set _ _ _ _ (by rw [List.length_replicate]; omega), at0_map _ _ _ hj]
      unfold I
      by_cases e : i = j
      · rw [if_pos e, if_pos e]
      · rw [if_neg e, if_neg e]
        unfold at0
        simp [List.getD_eq_getElem?_getD, hj]
    rw [if_pos (by omega), if_pos (by omega), if_pos hn, if_pos (by omega), if_pos (by omega), if_pos (by omega), e, oM_one, oM_append, w64 _ (by omega) (by omega)]
    have e2 : matF i n I ++ [(List.range n).map (I i)] = matF (i + 1) n I := by unfold matF; rw [List.range_succ, List.map_append]; rfl
    rw [e2]
    rfl
theorem evRefIdentity (n : Nat) (hn : n < 5864062014805) : Ev (fun k => mooringref02_Identity.f k (n : Int)) (oM (idM n)) := by
  unfold mooringref02_Identity.f
  exact refId_l0 n (by omega) hn n 0 (by omega)
theorem evRefIdentity_neg (n : Int) (hn : n ≤ 0) : Ev (fun k => mooringref02_Identity.f k n) [] := by
  unfold mooringref02_Identity.f
  refine Ev.step (f := fun _ => some []) (fun k => ?_) (Ev.now _)
  simp only [mooringref02_Identity.l0]
  rw [if_neg (by omega)]
theorem own_l0 (A : Mat) (hs : A.length < 2 ^ 62) (hr : ∀ i, i < A.length → (row A i).length < 140737488355328) (d : Nat) : ∀ (i : Nat) (X : Mat), i + d = A.length → X.length = A.length → (∀ j, j < i → row X j = row A j) → Ev (fun k => matrix_own.l0 k (oM X) (oM A) (A.length : Int) (i : Int)) (oM A) := by
  induction d with
  | zero =>
    intro i X hi hl h
    refine Ev.step (f := fun _ => some (oM X)) (fun k => ?_) ?_
    · simp only [matrix_own.l0]
      rw [if_neg (by omega)]
    · rw [show A = X from List.ext_getElem hl.symm fun j h1 h2 => by
        have h3 := h j (by omega)
        unfold row at h3
        rw [List.getD_eq_getElem?_getD, List.getElem?_eq_getElem h2, List.getD_eq_getElem?_getD, List.getElem?_eq_getElem h1] at h3
        exact h3.symm]
      exact Ev.now _
  | succ d ih =>
    intro i X hi hl h
    refine Ev.step (f := fun k => matrix_own.l0 k (oM (X.set i (row A i))) (oM A) (A.length : Int) ((i + 1 : Nat) : Int)) (fun k => ?_) (ih (i + 1) _ (by omega) (by rw [List.length_set]; exact hl) (fun j hj => ?_))
    · simp only [matrix_own.l0, oM_length, rd_oM, slices_Clone_byte_byte.f, ofL_length, Int.toNat_natCast]
      rw [if_pos (by omega), if_pos (by omega), if_pos (by omega), if_pos (hr i (by omega)), Option.bind_some, if_pos (by omega), oM_set, w64 _ (by omega) (by omega)]
      rfl
    · rw [row_set _ _ _ _ (by omega)]
      by_cases e : j = i
      · rw [if_pos e, e]
      · rw [if_neg e]; exact h j (by omega)
theorem evOwn (A : Mat) (hs : A.length ≤ 11728124029610) (hr : ∀ i, i < A.length → (row A i).length < 140737488355328) : Ev (fun k => matrix_own.f k (oM A)) (oM A) := by
  unfold matrix_own.f
  simp only [oM_length, Int.toNat_natCast, show ((0 : Int) ≤ (A.length : Int)) = True from eq_true (by omega), if_true, show (A.length ≤ 11728124029610) = True from eq_true hs]
  have e : List.replicate A.length ([] : List Int) = oM (List.replicate A.length []) := by unfold oM; rw [List.map_replicate]; rfl
  rw [e]
  exact own_l0 A (by omega) hr A.length 0 _ (by omega) (List.length_replicate ..) (fun j hj => by omega)
end Go.Proofs.Ytbogmlckbkogiaa.Red

/- matrix.Inverse and matrix.Rank, by their contracts. Conditions: lists of bytes. -/
namespace Go.Proofs.Ytbogmlckbkogiaa.H
open Go.RowKit Go.Proofs.YtbogmlckbkogiaaW.PrintWords Go.Proofs.YtbogmlckbkogiaaW.PrintLast Go.Proofs.Ytbogmlckbkogiaa.Leaf Go.Proofs.Ytbogmlckbkogiaa.Gf Go.Proofs.Ytbogmlckbkogiaa.Red Go.Proofs.Ytbogmlckbkogiaa.P
set_option linter.unusedVariables false
set_option linter.unusedSimpArgs false
def byteRow (l : List Int) : Bool := l.all fun x => decide (0 ≤ x) && decide (x < 256)
def unM (l : List (List Int)) : Mat := l.map fun r => r.map toB
theorem byteRow_ofL (L : List B) : byteRow (ofL L) = true := by
  unfold byteRow ofL
  simp only [List.all_map, List.all_eq_true, Function.comp, Bool.and_eq_true, decide_eq_true_eq]
  exact fun x _ => ofB_range x
theorem ofL_toB (l : List Int) (h : byteRow l = true) : ofL (l.map toB) = l := by
  unfold ofL
  rw [List.map_map]
  refine (List.map_congr_left fun x hx => ?_).trans (List.map_id' l)
  have := List.all_eq_true.1 h x hx
  simp only [Bool.and_eq_true, decide_eq_true_eq] at this
  exact ofB_toB x this.1 this.2
theorem unM_oM (A : Mat) : unM (oM A) = A := by
  unfold unM oM ofL
  rw [List.map_map]
  refine (List.map_congr_left fun x hx => ?_).trans (List.map_id' A)
  simp only [Function.comp, List.map_map]
  refine (List.map_congr_left fun y _ => ?_).trans (List.map_id' x)
  exact toB_ofB y
theorem bytes_oM (A : Mat) : (oM A).all byteRow = true := by
  unfold oM
  simp only [List.all_map, List.all_eq_true, Function.comp]
  exact fun x _ => byteRow_ofL x
theorem oM_unM (l : List (List Int)) (h : l.all byteRow = true) : oM (unM l) = l := by
  unfold unM oM
  rw [List.map_map]
  refine (List.map_congr_left fun x hx => ?_).trans (List.map_id' l)
  exact ofL_toB x (List.all_eq_true.1 h x hx)
/-- An inverse, if the matrix may be and has one. -/
def invR (A : Mat) : List (List Int) × Int :=
  if mayB A = true ∧ A.length = (row A 0).length then if (redF A.length 0 0 A (idM A.length)).1 < A.length then ([], 4) else (oM (redF A.length 0 0 A (idM A.length)).2.2, 0) else ([], 1)
def matrix_Inverse.f (l0 : List (List Int)) : Option (List (List Int) × Int) := if l0.all byteRow = true then some (invR (unM l0)) else none
def rankR (A : Mat) : Int × Int := if mayB A = true then (((redF (row A 0).length 0 0 A (zeroM A.length 1)).1 : Int), 0) else (0, 1)
def matrix_Rank.f (l0 : List (List Int)) : Option (Int × Int) := if l0.all byteRow = true then some (rankR (unM l0)) else none
theorem matrix_Inverse.f_oM (A : Mat) : matrix_Inverse.f (oM A) = some (invR A) := by unfold matrix_Inverse.f; rw [if_pos (bytes_oM A), unM_oM]
theorem matrix_Rank.f_oM (A : Mat) : matrix_Rank.f (oM A) = some (rankR A) := by unfold matrix_Rank.f; rw [if_pos (bytes_oM A), unM_oM]
theorem Mt.lower {w : World} {base base' g cp : Nat} {id cap : Nat → Nat} {A : List (List Int)} (h : Mt w base g cp id cap A) (hb : base' ≤ base) : Mt w base' g cp id cap A :=
  ⟨own_weaken h.outer hb, fun i hi => own_weaken (h.rows i hi) hb, h.inj⟩
/-- Two matrices made one behind the other. -/
theorem St.make {w1 w2 : World} {base n m p : Nat} {A Z : Mat} {va vz : Value} (hZ : Kd.S (Kd.slice 5 (Kd.int .u8)) 22 w1 base (fun _ => True) vz (oM Z)) (hb : Below w1.heap.size w1 w2) (hA : Kd.S (Kd.slice 5 (Kd.int .u8)) 22 w2 w1.heap.size (fun _ => True) va (oM A)) (hbase : base ≤ w1.heap.size)
    (rA : Reg A n m) (rZ : Reg Z n p) (hn : 0 < n) (hm : 0 < m) (hp : 0 < p) : ∃ ga ca gz cz, va = .slice (some ⟨ga, 0, none⟩) n ca ∧ vz = .slice (some ⟨gz, 0, none⟩) n cz ∧ St w2 base ga ca gz cz n m p A Z := by
  obtain ⟨ga, ca, ida, capa, e1, h1, _⟩ := Mt.of_S hA (by rw [oM_length, rA.1]; exact hn) (fun i hi => by rw [oM_length, rA.1] at hi; unfold oM; rw [map_getD, ofL_length, rA.2 i hi]; exact hm)
  obtain ⟨gz, cz, idz, capz, e2, h2, _⟩ := Mt.of_S hZ (by rw [oM_length, rZ.1]; exact hn) (fun i hi => by rw [oM_length, rZ.1] at hi; unfold oM; rw [map_getD, ofL_length, rZ.2 i hi]; exact hp)
  rw [oM_length, rA.1] at e1
  rw [oM_length, rZ.1] at e2
  refine ⟨ga, ca, gz, cz, e1, e2, ida, capa, idz, capz, h1.lower hbase, h2.below hb, fun i j hi hj e => ?_, fun e => ?_, rA, rZ⟩
  · have h3 := (h1.rows i (by rw [oM_length, rA.1]; exact hi)).base_
    have h4 := (h2.rows j (by rw [oM_length, rZ.1]; exact hj)).lt
    omega
  · have h3 := h1.gbase
    have h4 := h2.glt
    omega
theorem St.toS {w : World} {base ga ca gb cb n m p : Nat} {A Z : Mat} (h : St w base ga ca gb cb n m p A Z) : Kd.S (Kd.slice 5 (Kd.int .u8)) 22 w base (fun _ => True) (.slice (some ⟨gb, 0, none⟩) n cb) (oM Z) := by
  obtain ⟨a, b, c, d, h1, h2, h3, h4, h5, h6⟩ := h
  have := Kd.S_mono h2.to_S (ok' := fun _ => True) (fun _ _ => trivial)
  rw [show (Z.map ofL).length = n by rw [List.length_map, h6.1]] at this
  exact this
set_option maxHeartbeats 2000000 in
set_option maxRecDepth 100000 in
theorem matrix_Inverse.calls (A0 : Option Addr) (c0 : Nat) (l0 : List (List Int)) (r1 : List (List Int)) (r2 : Int) (w : World) (hr0 : Kd.C (Kd.slice 5 (Kd.int .u8)) w A0 l0.length l0) (hc0 : l0.length ≤ c0) (h : matrix_Inverse.f l0 = some (r1, r2)) :
    Calls Try.prog 52 #[.slice A0 l0.length c0] w fun e w' => ∃ v0_ : Value, e = .returned (.tuple #[v0_, .int .i64 r2]) ∧ Kd.S (Kd.slice 5 (Kd.int .u8)) 22 w' w.heap.size (fun _ => True) v0_ r1 ∧ Below w.heap.size w w' := by
  unfold matrix_Inverse.f at h
  by_cases hby : l0.all byteRow = true
  · rw [if_pos hby] at h
    obtain ⟨A, rfl⟩ : ∃ A, l0 = oM A := ⟨unM l0, (oM_unM l0 hby).symm⟩
    rw [unM_oM] at h
    have hinv := Option.some.inj h
    clear h hby
    have hlen : A.length ≤ 9223372036854775807 := by have := hr0.2.1; rwa [oM_length] at this
    have hchk : Aside0 (Calls Try.prog 65 #[.slice A0 A.length c0] w fun e w' => e = .returned (.int .i64 (if mayB A = true then 0 else 1)) ∧ Drawn0 w w') := ⟨by
      obtain ⟨k, hk⟩ := (evCheck A hlen).rounds
      have := matrix_Check.calls k A0 c0 (oM A) _ w hr0 hc0 hk
      rwa [oM_length] at this⟩
    rw [oM_length]
    rw [oM_length] at hc0
    unfold invR at hinv
    by_cases hm : mayB A = true
    · rw [hm] at hchk
      obtain ⟨hreg, p1, p2, p3, p4⟩ := mayB_reg hm
      obtain ⟨As, cs, hcell, hrows⟩ := rows_vals hr0
      obtain ⟨ad, rfl, hce⟩ := hcell (by rw [oM_length]; exact p1)
      have hz : w.cell? ad = some (.slice (As 0) (row A 0).length (cs 0)) := by
        have := hce 0 (by rw [oM_length]; exact p1)
        rw [Addr.add_zero'] at this
        unfold oM at this
        rw [map_getD, ofL_length] at this
        exact this
      have hn0 : (0 : Int) < (A.length : Int) := by omega
      clear hce hrows hcell
      by_cases hsq : A.length = (row A 0).length
      · rw [if_pos ⟨hm, hsq⟩] at hinv
        have hsq2 : Reg A A.length A.length := by have := hreg; rw [← hsq] at this; exact this
        have hid : Aside0 (∀ W, Calls Try.prog 68 #[.int .i64 (A.length : Int)] W fun e w' => ∃ v, e = .returned (.tuple #[v, .int .i64 0]) ∧ Kd.S (Kd.slice 5 (Kd.int .u8)) 22 w' W.heap.size (fun _ => True) v (oM (idM A.length)) ∧ Below W.heap.size W w') := ⟨fun W => by
          obtain ⟨k, hk⟩ := (evIdentity (A.length : Int)).rounds
          unfold idR at hk
          rw [if_pos (by omega), Int.toNat_natCast] at hk
          exact matrix_Identity.calls k _ _ _ W hk⟩
        have hown : Aside0 (∀ W, Below w.heap.size w W → Calls Try.prog 91 #[.slice (some ad) A.length c0] W fun e w' => ∃ v, e = .returned v ∧ Kd.S (Kd.slice 5 (Kd.int .u8)) 22 w' W.heap.size (fun _ => True) v (oM A) ∧ Below W.heap.size W w') := ⟨fun W hW => by
          obtain ⟨k, hk⟩ := (evOwn A (by omega) (fun i hi => by rw [hreg.2 i hi]; omega)).rounds
          have := matrix_own.calls k _ c0 (oM A) _ W (Kd.C_below hr0 hW) (by rw [oM_length]; exact hc0) hk
          rwa [oM_length] at this⟩
        have t1 : ((A.length : Int) != ((row A 0).length : Int)) = false := by simp [hsq]
        have t2 : (A.length == (row A 0).length) = true := by simp [← hsq]
        have t3 : (A.length != (row A 0).length) = false := by simp [← hsq]
        have HR := Aside0.mk hinv
        have HG := Aside0.mk hsq2
        have HP := Aside0.mk (show 0 < A.length ∧ A.length ≤ 255 from ⟨p1, p2⟩)
        have HSQ := Aside0.mk hsq
        clear hinv hsq2 hsq hm hreg p3 p4 hr0
        go_enter Try.func52, Try.ntmps52
        go_wp2_with fail
        refine hchk.out.mono ?_
        rintro e w' ⟨rfl, ⟨nq, rfl⟩⟩
        clear hchk
        go_wp2_with fail
        refine (hid.out _).mono ?_
        rintro e w1 ⟨vz, rfl, hSz, hb1⟩
        have hbz : Below w.heap.size w w1 := below_step (pw_below_drewN (Below.refl _ _) nq) hb1
        have HZ : Aside0 (Kd.S (Kd.slice 5 (Kd.int .u8)) 22 w1 w.heap.size (fun _ => True) vz (oM (idM A.length))) := ⟨hSz⟩
        have HB1 := Aside0.mk hbz
        clear hid hSz hbz hb1
        go_wp2_with fail
        refine (hown.out _ HB1.out).mono ?_
        rintro e w2 ⟨va, rfl, hSa, hb2⟩
        obtain ⟨ga, ca, gz, cz, rfl, rfl, hSt⟩ := St.make HZ.out hb2 hSa (below_size HB1.out) HG.out (matF_reg _ _ _) HP.out.1 HP.out.1 HP.out.1
        have hb3 := below_step HB1.out hb2
        have hred := reduce_calls w2 w.heap.size ga ca gz cz A.length A.length A.length A (idM A.length) hSt HP.out.1 HP.out.1 HP.out.1 HP.out.2 HP.out.2 HP.out.2 (below_size hb3)
        have HRED := Aside0.mk hred
        have HB3 := Aside0.mk hb3
        clear hred hb3 hSt hSa hb2 HZ HB1 hown
        have hle := redF_le HP.out.1 HG.out (matF_reg A.length A.length Mx.I)
        rw [← idM_eq] at hle
        generalize redF A.length 0 0 A (idM A.length) = R at *
        obtain ⟨cnt, Ra, Rz⟩ := R
        simp only at HR HRED hle
        by_cases hlt : cnt < A.length
        · have HR2 : Aside0 (([], (4 : Int)) = (r1, r2)) := ⟨by have := HR.out; rw [if_pos hlt] at this; exact this⟩
          have u1 : decide ((cnt : Int) < (A.length : Int)) = true := decide_eq_true (by omega)
          have u2 : decide (cnt < A.length) = true := decide_eq_true hlt
          clear HR hlt hle
          go_wp2_with fail
          refine HRED.out.mono ?_
          rintro e w4 ⟨rfl, hst4, hb4⟩
          have HB4 := Aside0.mk (show Below w.heap.size w w4 from HB3.out.trans hb4)
          clear hst4 hb4 HRED
          go_wp2
          go_ret2
          obtain ⟨rfl, rfl⟩ := Prod.mk.inj HR2.out
          exact ⟨_, rfl, Kd.S_nil _ _ _ _ _, HB4.out⟩
        · have HR2 : Aside0 ((oM Rz, (0 : Int)) = (r1, r2)) := ⟨by have := HR.out; rw [if_neg hlt] at this; exact this⟩
          have u1 : decide ((cnt : Int) < (A.length : Int)) = false := decide_eq_false (by omega)
          have u2 : decide (cnt < A.length) = false := decide_eq_false hlt
          clear HR hlt hle
          go_wp2_with fail
          refine HRED.out.mono ?_
          rintro e w4 ⟨rfl, hst4, hb4⟩
          have HB4 := Aside0.mk (show Below w.heap.size w w4 from HB3.out.trans hb4)
          have HS4 := Aside0.mk hst4.toS
          clear hst4 hb4 HRED
          go_wp2
          go_ret2
          obtain ⟨rfl, rfl⟩ := Prod.mk.inj HR2.out
          exact ⟨_, rfl, HS4.out, HB4.out⟩
      · rw [if_neg (fun h => hsq h.2)] at hinv
        obtain ⟨rfl, rfl⟩ := Prod.mk.inj hinv
        have t1 : ((A.length : Int) != ((row A 0).length : Int)) = true := by simp; omega
        have t2 : (A.length == (row A 0).length) = false := by simp [hsq]
        have t3 : (A.length != (row A 0).length) = true := by simp [hsq]
        clear hinv hsq hm hreg hr0
        go_enter Try.func52, Try.ntmps52
        go_wp2_with fail
        refine hchk.out.mono ?_
        rintro e w' ⟨rfl, ⟨nq, rfl⟩⟩
        clear hchk
        go_wp2
        go_ret2
        exact ⟨_, rfl, Kd.S_nil _ _ _ _ _, pw_below_drewN (Below.refl _ _) nq⟩
    · rw [if_neg (fun h => hm h.1)] at hinv
      rw [if_neg hm] at hchk
      obtain ⟨rfl, rfl⟩ := Prod.mk.inj hinv
      clear hinv hm hr0
      go_enter Try.func52, Try.ntmps52
      go_wp2_with fail
      refine hchk.out.mono ?_
      rintro e w' ⟨rfl, ⟨nq, rfl⟩⟩
      clear hchk
      go_wp2
      go_ret2
      exact ⟨_, rfl, Kd.S_nil _ _ _ _ _, pw_below_drewN (Below.refl _ _) nq⟩
  · rw [if_neg hby] at h
    cases h
set_option maxHeartbeats 2000000 in
set_option maxRecDepth 100000 in
theorem matrix_Rank.calls (A0 : Option Addr) (c0 : Nat) (l0 : List (List Int)) (r1 : Int) (r2 : Int) (w : World) (hr0 : Kd.C (Kd.slice 5 (Kd.int .u8)) w A0 l0.length l0) (hc0 : l0.length ≤ c0) (h : matrix_Rank.f l0 = some (r1, r2)) :
    Calls Try.prog 70 #[.slice A0 l0.length c0] w fun e w' => e = .returned (.tuple #[.int .i64 r1, .int .i64 r2]) ∧ Below w.heap.size w w' := by
  unfold matrix_Rank.f at h
  by_cases hby : l0.all byteRow = true
  · rw [if_pos hby] at h
    obtain ⟨A, rfl⟩ : ∃ A, l0 = oM A := ⟨unM l0, (oM_unM l0 hby).symm⟩
    rw [unM_oM] at h
    have hinv := Option.some.inj h
    clear h hby
    have hlen : A.length ≤ 9223372036854775807 := by have := hr0.2.1; rwa [oM_length] at this
    have hchk : Aside0 (Calls Try.prog 65 #[.slice A0 A.length c0] w fun e w' => e = .returned (.int .i64 (if mayB A = true then 0 else 1)) ∧ Drawn0 w w') := ⟨by
      obtain ⟨k, hk⟩ := (evCheck A hlen).rounds
      have := matrix_Check.calls k A0 c0 (oM A) _ w hr0 hc0 hk
      rwa [oM_length] at this⟩
    rw [oM_length]
    rw [oM_length] at hc0
    unfold rankR at hinv
    by_cases hm : mayB A = true
    · rw [hm] at hchk
      rw [if_pos hm] at hinv
      obtain ⟨hreg, p1, p2, p3, p4⟩ := mayB_reg hm
      have hzs : Aside0 (∀ W, Calls Try.prog 94 #[.int .i64 (A.length : Int), .int .i64 1] W fun e w' => ∃ v, e = .returned v ∧ Kd.S (Kd.slice 5 (Kd.int .u8)) 22 w' W.heap.size (fun _ => True) v (oM (zeroM A.length 1)) ∧ Below W.heap.size W w') := ⟨fun W => by
        obtain ⟨k, hk⟩ := (evZeros A.length 1 (by omega) (by omega)).rounds
        exact matrix_zeros.calls k _ _ _ W hk⟩
      have hown : Aside0 (∀ W, Below w.heap.size w W → Calls Try.prog 91 #[.slice A0 A.length c0] W fun e w' => ∃ v, e = .returned v ∧ Kd.S (Kd.slice 5 (Kd.int .u8)) 22 w' W.heap.size (fun _ => True) v (oM A) ∧ Below W.heap.size W w') := ⟨fun W hW => by
        obtain ⟨k, hk⟩ := (evOwn A (by omega) (fun i hi => by rw [hreg.2 i hi]; omega)).rounds
        have := matrix_own.calls k _ c0 (oM A) _ W (Kd.C_below hr0 hW) (by rw [oM_length]; exact hc0) hk
        rwa [oM_length] at this⟩
      have HR := Aside0.mk hinv
      have HG := Aside0.mk hreg
      have HP := Aside0.mk (show 0 < A.length ∧ A.length ≤ 255 ∧ 0 < (row A 0).length ∧ (row A 0).length ≤ 255 from ⟨p1, p2, p3, p4⟩)
      clear hinv hm hreg p1 p2 p3 p4 hr0
      go_enter Try.func70, Try.ntmps70
      go_wp2_with fail
      refine hchk.out.mono ?_
      rintro e w' ⟨rfl, ⟨nq, rfl⟩⟩
      clear hchk
      go_wp2_with fail
      refine (hown.out _ (pw_below_drewN (Below.refl _ _) nq)).mono ?_
      rintro e w1 ⟨vz, rfl, hSz, hb1⟩
      have hbz : Below w.heap.size w w1 := below_step (pw_below_drewN (Below.refl _ _) nq) hb1
      have HZ : Aside0 (Kd.S (Kd.slice 5 (Kd.int .u8)) 22 w1 w.heap.size (fun _ => True) vz (oM A)) := ⟨hSz⟩
      have HB1 := Aside0.mk hbz
      clear hown hSz hbz hb1
      go_wp2_with fail
      refine (hzs.out _).mono ?_
      rintro e w2 ⟨va, rfl, hSa, hb2⟩
      obtain ⟨ga, ca, gz, cz, rfl, rfl, hSt⟩ := St.make HZ.out hb2 hSa (below_size HB1.out) (zeroM_reg A.length 1) HG.out HP.out.1 (by decide) HP.out.2.2.1
      have hb3 := below_step HB1.out hb2
      have hred := reduce_calls w2 w.heap.size gz cz ga ca A.length (row A 0).length 1 A (zeroM A.length 1) hSt.symm HP.out.1 HP.out.2.2.1 (by decide) (by decide) HP.out.2.1 HP.out.2.2.2 (below_size hb3)
      have HRED := Aside0.mk hred
      have HB3 := Aside0.mk hb3
      clear hred hb3 hSt hSa hb2 HZ HB1 hzs
      generalize redF (row A 0).length 0 0 A (zeroM A.length 1) = R at *
      obtain ⟨cnt, Ra, Rz⟩ := R
      simp only at HR HRED
      go_wp2_with fail
      refine HRED.out.mono ?_
      rintro e w4 ⟨rfl, hst4, hb4⟩
      have HB4 := Aside0.mk (show Below w.heap.size w w4 from HB3.out.trans hb4)
      clear hst4 hb4 HRED
      go_wp2
      go_ret2
      obtain ⟨rfl, rfl⟩ := Prod.mk.inj HR.out
      exact ⟨rfl, HB4.out⟩
    · rw [if_neg hm] at hchk
      rw [if_neg hm] at hinv
      obtain ⟨rfl, rfl⟩ := Prod.mk.inj hinv
      clear hinv hm hr0
      go_enter Try.func70, Try.ntmps70
      go_wp2_with fail
      refine hchk.out.mono ?_
      rintro e w' ⟨rfl, ⟨nq, rfl⟩⟩
      clear hchk
      go_wp2
      go_ret2
      exact ⟨rfl, pw_below_drewN (Below.refl _ _) nq⟩
  · rw [if_neg hby] at h
    cases h
end Go.Proofs.Ytbogmlckbkogiaa.H

/- The question of layer 2's statements that is always asked: answered with yes. Conditions: none. -/
namespace Go.Proofs.Ytbogmlckbkogiaa.H
open Go.RowKit Go.Proofs.YtbogmlckbkogiaaW.PrintWords Go.Proofs.YtbogmlckbkogiaaW.PrintLast Go.Proofs.Ytbogmlckbkogiaa.Leaf Go.Proofs.Ytbogmlckbkogiaa.Gf Go.Proofs.Ytbogmlckbkogiaa.Red Go.Proofs.Ytbogmlckbkogiaa.P
set_option linter.unusedVariables false
set_option linter.unusedSimpArgs false
theorem C_rows_of (w : World) (ad : Addr) (xs : List (List Int)) (As : Nat → Option Addr) (cs : Nat → Nat) (hl : xs.length ≤ 9223372036854775807)
    (h : ∀ j, j < xs.length → w.cell? (ad.add j) = some (.slice (As j) (xs.getD j []).length (cs j)) ∧ (xs.getD j []).length ≤ cs j ∧ Kd.C (Kd.int .u8) w (As j) (xs.getD j []).length (xs.getD j [])) : Kd.C KR w (some ad) xs.length xs := by
  refine ⟨rfl, hl, fun _ => ⟨ad, rfl, fun j p hj => ?_⟩⟩
  obtain ⟨hlt, hp⟩ := List.getElem?_eq_some_iff.1 hj
  have hd : xs.getD j [] = p := by rw [List.getD_eq_getElem?_getD, hj]; rfl
  obtain ⟨h1, h2, h3⟩ := h j hlt
  rw [hd] at h1 h2 h3
  refine ⟨[.slice (As j) p.length (cs j)], rfl, ⟨As j, cs j, rfl, h2, h3⟩, fun i u hu => ?_⟩
  cases i with
  | zero =>
    cases hu
    show w.cell? (ad.add (j * 1 + 0)) = _
    rw [Nat.mul_one, Nat.add_zero]
    exact h1
  | succ i => simp at hu
theorem inv2 : invR [[0x02#8]] = (oM [[0x8E#8]], 0) := by decide +kernel
def mooringlaw02_awake.f : Option Bool := some true
set_option maxHeartbeats 1000000 in
set_option maxRecDepth 100000 in
theorem mooringlaw02_awake.calls (r : Bool) (w : World) (h : mooringlaw02_awake.f = some r) : Calls Try.prog 51 #[] w fun e w' => e = .returned (.bool r) ∧ Below w.heap.size w w' := by
  obtain rfl := Option.some.inj h
  clear h
  have hin : Aside0 (∀ W : World, Calls Try.prog 52 #[.slice (some ⟨W.heap.size + 1, 0, none⟩) 1 1] ((W.alloc (.cells #[.int .u8 2] 5 (0, 0))).alloc (.cells #[.slice (some ⟨W.heap.size, 0, none⟩) 1 1] 22 (0, 0))) fun e w' => ∃ (g c : Nat) (A : Option Addr) (c' : Nat) (ad : Addr), e = .returned (.tuple #[.slice (some ⟨g, 0, none⟩) 1 c, .int .i64 0]) ∧ w'.cell? ⟨g, 0, none⟩ = some (.slice (some ad) 1 c') ∧ w'.cell? ad = some (.int .u8 142) ∧ Aside0 (Below W.heap.size W w')) := ⟨fun W => by
    have hb1 : Below W.heap.size W (W.alloc (.cells #[.int .u8 2] 5 (0, 0))) := (Below.refl _ _).alloc (Nat.le_refl _) _
    have hb2 := below_alloc hb1 (.cells #[.slice (some ⟨W.heap.size, 0, none⟩) 1 1] 22 (0, 0))
    have hC1 : Kd.C (Kd.int .u8) (W.alloc (.cells #[.int .u8 2] 5 (0, 0))) (some ⟨W.heap.size, 0, none⟩) 1 [2] := reads_block W _ _ [2] rfl (by decide)
    have hC := C_rows_of ((W.alloc (.cells #[.int .u8 2] 5 (0, 0))).alloc (.cells #[.slice (some ⟨W.heap.size, 0, none⟩) 1 1] 22 (0, 0))) ⟨W.heap.size + 1, 0, none⟩ [[2]] (fun _ => some ⟨W.heap.size, 0, none⟩) (fun _ => 1) (by decide) (fun j hj => by
      obtain rfl : j = 0 := by simpa using hj
      refine ⟨?_, by decide, Kd.C_below hC1 ((Below.refl _ _).alloc (Nat.le_refl _) _)⟩
      rw [Addr.add_zero']
      simp)
    have hcall := matrix_Inverse.calls (some ⟨W.heap.size + 1, 0, none⟩) 1 [[2]] _ _ _ hC (by decide) (show matrix_Inverse.f (oM [[0x02#8]]) = some (oM [[0x8E#8]], 0) by rw [matrix_Inverse.f_oM, inv2])
    refine hcall.mono ?_
    rintro e w' ⟨v, rfl, hS, hb⟩
    obtain ⟨g, c, rfl, _⟩ := Kd.S_form hS (by decide)
    obtain ⟨_, _, hC'⟩ := Kd.S_reads' hS
    obtain ⟨ad, A', c', e, hx, _, hC2⟩ := rows_at hC' 0 (by decide)
    obtain ⟨ad2, e2, hx2⟩ := Kd.at_int hC2 0 (by decide) (by decide)
    cases e
    rw [Addr.add_zero'] at hx
    rw [show ((0 : Int)).toNat = 0 from rfl, Addr.add_zero'] at hx2
    subst e2
    exact ⟨g, c, none, c', ad2, rfl, hx, hx2, ⟨below_step hb2 (hb.mono (by simp))⟩⟩⟩
  have hck : Aside0 (∀ W : World, Calls Try.prog 65 #[.slice none 0 0] W fun e w' => e = .returned (.int .i64 1) ∧ Drawn0 W w') := ⟨fun W => by
    obtain ⟨k, hk⟩ := (evCheck [] (by decide)).rounds
    exact matrix_Check.calls k none 0 [] _ W (Kd.C_nil _ _) (by decide) hk⟩
  go_enter Try.func51, Try.ntmps51
  go_wp2_with fail
  refine (hin.out _).mono ?_
  rintro e w1 ⟨g, c, A, c', ad, rfl, hx1, hx2, hB⟩
  clear hin
  go_wp2_with fail
  refine (hck.out _).mono ?_
  rintro e w2 ⟨rfl, ⟨nq, rfl⟩⟩
  go_wp2
  go_ret
  exact ⟨rfl, pw_below_drewN hB.out nq⟩
end Go.Proofs.Ytbogmlckbkogiaa.H

-- Printed by a wrapper (wip/tools/myprint.py) of the kit's print, with hand-written contracts as given leaves.
namespace Go.Proofs.Ytbogmlckbkogiaa.P
open Go.Proofs.Ytbogmlckbkogiaa.H
open Go.Proofs.Ytbogmlckbkogiaa.Leaf
open Go.RowKit Go.Proofs.YtbogmlckbkogiaaW.PrintWords Go.Proofs.YtbogmlckbkogiaaW.PrintLast Go.Proofs.YtbogmlckbkogiaaW.PrintMore
attribute [local go_sem] max2_int min2_int max_two min_two max_three min_three max_four min_four   -- for this text's walks alone
set_option linter.unusedVariables false
set_option linter.unusedSimpArgs false

/-! ### mooringlaw02_MatrixMuls: function 13 -/
def mooringlaw02_MatrixMuls.j0 : Nat → List (List Int) → List (List Int) → Bool → Option (Bool)
  | 0, _, _, _ => none
  | k + 1, x0, x1, x16 => if x16 = true then ((mooringlaw02_awake.f).bind fun t103 => (some t103)) else ((matrix_Mul.f k x0 x1).bind fun bt104 => ((mooringref02_Mul.f k x0 x1).bind fun bt108 => ((matrix_Check.f k x0).bind fun t112 => ((mooringref02_May.f k x0).bind fun t113 => ((mooringlaw02_errno.f t113).bind fun t114 => (if t112 = t114 then (if bt104.2 = bt108.2 then ((mooringref02_Same.f k bt104.1 bt108.1).bind fun t115 => (if t115 = true then ((mooringlaw02_awake.f).bind fun t116 => (some t116)) else (some false))) else (some false)) else (some false)))))))
def mooringlaw02_MatrixMuls.f (k : Nat) (l0 : List (List Int)) (l1 : List (List Int)) : Option (Bool) := (mooringlaw02_light.f l0).bind fun t101 => (if t101 = true then ((mooringlaw02_light.f l1).bind fun t102 => (mooringlaw02_MatrixMuls.j0 k l0 l1 (!t102))) else (mooringlaw02_MatrixMuls.j0 k l0 l1 true))
theorem mooringlaw02_MatrixMuls.mono_l : ∀ k, (∀ y0 y1 y2, LeO (mooringlaw02_MatrixMuls.j0 k y0 y1 y2) (mooringlaw02_MatrixMuls.j0 (k + 1) y0 y1 y2))
  | 0 => fun _ _ _ r h => by simp [mooringlaw02_MatrixMuls.j0] at h
  | k + 1 => by
    have ih0 := mooringlaw02_MatrixMuls.mono_l k
    · intro y0 y1 y2
      unfold mooringlaw02_MatrixMuls.j0
      repeat' first
      | (with_reducible exact ih0 _ _ _)
      | (with_reducible exact matrix_Check.mono _ _)
      | (with_reducible exact matrix_Mul.mono _ _ _)
      | (with_reducible exact mooringref02_May.mono _ _)
      | (with_reducible exact mooringref02_Mul.mono _ _ _)
      | (with_reducible exact mooringref02_Same.mono _ _ _)
      | (with_reducible exact LeO.refl _)
      | (with_reducible exact LeO.none _)
      | (with_reducible refine LeO.ite ?_ ?_)
      | (with_reducible refine LeO.bind ?_ (fun _ => ?_))
      | exact ih0 _ _ _
      | exact matrix_Check.mono _ _
      | exact matrix_Mul.mono _ _ _
      | exact mooringref02_May.mono _ _
      | exact mooringref02_Mul.mono _ _ _
      | exact mooringref02_Same.mono _ _ _
      | exact LeO.none _
      | refine LeO.ite ?_ ?_
      | refine LeO.bind ?_ (fun _ => ?_)
theorem mooringlaw02_MatrixMuls.mono : ∀ a0 a1 k, LeO (mooringlaw02_MatrixMuls.f k a0 a1) (mooringlaw02_MatrixMuls.f (k + 1) a0 a1) := by
  intro a0 a1 k
  have ih0 := mooringlaw02_MatrixMuls.mono_l k
  unfold mooringlaw02_MatrixMuls.f
  repeat' first
      | (with_reducible exact ih0 _ _ _)
      | (with_reducible exact matrix_Check.mono _ _)
      | (with_reducible exact matrix_Mul.mono _ _ _)
      | (with_reducible exact mooringref02_May.mono _ _)
      | (with_reducible exact mooringref02_Mul.mono _ _ _)
      | (with_reducible exact mooringref02_Same.mono _ _ _)
      | (with_reducible exact LeO.refl _)
      | (with_reducible exact LeO.none _)
      | (with_reducible refine LeO.ite ?_ ?_)
      | (with_reducible refine LeO.bind ?_ (fun _ => ?_))
      | exact ih0 _ _ _
      | exact matrix_Check.mono _ _
      | exact matrix_Mul.mono _ _ _
      | exact mooringref02_May.mono _ _
      | exact mooringref02_Mul.mono _ _ _
      | exact mooringref02_Same.mono _ _ _
      | exact LeO.none _
      | refine LeO.ite ?_ ?_
      | refine LeO.bind ?_ (fun _ => ?_)
set_option maxHeartbeats 8000000 in
set_option maxRecDepth 100000 in
theorem mooringlaw02_MatrixMuls.calls (k : Nat) (A0 : Option Addr) (c0 : Nat) (l0 : List (List Int)) (A1 : Option Addr) (c1 : Nat) (l1 : List (List Int)) (r : Bool) (w : World) (hr0 : Kd.C (Kd.slice 5 (Kd.int .u8)) w A0 l0.length l0) (hc0 : l0.length ≤ c0) (hr1 : Kd.C (Kd.slice 5 (Kd.int .u8)) w A1 l1.length l1) (hc1 : l1.length ≤ c1) (h : mooringlaw02_MatrixMuls.f k l0 l1 = some r) :
    Calls Try.prog 13 #[.slice A0 l0.length c0, .slice A1 l1.length c1] w fun e w' => e = .returned (.bool r) ∧ Below w.heap.size w w' := by
  have HR0 := Aside0.mk hr0
  have HC0 := Aside0.mk hc0
  clear hr0 hc0
  have HR1 := Aside0.mk hr1
  have HC1 := Aside0.mk hc1
  clear hr1 hc1
  have HB := Aside0.mk (Below.refl w.heap.size w)
  have H : ((mooringlaw02_light.f l0).bind fun t101 => (if t101 = true then ((mooringlaw02_light.f l1).bind fun t102 => (mooringlaw02_MatrixMuls.j0 k l0 l1 (!t102))) else (mooringlaw02_MatrixMuls.j0 k l0 l1 true))) = some r := h
  clear h
  have HC3 := Aside0.mk H
  clear H
  go_enter Try.func13, Try.ntmps13
  go_upto_region 1 with (fail)
  go_cut [16] (fun v16 wc => ∃ (kq : Nat) (x16_2 : Bool), v16 = .bool x16_2 ∧ Aside0 (mooringlaw02_MatrixMuls.j0 kq l0 l1 x16_2 = some r) ∧ Aside0 (kq ≤ k) ∧ Aside0 (Below w.heap.size w wc))
  case first =>
    have H := HC3.out
    clear HC3
    replace H := Option.bind_eq_some_iff.mp H
    obtain ⟨t101, A40, H⟩ := H
    replace H : (if t101 = true then ((mooringlaw02_light.f l1).bind fun t102 => (mooringlaw02_MatrixMuls.j0 k l0 l1 (!t102))) else (mooringlaw02_MatrixMuls.j0 k l0 l1 true)) = some r := H
    have A4 := Aside0.mk A40
    clear A40
    by_cases c5 : t101 = true
    · subst c5
      have H1 : ((mooringlaw02_light.f l1).bind fun t102 => (mooringlaw02_MatrixMuls.j0 k l0 l1 (!t102))) = some r := by rw [if_pos rfl] at H; exact H
      clear H
      have H := H1
      clear H1
      replace H := Option.bind_eq_some_iff.mp H
      obtain ⟨t102, A60, H⟩ := H
      replace H : (mooringlaw02_MatrixMuls.j0 k l0 l1 (!t102)) = some r := H
      have A6 := Aside0.mk A60
      clear A60
      have H' := Aside0.mk H
      clear H
      go_wp2_with (first | ((with_reducible refine gate_callee (f := 50) rfl ?_); refine goesL_ (some 10) rfl rfl Try.func50 (by kernel_rfl) rfl #[.slice A0 l0.length c0] rfl (by (try simp only [List.map_toArray, List.map_cons, List.map_nil]); first | done | rfl | (simp only [List.length_drop, List.length_take]; rfl)) ?_; (with_reducible refine (mooringlaw02_light.calls _ _ l0 true _ ?side1 ?side2 A4.out).mono ?_); (case side1 => repeat (first | exact (Kd.C_below HR0.out HB.out) | (with_reducible refine Kd.C_alloc ?_ _) | (with_reducible refine Kd.C_drewN ?_ _) | (with_reducible refine Kd.C_drew ?_))); (case side2 => exact HC0.out); rintro e w' ⟨rfl, ⟨nd, rfl⟩⟩; refine ⟨_, rfl, ?_⟩) | (go_at_call 50; (with_reducible refine (mooringlaw02_light.calls _ _ l1 t102 _ ?side1 ?side2 A6.out).mono ?_); (case side1 => repeat (first | exact (Kd.C_below HR1.out (by repeat (first | (with_reducible first | exact HB.out | apply below_alloc | apply pw_below_drewN | apply below_drew1) | exact HB.out))) | (with_reducible refine Kd.C_alloc ?_ _) | (with_reducible refine Kd.C_drewN ?_ _) | (with_reducible refine Kd.C_drew ?_))); (case side2 => exact HC1.out); rintro e w' ⟨rfl, ⟨nd, rfl⟩⟩))
      go_meet
      case rel => exact ⟨_, (!t102), (by first | rfl | (simp; done) | (simp [*]; done)), H', ⟨by first | omega | exact Nat.le_refl _⟩, ⟨by repeat (first | (with_reducible first | exact HB.out | apply below_alloc | apply pw_below_drewN | apply below_drew1) | exact HB.out)⟩⟩
    · replace c5 := Bool.eq_false_iff.mpr c5
      subst c5
      have H1 : (mooringlaw02_MatrixMuls.j0 k l0 l1 true) = some r := by rw [if_neg (show ¬ (false = true) by decide)] at H; exact H
      clear H
      have H := H1
      clear H1
      have H' := Aside0.mk H
      clear H
      go_wp2_with (first | ((with_reducible refine gate_callee (f := 50) rfl ?_); refine goesL_ (some 10) rfl rfl Try.func50 (by kernel_rfl) rfl #[.slice A0 l0.length c0] rfl (by (try simp only [List.map_toArray, List.map_cons, List.map_nil]); first | done | rfl | (simp only [List.length_drop, List.length_take]; rfl)) ?_; (with_reducible refine (mooringlaw02_light.calls _ _ l0 false _ ?side1 ?side2 A4.out).mono ?_); (case side1 => repeat (first | exact (Kd.C_below HR0.out HB.out) | (with_reducible refine Kd.C_alloc ?_ _) | (with_reducible refine Kd.C_drewN ?_ _) | (with_reducible refine Kd.C_drew ?_))); (case side2 => exact HC0.out); rintro e w' ⟨rfl, ⟨nd, rfl⟩⟩; refine ⟨_, rfl, ?_⟩))
      go_meet
      case rel => exact ⟨_, (true), (by first | rfl | (simp; done) | (simp [*]; done)), H', ⟨by first | omega | exact Nat.le_refl _⟩, ⟨by repeat (first | (with_reducible first | exact HB.out | apply below_alloc | apply pw_below_drewN | apply below_drew1) | exact HB.out)⟩⟩
  case rest =>
    clear HC3
    try clear c1
    try clear p2
    try clear c5
    obtain ⟨kq, x16_2, rfl, HA, HJ2, HB⟩ := hcut
    cases kq with
    | zero => exact absurd HA.out (by simp [mooringlaw02_MatrixMuls.j0])
    | succ kj2 =>
      have H := HA.out
      clear HA
      simp only [mooringlaw02_MatrixMuls.j0] at H
      by_cases c7 : x16_2 = true
      · subst c7
        have H1 : ((mooringlaw02_awake.f).bind fun t103 => (some t103)) = some r := by rw [if_pos rfl] at H; exact H
        clear H
        have H := H1
        clear H1
        replace H := Option.bind_eq_some_iff.mp H
        obtain ⟨t103, A80, H⟩ := H
        replace H : (some t103) = some r := H
        have A8 := Aside0.mk A80
        clear A80
        obtain rfl := Option.some.inj H
        go_wp2_with (first | ((with_reducible refine gate_callee (f := 51) rfl ?_); refine goesL_ (some 17) rfl rfl Try.func51 (by kernel_rfl) rfl #[] rfl (by (try simp only [List.map_toArray, List.map_cons, List.map_nil]); first | done | rfl | (simp only [List.length_drop, List.length_take]; rfl)) ?_; (with_reducible refine (mooringlaw02_awake.calls  t103 _ A8.out).mono ?_); rintro e w9 ⟨rfl, hb⟩; refine ⟨_, rfl, ?_⟩; have n0_ := Aside0.mk (below_step (by repeat (first | (with_reducible first | exact HB.out | apply below_alloc | apply pw_below_drewN | apply below_drew1) | exact HB.out)) hb); clear HB; have HB := n0_; clear n0_; (try clear hb); (try clear hb2); (try clear hk); (try clear hi)))
        go_ret
        exact ⟨by first | rfl | (simp [errW_none, errW_some] <;> rfl) | (simp [*, errW_none, errW_some] <;> rfl), by repeat (first | (with_reducible first | exact HB.out | apply below_alloc | apply pw_below_drewN | apply below_drew1) | exact HB.out)⟩
      · replace c7 := Bool.eq_false_iff.mpr c7
        subst c7
        have H1 : ((matrix_Mul.f kj2 l0 l1).bind fun bt104 => ((mooringref02_Mul.f kj2 l0 l1).bind fun bt108 => ((matrix_Check.f kj2 l0).bind fun t112 => ((mooringref02_May.f kj2 l0).bind fun t113 => ((mooringlaw02_errno.f t113).bind fun t114 => (if t112 = t114 then (if bt104.2 = bt108.2 then ((mooringref02_Same.f kj2 bt104.1 bt108.1).bind fun t115 => (if t115 = true then ((mooringlaw02_awake.f).bind fun t116 => (some t116)) else (some false))) else (some false)) else (some false))))))) = some r := by rw [if_neg (show ¬ (false = true) by decide)] at H; exact H
        clear H
        have H := H1
        clear H1
        replace H := Option.bind_eq_some_iff.mp H
        obtain ⟨⟨t104, t107⟩, A100, H⟩ := H
        replace H : ((mooringref02_Mul.f kj2 l0 l1).bind fun bt108 => ((matrix_Check.f kj2 l0).bind fun t112 => ((mooringref02_May.f kj2 l0).bind fun t113 => ((mooringlaw02_errno.f t113).bind fun t114 => (if t112 = t114 then (if t107 = bt108.2 then ((mooringref02_Same.f kj2 t104 bt108.1).bind fun t115 => (if t115 = true then ((mooringlaw02_awake.f).bind fun t116 => (some t116)) else (some false))) else (some false)) else (some false)))))) = some r := H
        have A10 := Aside0.mk A100
        clear A100
        replace H := Option.bind_eq_some_iff.mp H
        obtain ⟨⟨t108, t109⟩, A110, H⟩ := H
        replace H : ((matrix_Check.f kj2 l0).bind fun t112 => ((mooringref02_May.f kj2 l0).bind fun t113 => ((mooringlaw02_errno.f t113).bind fun t114 => (if t112 = t114 then (if t107 = t109 then ((mooringref02_Same.f kj2 t104 t108).bind fun t115 => (if t115 = true then ((mooringlaw02_awake.f).bind fun t116 => (some t116)) else (some false))) else (some false)) else (some false))))) = some r := H
        have A11 := Aside0.mk A110
        clear A110
        replace H := Option.bind_eq_some_iff.mp H
        obtain ⟨t112, A120, H⟩ := H
        replace H : ((mooringref02_May.f kj2 l0).bind fun t113 => ((mooringlaw02_errno.f t113).bind fun t114 => (if t112 = t114 then (if t107 = t109 then ((mooringref02_Same.f kj2 t104 t108).bind fun t115 => (if t115 = true then ((mooringlaw02_awake.f).bind fun t116 => (some t116)) else (some false))) else (some false)) else (some false)))) = some r := H
        have A12 := Aside0.mk A120
        clear A120
        replace H := Option.bind_eq_some_iff.mp H
        obtain ⟨t113, A130, H⟩ := H
        replace H : ((mooringlaw02_errno.f t113).bind fun t114 => (if t112 = t114 then (if t107 = t109 then ((mooringref02_Same.f kj2 t104 t108).bind fun t115 => (if t115 = true then ((mooringlaw02_awake.f).bind fun t116 => (some t116)) else (some false))) else (some false)) else (some false))) = some r := H
        have A13 := Aside0.mk A130
        clear A130
        replace H := Option.bind_eq_some_iff.mp H
        obtain ⟨t114, A140, H⟩ := H
        replace H : (if t112 = t114 then (if t107 = t109 then ((mooringref02_Same.f kj2 t104 t108).bind fun t115 => (if t115 = true then ((mooringlaw02_awake.f).bind fun t116 => (some t116)) else (some false))) else (some false)) else (some false)) = some r := H
        have A14 := Aside0.mk A140
        clear A140
        by_cases c15 : t112 = t114
        · rw [if_pos c15] at H
          have c15b0 : (t112 == t114) = true := beq_iff_eq.mpr c15
          have c15b1 : (t112 != t114) = false := bne_eq_false_iff_eq.mpr c15
          clear c15
          by_cases c16 : t107 = t109
          · rw [if_pos c16] at H
            have c16b0 : (t107 == t109) = true := beq_iff_eq.mpr c16
            have c16b1 : (t107 != t109) = false := bne_eq_false_iff_eq.mpr c16
            clear c16
            replace H := Option.bind_eq_some_iff.mp H
            obtain ⟨t115, A170, H⟩ := H
            replace H : (if t115 = true then ((mooringlaw02_awake.f).bind fun t116 => (some t116)) else (some false)) = some r := H
            have A17 := Aside0.mk A170
            clear A170
            by_cases c18 : t115 = true
            · subst c18
              have H1 : ((mooringlaw02_awake.f).bind fun t116 => (some t116)) = some r := by rw [if_pos rfl] at H; exact H
              clear H
              have H := H1
              clear H1
              replace H := Option.bind_eq_some_iff.mp H
              obtain ⟨t116, A190, H⟩ := H
              replace H : (some t116) = some r := H
              have A19 := Aside0.mk A190
              clear A190
              obtain rfl := Option.some.inj H
              go_wp2_with (first | ((with_reducible refine gate_callee (f := 64) rfl ?_); refine goesL_ (some 21) rfl rfl Try.func64 (by kernel_rfl) rfl #[.slice A0 l0.length c0, .slice A1 l1.length c1] rfl (by (try simp only [List.map_toArray, List.map_cons, List.map_nil]); first | done | rfl | (simp only [List.length_drop, List.length_take]; rfl)) ?_; (with_reducible refine (matrix_Mul.calls kj2 _ _ l0 _ _ l1 t104 t107 _ ?side1 ?side2 ?side3 ?side4 A10.out).mono ?_); (case side1 => repeat (first | exact (Kd.C_below HR0.out HB.out) | (with_reducible refine Kd.C_alloc ?_ _) | (with_reducible refine Kd.C_drewN ?_ _) | (with_reducible refine Kd.C_drew ?_))); (case side2 => exact HC0.out); (case side3 => repeat (first | exact (Kd.C_below HR1.out HB.out) | (with_reducible refine Kd.C_alloc ?_ _) | (with_reducible refine Kd.C_drewN ?_ _) | (with_reducible refine Kd.C_drew ?_))); (case side4 => exact HC1.out); rintro e w20 ⟨v105, rfl, ho0, hb⟩; refine ⟨_, rfl, ?_⟩; have n0_ := Aside0.mk (Kd.N_lower (Kd.N_mono (ok' := fun k_ => True) ho0 (fun k_ hk_ => trivial)) (below_size (by repeat (first | (with_reducible first | exact HB.out | apply below_alloc | apply pw_below_drewN | apply below_drew1) | exact HB.out)))); have n1_ := Aside0.mk (below_step (by repeat (first | (with_reducible first | exact HB.out | apply below_alloc | apply pw_below_drewN | apply below_drew1) | exact HB.out)) hb); clear HB; have HO106 := n0_; have HB := n1_; clear n0_ n1_; (try clear hb); (try clear hb2); (try clear hk); (try clear hi); (try clear ho0)) | ((with_reducible refine gate_callee (f := 55) rfl ?_); refine goesL_ (some 27) rfl rfl Try.func55 (by kernel_rfl) rfl #[.slice A0 l0.length c0, .slice A1 l1.length c1] rfl (by (try simp only [List.map_toArray, List.map_cons, List.map_nil]); first | done | rfl | (simp only [List.length_drop, List.length_take]; rfl)) ?_; (with_reducible refine (mooringref02_Mul.calls kj2 _ _ l0 _ _ l1 t108 t109 _ ?side1 ?side2 ?side3 ?side4 A11.out).mono ?_); (case side1 => repeat (first | exact (Kd.C_below HR0.out HB.out) | (with_reducible refine Kd.C_alloc ?_ _) | (with_reducible refine Kd.C_drewN ?_ _) | (with_reducible refine Kd.C_drew ?_))); (case side2 => exact HC0.out); (case side3 => repeat (first | exact (Kd.C_below HR1.out HB.out) | (with_reducible refine Kd.C_alloc ?_ _) | (with_reducible refine Kd.C_drewN ?_ _) | (with_reducible refine Kd.C_drew ?_))); (case side4 => exact HC1.out); rintro e w21 ⟨v110, rfl, ho0, hb⟩; refine ⟨_, rfl, ?_⟩; have n0_ := Aside0.mk (Kd.N_elder' (by (with_reducible repeat (first | apply Kd.N_alloc | apply Kd.N_drewN | apply Kd.N_drew)); exact HO106.out) (by first | exact Kd.N_base ho0 | exact Kd.S_base ho0) hb); have n1_ := Aside0.mk (Kd.N_lower (Kd.N_mono (ok' := fun k_ => some k_ ≠ (v105 : Value).ownBlock) (Kd.S_N (Kd.S_bound ho0)) (fun k_ hk_ => (Kd.fresh' (Kd.N_lt (by (with_reducible repeat (first | apply Kd.N_alloc | apply Kd.N_drewN | apply Kd.N_drew)); exact HO106.out)) k_ hk_.2.1))) (below_size (by repeat (first | (with_reducible first | exact HB.out | apply below_alloc | apply pw_below_drewN | apply below_drew1) | exact HB.out)))); have n2_ := Aside0.mk (below_step (by repeat (first | (with_reducible first | exact HB.out | apply below_alloc | apply pw_below_drewN | apply below_drew1) | exact HB.out)) hb); clear HO106; clear HB; have HO106 := n0_; have HO111 := n1_; have HB := n2_; clear n0_ n1_ n2_; (try clear hb); (try clear hb2); (try clear hk); (try clear hi); (try clear ho0)) | ((with_reducible refine gate_callee (f := 65) rfl ?_); refine goesL_ (some 31) rfl rfl Try.func65 (by kernel_rfl) rfl #[.slice A0 l0.length c0] rfl (by (try simp only [List.map_toArray, List.map_cons, List.map_nil]); first | done | rfl | (simp only [List.length_drop, List.length_take]; rfl)) ?_; (with_reducible refine (matrix_Check.calls kj2 _ _ l0 t112 _ ?side1 ?side2 A12.out).mono ?_); (case side1 => repeat (first | exact (Kd.C_below HR0.out HB.out) | (with_reducible refine Kd.C_alloc ?_ _) | (with_reducible refine Kd.C_drewN ?_ _) | (with_reducible refine Kd.C_drew ?_))); (case side2 => exact HC0.out); rintro e w' ⟨rfl, ⟨nd, rfl⟩⟩; refine ⟨_, rfl, ?_⟩) | ((with_reducible refine gate_callee (f := 53) rfl ?_); refine goesL_ (some 33) rfl rfl Try.func53 (by kernel_rfl) rfl #[.slice A0 l0.length c0] rfl (by (try simp only [List.map_toArray, List.map_cons, List.map_nil]); first | done | rfl | (simp only [List.length_drop, List.length_take]; rfl)) ?_; (with_reducible refine (mooringref02_May.calls kj2 _ _ l0 t113 _ ?side1 ?side2 A13.out).mono ?_); (case side1 => repeat (first | exact (Kd.C_below HR0.out (by repeat (first | (with_reducible first | exact HB.out | apply below_alloc | apply pw_below_drewN | apply below_drew1) | exact HB.out))) | (with_reducible refine Kd.C_alloc ?_ _) | (with_reducible refine Kd.C_drewN ?_ _) | (with_reducible refine Kd.C_drew ?_))); (case side2 => exact HC0.out); rintro e w' ⟨rfl, ⟨nd, rfl⟩⟩; refine ⟨_, rfl, ?_⟩) | ((with_reducible refine gate_callee (f := 66) rfl ?_); refine goesL_ (some 34) rfl rfl Try.func66 (by kernel_rfl) rfl #[.bool t113] rfl (by (try simp only [List.map_toArray, List.map_cons, List.map_nil]); first | done | rfl | (simp only [List.length_drop, List.length_take]; rfl)) ?_; (with_reducible refine (mooringlaw02_errno.calls t113 t114 _ A14.out).mono ?_); rintro e w' ⟨rfl, ⟨nd, rfl⟩⟩; refine ⟨_, rfl, ?_⟩; obtain ⟨Ao22, co22, eo22⟩ := Kd.N_slice HO106.out; subst eo22; obtain ⟨Ao23, co23, eo23⟩ := Kd.N_slice HO111.out; subst eo23) | (go_at_call 57; (with_reducible refine (mooringref02_Same.calls kj2 _ _ t104 _ _ t108 true _ ?side1 ?side2 ?side3 ?side4 A17.out).mono ?_); (case side1 => repeat (first | exact (Kd.N_reads' HO106.out).2.2 | (with_reducible refine Kd.C_alloc ?_ _) | (with_reducible refine Kd.C_drewN ?_ _) | (with_reducible refine Kd.C_drew ?_))); (case side2 => exact (Kd.N_reads' HO106.out).2.1); (case side3 => repeat (first | exact (Kd.N_reads' HO111.out).2.2 | (with_reducible refine Kd.C_alloc ?_ _) | (with_reducible refine Kd.C_drewN ?_ _) | (with_reducible refine Kd.C_drew ?_))); (case side4 => exact (Kd.N_reads' HO111.out).2.1); rintro e w' ⟨rfl, ⟨nd, rfl⟩⟩) | (go_at_call 51; (with_reducible refine (mooringlaw02_awake.calls  t116 _ A19.out).mono ?_); rintro e w24 ⟨rfl, hb⟩; have n0_ := Aside0.mk (Kd.N_below (by (with_reducible repeat (first | apply Kd.N_alloc | apply Kd.N_drewN | apply Kd.N_drew)); exact HO106.out) hb); have n1_ := Aside0.mk (Kd.N_below (by (with_reducible repeat (first | apply Kd.N_alloc | apply Kd.N_drewN | apply Kd.N_drew)); exact HO111.out) hb); have n2_ := Aside0.mk (below_step (by repeat (first | (with_reducible first | exact HB.out | apply below_alloc | apply pw_below_drewN | apply below_drew1) | exact HB.out)) hb); clear HO106; clear HO111; clear HB; have HO106 := n0_; have HO111 := n1_; have HB := n2_; clear n0_ n1_ n2_; (try clear hb); (try clear hb2); (try clear hk); (try clear hi)))
              go_ret
              exact ⟨by first | rfl | (simp [errW_none, errW_some] <;> rfl) | (simp [*, errW_none, errW_some] <;> rfl), by repeat (first | (with_reducible first | exact HB.out | apply below_alloc | apply pw_below_drewN | apply below_drew1) | exact HB.out)⟩
            · replace c18 := Bool.eq_false_iff.mpr c18
              subst c18
              have H1 : (some false) = some r := by rw [if_neg (show ¬ (false = true) by decide)] at H; exact H
              clear H
              have H := H1
              clear H1
              obtain rfl := Option.some.inj H
              go_wp2_with (first | ((with_reducible refine gate_callee (f := 64) rfl ?_); refine goesL_ (some 21) rfl rfl Try.func64 (by kernel_rfl) rfl #[.slice A0 l0.length c0, .slice A1 l1.length c1] rfl (by (try simp only [List.map_toArray, List.map_cons, List.map_nil]); first | done | rfl | (simp only [List.length_drop, List.length_take]; rfl)) ?_; (with_reducible refine (matrix_Mul.calls kj2 _ _ l0 _ _ l1 t104 t107 _ ?side1 ?side2 ?side3 ?side4 A10.out).mono ?_); (case side1 => repeat (first | exact (Kd.C_below HR0.out HB.out) | (with_reducible refine Kd.C_alloc ?_ _) | (with_reducible refine Kd.C_drewN ?_ _) | (with_reducible refine Kd.C_drew ?_))); (case side2 => exact HC0.out); (case side3 => repeat (first | exact (Kd.C_below HR1.out HB.out) | (with_reducible refine Kd.C_alloc ?_ _) | (with_reducible refine Kd.C_drewN ?_ _) | (with_reducible refine Kd.C_drew ?_))); (case side4 => exact HC1.out); rintro e w25 ⟨v105, rfl, ho0, hb⟩; refine ⟨_, rfl, ?_⟩; have n0_ := Aside0.mk (Kd.N_lower (Kd.N_mono (ok' := fun k_ => True) ho0 (fun k_ hk_ => trivial)) (below_size (by repeat (first | (with_reducible first | exact HB.out | apply below_alloc | apply pw_below_drewN | apply below_drew1) | exact HB.out)))); have n1_ := Aside0.mk (below_step (by repeat (first | (with_reducible first | exact HB.out | apply below_alloc | apply pw_below_drewN | apply below_drew1) | exact HB.out)) hb); clear HB; have HO106 := n0_; have HB := n1_; clear n0_ n1_; (try clear hb); (try clear hb2); (try clear hk); (try clear hi); (try clear ho0)) | ((with_reducible refine gate_callee (f := 55) rfl ?_); refine goesL_ (some 27) rfl rfl Try.func55 (by kernel_rfl) rfl #[.slice A0 l0.length c0, .slice A1 l1.length c1] rfl (by (try simp only [List.map_toArray, List.map_cons, List.map_nil]); first | done | rfl | (simp only [List.length_drop, List.length_take]; rfl)) ?_; (with_reducible refine (mooringref02_Mul.calls kj2 _ _ l0 _ _ l1 t108 t109 _ ?side1 ?side2 ?side3 ?side4 A11.out).mono ?_); (case side1 => repeat (first | exact (Kd.C_below HR0.out HB.out) | (with_reducible refine Kd.C_alloc ?_ _) | (with_reducible refine Kd.C_drewN ?_ _) | (with_reducible refine Kd.C_drew ?_))); (case side2 => exact HC0.out); (case side3 => repeat (first | exact (Kd.C_below HR1.out HB.out) | (with_reducible refine Kd.C_alloc ?_ _) | (with_reducible refine Kd.C_drewN ?_ _) | (with_reducible refine Kd.C_drew ?_))); (case side4 => exact HC1.out); rintro e w26 ⟨v110, rfl, ho0, hb⟩; refine ⟨_, rfl, ?_⟩; have n0_ := Aside0.mk (Kd.N_elder' (by (with_reducible repeat (first | apply Kd.N_alloc | apply Kd.N_drewN | apply Kd.N_drew)); exact HO106.out) (by first | exact Kd.N_base ho0 | exact Kd.S_base ho0) hb); have n1_ := Aside0.mk (Kd.N_lower (Kd.N_mono (ok' := fun k_ => some k_ ≠ (v105 : Value).ownBlock) (Kd.S_N (Kd.S_bound ho0)) (fun k_ hk_ => (Kd.fresh' (Kd.N_lt (by (with_reducible repeat (first | apply Kd.N_alloc | apply Kd.N_drewN | apply Kd.N_drew)); exact HO106.out)) k_ hk_.2.1))) (below_size (by repeat (first | (with_reducible first | exact HB.out | apply below_alloc | apply pw_below_drewN | apply below_drew1) | exact HB.out)))); have n2_ := Aside0.mk (below_step (by repeat (first | (with_reducible first | exact HB.out | apply below_alloc | apply pw_below_drewN | apply below_drew1) | exact HB.out)) hb); clear HO106; clear HB; have HO106 := n0_; have HO111 := n1_; have HB := n2_; clear n0_ n1_ n2_; (try clear hb); (try clear hb2); (try clear hk); (try clear hi); (try clear ho0)) | ((with_reducible refine gate_callee (f := 65) rfl ?_); refine goesL_ (some 31) rfl rfl Try.func65 (by kernel_rfl) rfl #[.slice A0 l0.length c0] rfl (by (try simp only [List.map_toArray, List.map_cons, List.map_nil]); first | done | rfl | (simp only [List.length_drop, List.length_take]; rfl)) ?_; (with_reducible refine (matrix_Check.calls kj2 _ _ l0 t112 _ ?side1 ?side2 A12.out).mono ?_); (case side1 => repeat (first | exact (Kd.C_below HR0.out HB.out) | (with_reducible refine Kd.C_alloc ?_ _) | (with_reducible refine Kd.C_drewN ?_ _) | (with_reducible refine Kd.C_drew ?_))); (case side2 => exact HC0.out); rintro e w' ⟨rfl, ⟨nd, rfl⟩⟩; refine ⟨_, rfl, ?_⟩) | ((with_reducible refine gate_callee (f := 53) rfl ?_); refine goesL_ (some 33) rfl rfl Try.func53 (by kernel_rfl) rfl #[.slice A0 l0.length c0] rfl (by (try simp only [List.map_toArray, List.map_cons, List.map_nil]); first | done | rfl | (simp only [List.length_drop, List.length_take]; rfl)) ?_; (with_reducible refine (mooringref02_May.calls kj2 _ _ l0 t113 _ ?side1 ?side2 A13.out).mono ?_); (case side1 => repeat (first | exact (Kd.C_below HR0.out (by repeat (first | (with_reducible first | exact HB.out | apply below_alloc | apply pw_below_drewN | apply below_drew1) | exact HB.out))) | (with_reducible refine Kd.C_alloc ?_ _) | (with_reducible refine Kd.C_drewN ?_ _) | (with_reducible refine Kd.C_drew ?_))); (case side2 => exact HC0.out); rintro e w' ⟨rfl, ⟨nd, rfl⟩⟩; refine ⟨_, rfl, ?_⟩) | ((with_reducible refine gate_callee (f := 66) rfl ?_); refine goesL_ (some 34) rfl rfl Try.func66 (by kernel_rfl) rfl #[.bool t113] rfl (by (try simp only [List.map_toArray, List.map_cons, List.map_nil]); first | done | rfl | (simp only [List.length_drop, List.length_take]; rfl)) ?_; (with_reducible refine (mooringlaw02_errno.calls t113 t114 _ A14.out).mono ?_); rintro e w' ⟨rfl, ⟨nd, rfl⟩⟩; refine ⟨_, rfl, ?_⟩; obtain ⟨Ao27, co27, eo27⟩ := Kd.N_slice HO106.out; subst eo27; obtain ⟨Ao28, co28, eo28⟩ := Kd.N_slice HO111.out; subst eo28) | (go_at_call 57; (with_reducible refine (mooringref02_Same.calls kj2 _ _ t104 _ _ t108 false _ ?side1 ?side2 ?side3 ?side4 A17.out).mono ?_); (case side1 => repeat (first | exact (Kd.N_reads' HO106.out).2.2 | (with_reducible refine Kd.C_alloc ?_ _) | (with_reducible refine Kd.C_drewN ?_ _) | (with_reducible refine Kd.C_drew ?_))); (case side2 => exact (Kd.N_reads' HO106.out).2.1); (case side3 => repeat (first | exact (Kd.N_reads' HO111.out).2.2 | (with_reducible refine Kd.C_alloc ?_ _) | (with_reducible refine Kd.C_drewN ?_ _) | (with_reducible refine Kd.C_drew ?_))); (case side4 => exact (Kd.N_reads' HO111.out).2.1); rintro e w' ⟨rfl, ⟨nd, rfl⟩⟩))
              go_ret
              exact ⟨by first | rfl | (simp [errW_none, errW_some] <;> rfl) | (simp [*, errW_none, errW_some] <;> rfl), by repeat (first | (with_reducible first | exact HB.out | apply below_alloc | apply pw_below_drewN | apply below_drew1) | exact HB.out)⟩
          · rw [if_neg c16] at H
            have c16b0 : (t107 == t109) = false := beq_eq_false_iff_ne.mpr c16
            have c16b1 : (t107 != t109) = true := bne_iff_ne.mpr c16
            obtain rfl := Option.some.inj H
            go_wp2_with (first | ((with_reducible refine gate_callee (f := 64) rfl ?_); refine goesL_ (some 21) rfl rfl Try.func64 (by kernel_rfl) rfl #[.slice A0 l0.length c0, .slice A1 l1.length c1] rfl (by (try simp only [List.map_toArray, List.map_cons, List.map_nil]); first | done | rfl | (simp only [List.length_drop, List.length_take]; rfl)) ?_; (with_reducible refine (matrix_Mul.calls kj2 _ _ l0 _ _ l1 t104 t107 _ ?side1 ?side2 ?side3 ?side4 A10.out).mono ?_); (case side1 => repeat (first | exact (Kd.C_below HR0.out HB.out) | (with_reducible refine Kd.C_alloc ?_ _) | (with_reducible refine Kd.C_drewN ?_ _) | (with_reducible refine Kd.C_drew ?_))); (case side2 => exact HC0.out); (case side3 => repeat (first | exact (Kd.C_below HR1.out HB.out) | (with_reducible refine Kd.C_alloc ?_ _) | (with_reducible refine Kd.C_drewN ?_ _) | (with_reducible refine Kd.C_drew ?_))); (case side4 => exact HC1.out); rintro e w29 ⟨v105, rfl, ho0, hb⟩; refine ⟨_, rfl, ?_⟩; have n0_ := Aside0.mk (Kd.N_lower (Kd.N_mono (ok' := fun k_ => True) ho0 (fun k_ hk_ => trivial)) (below_size (by repeat (first | (with_reducible first | exact HB.out | apply below_alloc | apply pw_below_drewN | apply below_drew1) | exact HB.out)))); have n1_ := Aside0.mk (below_step (by repeat (first | (with_reducible first | exact HB.out | apply below_alloc | apply pw_below_drewN | apply below_drew1) | exact HB.out)) hb); clear HB; have HO106 := n0_; have HB := n1_; clear n0_ n1_; (try clear hb); (try clear hb2); (try clear hk); (try clear hi); (try clear ho0)) | ((with_reducible refine gate_callee (f := 55) rfl ?_); refine goesL_ (some 27) rfl rfl Try.func55 (by kernel_rfl) rfl #[.slice A0 l0.length c0, .slice A1 l1.length c1] rfl (by (try simp only [List.map_toArray, List.map_cons, List.map_nil]); first | done | rfl | (simp only [List.length_drop, List.length_take]; rfl)) ?_; (with_reducible refine (mooringref02_Mul.calls kj2 _ _ l0 _ _ l1 t108 t109 _ ?side1 ?side2 ?side3 ?side4 A11.out).mono ?_); (case side1 => repeat (first | exact (Kd.C_below HR0.out HB.out) | (with_reducible refine Kd.C_alloc ?_ _) | (with_reducible refine Kd.C_drewN ?_ _) | (with_reducible refine Kd.C_drew ?_))); (case side2 => exact HC0.out); (case side3 => repeat (first | exact (Kd.C_below HR1.out HB.out) | (with_reducible refine Kd.C_alloc ?_ _) | (with_reducible refine Kd.C_drewN ?_ _) | (with_reducible refine Kd.C_drew ?_))); (case side4 => exact HC1.out); rintro e w30 ⟨v110, rfl, ho0, hb⟩; refine ⟨_, rfl, ?_⟩; have n0_ := Aside0.mk (Kd.N_elder' (by (with_reducible repeat (first | apply Kd.N_alloc | apply Kd.N_drewN | apply Kd.N_drew)); exact HO106.out) (by first | exact Kd.N_base ho0 | exact Kd.S_base ho0) hb); have n1_ := Aside0.mk (Kd.N_lower (Kd.N_mono (ok' := fun k_ => some k_ ≠ (v105 : Value).ownBlock) (Kd.S_N (Kd.S_bound ho0)) (fun k_ hk_ => (Kd.fresh' (Kd.N_lt (by (with_reducible repeat (first | apply Kd.N_alloc | apply Kd.N_drewN | apply Kd.N_drew)); exact HO106.out)) k_ hk_.2.1))) (below_size (by repeat (first | (with_reducible first | exact HB.out | apply below_alloc | apply pw_below_drewN | apply below_drew1) | exact HB.out)))); have n2_ := Aside0.mk (below_step (by repeat (first | (with_reducible first | exact HB.out | apply below_alloc | apply pw_below_drewN | apply below_drew1) | exact HB.out)) hb); clear HO106; clear HB; have HO106 := n0_; have HO111 := n1_; have HB := n2_; clear n0_ n1_ n2_; (try clear hb); (try clear hb2); (try clear hk); (try clear hi); (try clear ho0)) | ((with_reducible refine gate_callee (f := 65) rfl ?_); refine goesL_ (some 31) rfl rfl Try.func65 (by kernel_rfl) rfl #[.slice A0 l0.length c0] rfl (by (try simp only [List.map_toArray, List.map_cons, List.map_nil]); first | done | rfl | (simp only [List.length_drop, List.length_take]; rfl)) ?_; (with_reducible refine (matrix_Check.calls kj2 _ _ l0 t112 _ ?side1 ?side2 A12.out).mono ?_); (case side1 => repeat (first | exact (Kd.C_below HR0.out HB.out) | (with_reducible refine Kd.C_alloc ?_ _) | (with_reducible refine Kd.C_drewN ?_ _) | (with_reducible refine Kd.C_drew ?_))); (case side2 => exact HC0.out); rintro e w' ⟨rfl, ⟨nd, rfl⟩⟩; refine ⟨_, rfl, ?_⟩) | ((with_reducible refine gate_callee (f := 53) rfl ?_); refine goesL_ (some 33) rfl rfl Try.func53 (by kernel_rfl) rfl #[.slice A0 l0.length c0] rfl (by (try simp only [List.map_toArray, List.map_cons, List.map_nil]); first | done | rfl | (simp only [List.length_drop, List.length_take]; rfl)) ?_; (with_reducible refine (mooringref02_May.calls kj2 _ _ l0 t113 _ ?side1 ?side2 A13.out).mono ?_); (case side1 => repeat (first | exact (Kd.C_below HR0.out (by repeat (first | (with_reducible first | exact HB.out | apply below_alloc | apply pw_below_drewN | apply below_drew1) | exact HB.out))) | (with_reducible refine Kd.C_alloc ?_ _) | (with_reducible refine Kd.C_drewN ?_ _) | (with_reducible refine Kd.C_drew ?_))); (case side2 => exact HC0.out); rintro e w' ⟨rfl, ⟨nd, rfl⟩⟩; refine ⟨_, rfl, ?_⟩) | ((with_reducible refine gate_callee (f := 66) rfl ?_); refine goesL_ (some 34) rfl rfl Try.func66 (by kernel_rfl) rfl #[.bool t113] rfl (by (try simp only [List.map_toArray, List.map_cons, List.map_nil]); first | done | rfl | (simp only [List.length_drop, List.length_take]; rfl)) ?_; (with_reducible refine (mooringlaw02_errno.calls t113 t114 _ A14.out).mono ?_); rintro e w' ⟨rfl, ⟨nd, rfl⟩⟩; refine ⟨_, rfl, ?_⟩))
            go_ret
            exact ⟨by first | rfl | (simp [errW_none, errW_some] <;> rfl) | (simp [*, errW_none, errW_some] <;> rfl), by repeat (first | (with_reducible first | exact HB.out | apply below_alloc | apply pw_below_drewN | apply below_drew1) | exact HB.out)⟩
        · rw [if_neg c15] at H
          have c15b0 : (t112 == t114) = false := beq_eq_false_iff_ne.mpr c15
          have c15b1 : (t112 != t114) = true := bne_iff_ne.mpr c15
          obtain rfl := Option.some.inj H
          go_wp2_with (first | ((with_reducible refine gate_callee (f := 64) rfl ?_); refine goesL_ (some 21) rfl rfl Try.func64 (by kernel_rfl) rfl #[.slice A0 l0.length c0, .slice A1 l1.length c1] rfl (by (try simp only [List.map_toArray, List.map_cons, List.map_nil]); first | done | rfl | (simp only [List.length_drop, List.length_take]; rfl)) ?_; (with_reducible refine (matrix_Mul.calls kj2 _ _ l0 _ _ l1 t104 t107 _ ?side1 ?side2 ?side3 ?side4 A10.out).mono ?_); (case side1 => repeat (first | exact (Kd.C_below HR0.out HB.out) | (with_reducible refine Kd.C_alloc ?_ _) | (with_reducible refine Kd.C_drewN ?_ _) | (with_reducible refine Kd.C_drew ?_))); (case side2 => exact HC0.out); (case side3 => repeat (first | exact (Kd.C_below HR1.out HB.out) | (with_reducible refine Kd.C_alloc ?_ _) | (with_reducible refine Kd.C_drewN ?_ _) | (with_reducible refine Kd.C_drew ?_))); (case side4 => exact HC1.out); rintro e w31 ⟨v105, rfl, ho0, hb⟩; refine ⟨_, rfl, ?_⟩; have n0_ := Aside0.mk (Kd.N_lower (Kd.N_mono (ok' := fun k_ => True) ho0 (fun k_ hk_ => trivial)) (below_size (by repeat (first | (with_reducible first | exact HB.out | apply below_alloc | apply pw_below_drewN | apply below_drew1) | exact HB.out)))); have n1_ := Aside0.mk (below_step (by repeat (first | (with_reducible first | exact HB.out | apply below_alloc | apply pw_below_drewN | apply below_drew1) | exact HB.out)) hb); clear HB; have HO106 := n0_; have HB := n1_; clear n0_ n1_; (try clear hb); (try clear hb2); (try clear hk); (try clear hi); (try clear ho0)) | ((with_reducible refine gate_callee (f := 55) rfl ?_); refine goesL_ (some 27) rfl rfl Try.func55 (by kernel_rfl) rfl #[.slice A0 l0.length c0, .slice A1 l1.length c1] rfl (by (try simp only [List.map_toArray, List.map_cons, List.map_nil]); first | done | rfl | (simp only [List.length_drop, List.length_take]; rfl)) ?_; (with_reducible refine (mooringref02_Mul.calls kj2 _ _ l0 _ _ l1 t108 t109 _ ?side1 ?side2 ?side3 ?side4 A11.out).mono ?_); (case side1 => repeat (first | exact (Kd.C_below HR0.out HB.out) | (with_reducible refine Kd.C_alloc ?_ _) | (with_reducible refine Kd.C_drewN ?_ _) | (with_reducible refine Kd.C_drew ?_))); (case side2 => exact HC0.out); (case side3 => repeat (first | exact (Kd.C_below HR1.out HB.out) | (with_reducible refine Kd.C_alloc ?_ _) | (with_reducible refine Kd.C_drewN ?_ _) | (with_reducible refine Kd.C_drew ?_))); (case side4 => exact HC1.out); rintro e w32 ⟨v110, rfl, ho0, hb⟩; refine ⟨_, rfl, ?_⟩; have n0_ := Aside0.mk (Kd.N_elder' (by (with_reducible repeat (first | apply Kd.N_alloc | apply Kd.N_drewN | apply Kd.N_drew)); exact HO106.out) (by first | exact Kd.N_base ho0 | exact Kd.S_base ho0) hb); have n1_ := Aside0.mk (Kd.N_lower (Kd.N_mono (ok' := fun k_ => some k_ ≠ (v105 : Value).ownBlock) (Kd.S_N (Kd.S_bound ho0)) (fun k_ hk_ => (Kd.fresh' (Kd.N_lt (by (with_reducible repeat (first | apply Kd.N_alloc | apply Kd.N_drewN | apply Kd.N_drew)); exact HO106.out)) k_ hk_.2.1))) (below_size (by repeat (first | (with_reducible first | exact HB.out | apply below_alloc | apply pw_below_drewN | apply below_drew1) | exact HB.out)))); have n2_ := Aside0.mk (below_step (by repeat (first | (with_reducible first | exact HB.out | apply below_alloc | apply pw_below_drewN | apply below_drew1) | exact HB.out)) hb); clear HO106; clear HB; have HO106 := n0_; have HO111 := n1_; have HB := n2_; clear n0_ n1_ n2_; (try clear hb); (try clear hb2); (try clear hk); (try clear hi); (try clear ho0)) | ((with_reducible refine gate_callee (f := 65) rfl ?_); refine goesL_ (some 31) rfl rfl Try.func65 (by kernel_rfl) rfl #[.slice A0 l0.length c0] rfl (by (try simp only [List.map_toArray, List.map_cons, List.map_nil]); first | done | rfl | (simp only [List.length_drop, List.length_take]; rfl)) ?_; (with_reducible refine (matrix_Check.calls kj2 _ _ l0 t112 _ ?side1 ?side2 A12.out).mono ?_); (case side1 => repeat (first | exact (Kd.C_below HR0.out HB.out) | (with_reducible refine Kd.C_alloc ?_ _) | (with_reducible refine Kd.C_drewN ?_ _) | (with_reducible refine Kd.C_drew ?_))); (case side2 => exact HC0.out); rintro e w' ⟨rfl, ⟨nd, rfl⟩⟩; refine ⟨_, rfl, ?_⟩) | ((with_reducible refine gate_callee (f := 53) rfl ?_); refine goesL_ (some 33) rfl rfl Try.func53 (by kernel_rfl) rfl #[.slice A0 l0.length c0] rfl (by (try simp only [List.map_toArray, List.map_cons, List.map_nil]); first | done | rfl | (simp only [List.length_drop, List.length_take]; rfl)) ?_; (with_reducible refine (mooringref02_May.calls kj2 _ _ l0 t113 _ ?side1 ?side2 A13.out).mono ?_); (case side1 => repeat (first | exact (Kd.C_below HR0.out (by repeat (first | (with_reducible first | exact HB.out | apply below_alloc | apply pw_below_drewN | apply below_drew1) | exact HB.out))) | (with_reducible refine Kd.C_alloc ?_ _) | (with_reducible refine Kd.C_drewN ?_ _) | (with_reducible refine Kd.C_drew ?_))); (case side2 => exact HC0.out); rintro e w' ⟨rfl, ⟨nd, rfl⟩⟩; refine ⟨_, rfl, ?_⟩) | ((with_reducible refine gate_callee (f := 66) rfl ?_); refine goesL_ (some 34) rfl rfl Try.func66 (by kernel_rfl) rfl #[.bool t113] rfl (by (try simp only [List.map_toArray, List.map_cons, List.map_nil]); first | done | rfl | (simp only [List.length_drop, List.length_take]; rfl)) ?_; (with_reducible refine (mooringlaw02_errno.calls t113 t114 _ A14.out).mono ?_); rintro e w' ⟨rfl, ⟨nd, rfl⟩⟩; refine ⟨_, rfl, ?_⟩))
          go_ret
          exact ⟨by first | rfl | (simp [errW_none, errW_some] <;> rfl) | (simp [*, errW_none, errW_some] <;> rfl), by repeat (first | (with_reducible first | exact HB.out | apply below_alloc | apply pw_below_drewN | apply below_drew1) | exact HB.out)⟩

end Go.Proofs.Ytbogmlckbkogiaa.P

/- What the products of the program and of the reference come to, and whether matrices are alike. Conditions: told at each. -/
namespace Go.Proofs.Ytbogmlckbkogiaa.Red
open Go.RowKit Go.Proofs.YtbogmlckbkogiaaW.PrintWords Go.Proofs.Ytbogmlckbkogiaa.Leaf Go.Proofs.Ytbogmlckbkogiaa.Gf Go.Proofs.Ytbogmlckbkogiaa.H Go.Proofs.Ytbogmlckbkogiaa.Mx Go.Proofs.Ytbogmlckbkogiaa.P
set_option linter.unusedVariables false
set_option linter.unusedSimpArgs false
/-- The product. -/
def mulM (A C : Mat) : Mat := matF A.length (row C 0).length (mm C.length (el A) (el C))
def mulR (A C : Mat) : List (List Int) × Int := if mayB A = true ∧ mayB C = true ∧ (row A 0).length = C.length then (oM (mulM A C), 0) else ([], 1)
/-- The product on its way. -/
def stM (n m p : Nat) (A C : Mat) (i k : Nat) : Mat := matF n p fun a b => if a < i then mm m (el A) (el C) a b else if a = i then sm k (fun l => mul (el A a l) (el C l b)) else 0#8
theorem stM_next (n m p : Nat) (A C : Mat) (i : Nat) : stM n m p A C i m = stM n m p A C (i + 1) 0 := by
  refine mat_ext (matF_reg n p _) (matF_reg n p _) fun a b ha hb => ?_
  unfold stM
  rw [el_matF _ ha hb, el_matF _ ha hb]
  by_cases e : a < i
  · rw [if_pos e, if_pos (by omega)]
  · rw [if_neg e]
    by_cases e2 : a = i
    · rw [if_pos e2, if_pos (by omega)]; rfl
    · rw [if_neg e2, if_neg (by omega)]
      by_cases e3 : a = i + 1
      · rw [if_pos e3]; rfl
      · rw [if_neg e3]
theorem stM_step {n m p : Nat} {A C : Mat} (hC : Reg C m p) {i k : Nat} (hi : i < n) (hk : k < m) :
    (stM n m p A C i k).set i (am (row (stM n m p A C i k) i) (row C k) (el A i k) (row (stM n m p A C i k) i).length) = stM n m p A C i (k + 1) := by
  have hr : Reg (stM n m p A C i k) n p := matF_reg n p _
  refine mat_ext (hr.set hi (by rw [am_length]; exact hr.2 i hi)) (matF_reg n p _) fun a b ha hb => ?_
  have e0 : el (stM n m p A C i (k + 1)) a b = if a < i then mm m (el A) (el C) a b else if a = i then sm (k + 1) (fun l => mul (el A a l) (el C l b)) else 0#8 := by unfold stM; rw [el_matF _ ha hb]
  have e1 : el (stM n m p A C i k) a b = if a < i then mm m (el A) (el C) a b else if a = i then sm k (fun l => mul (el A a l) (el C l b)) else 0#8 := by unfold stM; rw [el_matF _ ha hb]
  rw [e0]
  show at0 (row _ a) b = _
  rw [row_set _ _ _ _ (by rw [hr.1]; exact hi)]
  by_cases e : a = i
  · subst e
    rw [if_pos rfl, am_at _ _ _ _ (by rw [hr.2 a ha]; exact hb), if_neg (by omega), if_pos rfl]
    rw [if_neg (by omega), if_pos rfl] at e1
    simp only [sm]
    rw [← e1, mul_comm (el A a k)]
    rfl
  · rw [if_neg e]
    show el (stM n m p A C i k) a b = _
    rw [e1]
    by_cases e2 : a < i
    · rw [if_pos e2, if_pos e2]
    · rw [if_neg e2, if_neg e2, if_neg e, if_neg e]
theorem mul_l1 {n m p : Nat} {A C : Mat} (hA : Reg A n m) (hC : Reg C m p) (hn : n ≤ 255) (hm : m ≤ 255) (hp : p ≤ 255) (r : List (List Int) × Int) (i : Nat) (hi : i < n)
    (hnext : Ev (fun k => matrix_Mul.l0 k (oM C) (oM (stM n m p A C (i + 1) 0)) (oM A) (n : Int) ((i + 1 : Nat) : Int)) r) (d : Nat) : ∀ k : Nat, k + d = m →
    Ev (fun f => matrix_Mul.l1 f (oM C) (oM (stM n m p A C i k)) (i : Int) (oM A) (n : Int) (i : Int) (ofL (row A i)) (m : Int) (k : Int)) r := by
  induction d with
  | zero =>
    intro k hk
    obtain rfl : k = m := by omega
    refine Ev.step (f := fun f => matrix_Mul.l0 f (oM C) (oM (stM n k p A C (i + 1) 0)) (oM A) (n : Int) ((i + 1 : Nat) : Int)) (fun f => ?_) hnext
    simp only [matrix_Mul.l1]
    rw [if_neg (by omega), stM_next, w64 _ (by omega) (by omega)]
    rfl
  | succ d ih =>
    intro k hk
    have hr : Reg (stM n m p A C i k) n p := matF_reg n p _
    refine Ev.step (f := fun f => (gf_AddMul.f f (ofL (row (stM n m p A C i k) i)) (ofL (row C k)) (ofB (el A i k))).bind fun bt112 => matrix_Mul.l1 f (oM C) ((oM (stM n m p A C i k)).set i bt112.1) (i : Int) (oM A) (n : Int) (i : Int) (ofL (row A i)) (m : Int) ((k + 1 : Nat) : Int)) (fun f => ?_) ?_
    · simp only [matrix_Mul.l1, ofL_length, oM_length, rd_oM, rd_ofL, hA.2 i hi, hr.1, hC.1, Int.toNat_natCast]
      rw [if_pos (by omega), if_pos (by omega), if_pos (by omega), if_pos (by omega), if_pos (by omega), if_pos (by omega), w64 _ (by omega) (by omega)]
      rfl
    · refine Ev.bind (gfAddMul _ _ _ (by rw [hr.2 i hi]; omega)) ?_
      unfold addMulB
      rw [if_pos (by rw [hr.2 i hi, hC.2 k (by omega)])]
      simp only []
      rw [oM_set, stM_step hC hi (by omega)]
      exact ih (k + 1) (by omega)
theorem mul_l0 {n m p : Nat} {A C : Mat} (hA : Reg A n m) (hC : Reg C m p) (hn : n ≤ 255) (hm : m ≤ 255) (hp : p ≤ 255) (d : Nat) : ∀ i : Nat, i + d = n →
    Ev (fun k => matrix_Mul.l0 k (oM C) (oM (stM n m p A C i 0)) (oM A) (n : Int) (i : Int)) (oM (stM n m p A C n 0), 0) := by
  induction d with
  | zero =>
    intro i hi
    obtain rfl : i = n := by omega
    refine Ev.step (f := fun _ => some (oM (stM i m p A C i 0), 0)) (fun k => ?_) (Ev.now _)
    simp only [matrix_Mul.l0]
    rw [if_neg (by omega)]
  | succ d ih =>
    intro i hi
    refine Ev.step (f := fun f => matrix_Mul.l1 f (oM C) (oM (stM n m p A C i 0)) (i : Int) (oM A) (n : Int) (i : Int) (ofL (row A i)) (m : Int) ((0 : Nat) : Int)) (fun f => ?_) (mul_l1 hA hC hn hm hp _ i (by omega) (ih (i + 1) (by omega)) m 0 (by omega))
    simp only [matrix_Mul.l0, oM_length, rd_oM, ofL_length, hA.1, hA.2 i (by omega)]
    rw [if_pos (by omega), if_pos (by omega), if_pos (by omega)]
    rfl
theorem stM_all {n m p : Nat} {A C : Mat} (hA : Reg A n m) (hC : Reg C m p) (hm : 0 < m) : stM n m p A C n 0 = mulM A C := by
  unfold mulM
  rw [hA.1, hC.1, hC.2 0 hm]
  refine mat_ext (matF_reg n p _) (matF_reg n p _) fun a b ha hb => ?_
  unfold stM
  rw [el_matF _ ha hb, el_matF _ ha hb, if_pos ha]
theorem mayB_pos {A : Mat} (h : mayB A = true) : 0 < A.length := ((mayB_iff A).1 h).1
theorem evMul (A C : Mat) (hs : A.length ≤ 9223372036854775807) (hs2 : C.length ≤ 9223372036854775807) : Ev (fun k => matrix_Mul.f k (oM A) (oM C)) (mulR A C) := by
  have j1 : Ev (fun k => matrix_Mul.j0 k (oM A) (oM C) true) ([], 1) := Ev.step (f := fun _ => some ([], 1)) (fun k => by simp only [matrix_Mul.j0, if_true]) (Ev.now _)
  unfold matrix_Mul.f mulR
  refine Ev.bind (evCheck A hs) ?_
  by_cases h1 : mayB A = true
  · simp only [h1, if_true]
    refine Ev.bind (evCheck C hs2) ?_
    by_cases h2 : mayB C = true
    · simp only [h2, if_true, true_and, oM_length, rd_oM0, ofL_length, show ((0 : Int) < (A.length : Int)) = True from eq_true (by have := mayB_pos h1; omega)]
      by_cases h3 : (row A 0).length = C.length
      · simp only [show (((row A 0).length : Int) != (C.length : Int)) = false by simp [h3]]
        rw [if_pos h3]
        obtain ⟨hA, a1, a2, a3, a4⟩ := mayB_reg h1
        obtain ⟨hC, b1, b2, b3, b4⟩ := mayB_reg h2
        refine Ev.step (f := fun k => (matrix_zeros.f k (A.length : Int) ((row C 0).length : Int)).bind fun t105 => matrix_Mul.l0 k (oM C) t105 (oM A) (A.length : Int) 0) (fun k => ?_) ?_
        · simp only [matrix_Mul.j0, Bool.false_eq_true, if_false, oM_length, rd_oM0, ofL_length]
          rw [if_pos (by omega)]
        · refine Ev.bind (evZeros _ _ (by omega) (by omega)) ?_
          have hz : zeroM A.length (row C 0).length = stM A.length C.length (row C 0).length A C 0 0 := by
            refine mat_ext (zeroM_reg _ _) (matF_reg _ _ _) fun a b ha hb => ?_
            unfold stM
            rw [el_zeroM ha hb, el_matF _ ha hb, if_neg (by omega)]
            by_cases e : a = 0
            · rw [if_pos e]; rfl
            · rw [if_neg e]
          rw [h3] at hA
          rw [hz, ← stM_all hA hC b1]
          exact mul_l0 hA hC a2 b2 b4 A.length 0 (by omega)
      · simp only [show (((row A 0).length : Int) != (C.length : Int)) = true by simp; omega]
        rw [if_neg h3]
        exact j1
    · simp only [h2, show ((1 : Int) = 0) = False from eq_false (by decide), if_false, false_and, and_false]
      exact j1
  · simp only [h1, show ((1 : Int) = 0) = False from eq_false (by decide), if_false, false_and]
    exact j1
/-! ### The reference's product -/
theorem refMul_l2 {n m p : Nat} {A C : Mat} (hA : Reg A n m) (hC : Reg C m p) (hm : m ≤ 255) (hp : p ≤ 255) (r : List (List Int) × Int) (X : List (List Int)) (Y : List Int) (i j : Nat) (hi : i < n) (hj : j < p) (hY : Y.length ≤ 255)
    (hnext : Ev (fun k => mooringref02_Mul.l1 k (oM A) (oM C) X (i : Int) (Y ++ [ofB (mm m (el A) (el C) i j)]) ((j + 1 : Nat) : Int)) r) (d : Nat) : ∀ k : Nat, k + d = m →
    Ev (fun f => mooringref02_Mul.l2 f (oM A) (oM C) X (i : Int) Y (j : Int) (ofB (sm k (fun l => mul (el A i l) (el C l j)))) (k : Int)) r := by
  induction d with
  | zero =>
    intro k hk
    obtain rfl : k = m := by omega
    refine Ev.step (f := fun f => mooringref02_Mul.l1 f (oM A) (oM C) X (i : Int) (Y ++ [ofB (mm k (el A) (el C) i j)]) ((j + 1 : Nat) : Int)) (fun f => ?_) hnext
    simp only [mooringref02_Mul.l2, oM_length, hC.1]
    rw [if_neg (by omega), if_pos (by omega), w64 _ (by omega) (by omega)]
    rfl
  | succ d ih =>
    intro k hk
    refine Ev.step (f := fun f => (mooringref01_Mul.f f (ofB (el A i k)) (ofB (el C k j))).bind fun t118 => mooringref02_Mul.l2 f (oM A) (oM C) X (i : Int) Y (j : Int) (Go.bits .xor .u8 (ofB (sm k (fun l => mul (el A i l) (el C l j)))) t118) ((k + 1 : Nat) : Int)) (fun f => ?_) ?_
    · simp only [mooringref02_Mul.l2, oM_length, hC.1, hA.1, rd_oM, rd_ofL, ofL_length, hA.2 i hi, hC.2 k (by omega)]
      rw [if_pos (by omega), if_pos (by omega), if_pos (by omega), if_pos (by omega), if_pos (by omega), if_pos (by omega), if_pos (by omega), w64 _ (by omega) (by omega)]
      rfl
    · refine Ev.bind (refMul _ _) ?_
      rw [xor_ofB]
      exact ih (k + 1) (by omega)
theorem refMul_l1 {n m p : Nat} {A C : Mat} (hA : Reg A n m) (hC : Reg C m p) (hn : n ≤ 255) (hm0 : 0 < m) (hm : m ≤ 255) (hp : p ≤ 255) (r : List (List Int) × Int) (i : Nat) (hi : i < n)
    (hnext : Ev (fun k => mooringref02_Mul.l0 k (oM A) (oM C) (oM (matF (i + 1) p (mm m (el A) (el C)))) ((i + 1 : Nat) : Int)) r) (d : Nat) : ∀ j : Nat, j + d = p →
    Ev (fun f => mooringref02_Mul.l1 f (oM A) (oM C) (oM (matF i p (mm m (el A) (el C)))) (i : Int) (ofL ((List.range j).map (mm m (el A) (el C) i))) (j : Int)) r := by
  induction d with
  | zero =>
    intro j hj
    obtain rfl : j = p := by omega
    refine Ev.step (f := fun f => mooringref02_Mul.l0 f (oM A) (oM C) (oM (matF (i + 1) j (mm m (el A) (el C)))) ((i + 1 : Nat) : Int)) (fun f => ?_) hnext
    simp only [mooringref02_Mul.l1, oM_length, hC.1, rd_oM0, ofL_length, hC.2 0 hm0, (matF_reg i j (mm m (el A) (el C))).1]
    rw [if_pos (by omega), if_neg (by omega), if_pos (by omega), oM_one, oM_append, w64 _ (by omega) (by omega)]
    have e2 : matF i j (mm m (el A) (el C)) ++ [(List.range j).map (mm m (el A) (el C) i)] = matF (i + 1) j (mm m (el A) (el C)) := by unfold matF; rw [List.range_succ, List.map_append]; rfl
    rw [e2]
    rfl
  | succ d ih =>
    intro j hj
    refine Ev.step (f := fun f => mooringref02_Mul.l2 f (oM A) (oM C) (oM (matF i p (mm m (el A) (el C)))) (i : Int) (ofL ((List.range j).map (mm m (el A) (el C) i))) (j : Int) (ofB (sm 0 (fun l => mul (el A i l) (el C l j)))) ((0 : Nat) : Int)) (fun f => ?_) ?_
    · simp only [mooringref02_Mul.l1, oM_length, hC.1, rd_oM0, ofL_length, hC.2 0 hm0]
      rw [if_pos (by omega), if_pos (by omega)]
      rfl
    · refine refMul_l2 hA hC hm hp r _ _ i j hi (by omega) (by rw [ofL_length, List.length_map, List.length_range]; omega) ?_ m 0 (by omega)
      have e : ofL ((List.range j).map (mm m (el A) (el C) i)) ++ [ofB (mm m (el A) (el C) i j)] = ofL ((List.range (j + 1)).map (mm m (el A) (el C) i)) := by
        rw [List.range_succ, List.map_append]; unfold ofL; rw [List.map_append]; rfl
      rw [e]
      exact ih (j + 1) (by omega)
theorem refMul_l0' {n m p : Nat} {A C : Mat} (hA : Reg A n m) (hC : Reg C m p) (hn : n ≤ 255) (hm0 : 0 < m) (hm : m ≤ 255) (hp : p ≤ 255) (d : Nat) : ∀ i : Nat, i + d = n →
    Ev (fun k => mooringref02_Mul.l0 k (oM A) (oM C) (oM (matF i p (mm m (el A) (el C)))) (i : Int)) (oM (matF n p (mm m (el A) (el C))), 0) := by
  induction d with
  | zero =>
    intro i hi
    obtain rfl : i = n := by omega
    refine Ev.step (f := fun _ => some (oM (matF i p (mm m (el A) (el C))), 0)) (fun k => ?_) (Ev.now _)
    simp only [mooringref02_Mul.l0, oM_length, hA.1]
    rw [if_neg (by omega)]
  | succ d ih =>
    intro i hi
    refine Ev.step (f := fun f => mooringref02_Mul.l1 f (oM A) (oM C) (oM (matF i p (mm m (el A) (el C)))) (i : Int) (ofL ((List.range 0).map (mm m (el A) (el C) i))) ((0 : Nat) : Int)) (fun f => ?_) (refMul_l1 hA hC hn hm0 hm hp _ i (by omega) (ih (i + 1) (by omega)) p 0 (by omega))
    simp only [mooringref02_Mul.l0, oM_length, hA.1]
    rw [if_pos (by omega)]
    rfl
theorem evRefMul (A C : Mat) (hs : A.length ≤ 9223372036854775807) (hs2 : C.length ≤ 9223372036854775807) : Ev (fun k => mooringref02_Mul.f k (oM A) (oM C)) (mulR A C) := by
  have j1 : Ev (fun k => mooringref02_Mul.j0 k (oM A) (oM C) true) ([], 1) := Ev.step (f := fun _ => some ([], 1)) (fun k => by simp only [mooringref02_Mul.j0, if_true]) (Ev.now _)
  unfold mooringref02_Mul.f mulR
  refine Ev.bind (evMay A hs) ?_
  by_cases h1 : mayB A = true
  · simp only [h1, if_true]
    refine Ev.bind (evMay C hs2) ?_
    by_cases h2 : mayB C = true
    · simp only [h2, if_true, true_and, oM_length, rd_oM0, ofL_length, show ((0 : Int) < (A.length : Int)) = True from eq_true (by have := mayB_pos h1; omega)]
      by_cases h3 : (row A 0).length = C.length
      · simp only [show (((row A 0).length : Int) != (C.length : Int)) = false by simp [h3]]
        rw [if_pos h3]
        obtain ⟨hA, a1, a2, a3, a4⟩ := mayB_reg h1
        obtain ⟨hC, b1, b2, b3, b4⟩ := mayB_reg h2
        refine Ev.step (f := fun k => mooringref02_Mul.l0 k (oM A) (oM C) (oM (matF 0 (row C 0).length (mm C.length (el A) (el C)))) ((0 : Nat) : Int)) (fun k => ?_) ?_
        · simp only [mooringref02_Mul.j0, Bool.false_eq_true, if_false]
          rfl
        · rw [h3] at hA
          exact refMul_l0' hA hC a2 b1 b2 b4 A.length 0 (by omega)
      · simp only [show (((row A 0).length : Int) != (C.length : Int)) = true by simp; omega]
        rw [if_neg h3]
        exact j1
    · simp only [h2, Bool.false_eq_true, if_false, false_and, and_false]
      exact j1
  · simp only [h1, Bool.false_eq_true, if_false, false_and]
    exact j1
/-! ### Are matrices alike? -/
theorem str_eq (L M : List B) : (strOfNums (ofL L)).toList = (strOfNums (ofL M)).toList ↔ L = M := by
  refine ⟨fun h => ?_, fun h => by rw [h]⟩
  rw [ByteArray.toList_eq, ByteArray.toList_eq, strOfNums_data, strOfNums_data] at h
  have h2 := congrArg (List.map fun c : UInt8 => BitVec.ofNat 8 c.toNat) h
  have hid : ∀ N : List B, ((ofL N).map fun n => UInt8.ofNat n.toNat).map (fun c : UInt8 => BitVec.ofNat 8 c.toNat) = N := by
    intro N
    unfold ofL
    rw [List.map_map, List.map_map]
    refine (List.map_congr_left fun x _ => ?_).trans (List.map_id' N)
    have hx := x.isLt
    simp only [Function.comp, ofB, Int.toNat_natCast]
    apply BitVec.eq_of_toNat_eq
    simp
  rw [hid, hid] at h2
  exact h2
theorem same_l0 (A C : Mat) (hl : A.length = C.length) (hs : A.length ≤ 9223372036854775807) (d : Nat) : ∀ i : Nat, i + d = A.length → (∀ j, j < i → row A j = row C j) → Ev (fun k => mooringref02_Same.l0 k (oM A) (oM C) (i : Int)) (decide (A = C)) := by
  induction d with
  | zero =>
    intro i hi h
    have e : A = C := by
      refine List.ext_getElem hl fun j h1 h2 => ?_
      have h3 := h j (by omega)
      unfold row at h3
      rw [List.getD_eq_getElem?_getD, List.getElem?_eq_getElem h1, List.getD_eq_getElem?_getD, List.getElem?_eq_getElem h2] at h3
      exact h3
    rw [decide_eq_true e]
    refine Ev.step (f := fun _ => some true) (fun k => ?_) (Ev.now _)
    simp only [mooringref02_Same.l0, oM_length]
    rw [if_neg (by omega)]
  | succ d ih =>
    intro i hi h
    by_cases he : row A i = row C i
    · refine Ev.step (f := fun k => mooringref02_Same.l0 k (oM A) (oM C) ((i + 1 : Nat) : Int)) (fun k => ?_) (ih (i + 1) (by omega) (fun j hj => ?_))
      · simp only [mooringref02_Same.l0, oM_length, rd_oM]
        rw [if_pos (by omega), if_pos (by omega), if_pos (by omega), if_pos ((str_eq _ _).2 he), w64 _ (by omega) (by omega)]
        rfl
      · by_cases e : j = i
        · rw [e]; exact he
        · exact h j (by omega)
    · have e : decide (A = C) = false := decide_eq_false (fun e => he (by rw [e]))
      rw [e]
      refine Ev.step (f := fun _ => some false) (fun k => ?_) (Ev.now _)
      simp only [mooringref02_Same.l0, oM_length, rd_oM]
      rw [if_pos (by omega), if_pos (by omega), if_pos (by omega), if_neg (fun h => he ((str_eq _ _).1 h))]
theorem evSame (A C : Mat) (hs : A.length ≤ 9223372036854775807) : Ev (fun k => mooringref02_Same.f k (oM A) (oM C)) (decide (A = C)) := by
  unfold mooringref02_Same.f
  simp only [oM_length]
  by_cases h : A.length = C.length
  · simp only [show ((A.length : Int) = (C.length : Int)) = True from eq_true (by omega), if_true]
    exact same_l0 A C h hs A.length 0 (by omega) (fun j hj => by omega)
  · simp only [show ((A.length : Int) = (C.length : Int)) = False from eq_false (by omega), if_false]
    rw [decide_eq_false (fun e => h (by rw [e]))]
    exact Ev.now _
end Go.Proofs.Ytbogmlckbkogiaa.Red

/- For any two slices of rows of bytes the program's Check and Mul answer as the reference's (the law MatrixMuls answers true). Conditions: none. -/
namespace Go.Proofs.Ytbogmlckbkogiaa.Pure
open Go.RowKit Go.Proofs.YtbogmlckbkogiaaW.PrintWords Go.Proofs.Ytbogmlckbkogiaa.Leaf Go.Proofs.Ytbogmlckbkogiaa.P Go.Proofs.Ytbogmlckbkogiaa.Gf Go.Proofs.Ytbogmlckbkogiaa.Red Go.Proofs.Ytbogmlckbkogiaa.H
set_option linter.unusedSimpArgs false
set_option linter.unusedVariables false
def lightB (A : Mat) : Bool := decide (A.length ≤ 40) && (decide (A.length = 0) || decide ((row A 0).length ≤ 40))
theorem light_eq (A : Mat) : mooringlaw02_light.f (oM A) = some (lightB A) := by
  unfold mooringlaw02_light.f lightB
  simp only [oM_length, rd_oM0, ofL_length]
  by_cases h1 : A.length ≤ 40
  · rw [if_pos (by omega), decide_eq_true h1]
    by_cases h2 : A.length = 0
    · rw [if_pos (by omega), decide_eq_true h2]; rfl
    · rw [if_neg (by omega), if_pos (by omega), decide_eq_false h2]
      simp only [Bool.true_and, Bool.false_or, Option.some.injEq]
      by_cases h3 : (row A 0).length ≤ 40
      · rw [decide_eq_true h3, decide_eq_true (by omega)]
      · rw [decide_eq_false h3, decide_eq_false (by omega)]
  · rw [if_neg (by omega), decide_eq_false h1]; rfl
theorem mulR_oM (A C : Mat) : ∃ X, (mulR A C).1 = oM X ∧ X.length ≤ 255 := by
  unfold mulR
  by_cases h : mayB A = true ∧ mayB C = true ∧ (row A 0).length = C.length
  · rw [if_pos h]
    have := (mayB_reg h.1).2.2.1
    exact ⟨_, rfl, by unfold mulM; rw [(matF_reg _ _ _).1]; exact this⟩
  · rw [if_neg h]
    exact ⟨[], rfl, by decide⟩
theorem MatrixMuls (A : Mat) (hs : A.length * 24 ≤ 140737488351232) (hr : ∀ i, i < A.length → (row A i).length ≤ 140737488351232) (C : Mat) (hs2 : C.length * 24 ≤ 140737488351232) (hr2 : ∀ i, i < C.length → (row C i).length ≤ 140737488351232) :
    Ev (fun k => mooringlaw02_MatrixMuls.f k (oM A) (oM C)) true := by
  have j1 : Ev (fun k => mooringlaw02_MatrixMuls.j0 k (oM A) (oM C) true) true := Ev.step (f := fun _ => some true) (fun k => by simp only [mooringlaw02_MatrixMuls.j0, if_true, mooringlaw02_awake.f, Option.bind_some]) (Ev.now _)
  unfold mooringlaw02_MatrixMuls.f
  simp only [light_eq, Option.bind_some]
  cases h1 : lightB A with
  | false => simp only [Bool.false_eq_true, if_false]; exact j1
  | true =>
    simp only [if_true]
    cases h2 : lightB C with
    | false => exact j1
    | true =>
      obtain ⟨X, hX, hXl⟩ := mulR_oM A C
      refine Ev.step (f := fun k => (matrix_Mul.f k (oM A) (oM C)).bind fun bt104 => (mooringref02_Mul.f k (oM A) (oM C)).bind fun bt108 => (matrix_Check.f k (oM A)).bind fun t112 => (mooringref02_May.f k (oM A)).bind fun t113 => (mooringlaw02_errno.f t113).bind fun t114 => if t112 = t114 then (if bt104.2 = bt108.2 then (mooringref02_Same.f k bt104.1 bt108.1).bind fun t115 => if t115 = true then (mooringlaw02_awake.f).bind fun t116 => some t116 else some false else some false) else some false) (fun k => by simp only [mooringlaw02_MatrixMuls.j0, Bool.not_true, Bool.false_eq_true, if_false]) ?_
      refine Ev.bind (evMul A C (by omega) (by omega)) ?_
      refine Ev.bind (evRefMul A C (by omega) (by omega)) ?_
      refine Ev.bind (evCheck A (by omega)) ?_
      refine Ev.bind (evMay A (by omega)) ?_
      have he : mooringlaw02_errno.f (mayB A) = some (if mayB A = true then 0 else 1) := by unfold mooringlaw02_errno.f; cases mayB A <;> rfl
      simp only [he, Option.bind_some, if_true, hX]
      refine Ev.bind (evSame X X (by omega)) ?_
      simp only [decide_true, if_true, mooringlaw02_awake.f, Option.bind_some]
      exact Ev.now _
end Go.Proofs.Ytbogmlckbkogiaa.Pure

/- A slice of rows of bytes that came in, told as a matrix. Conditions: none. -/
namespace Go.Proofs.Ytbogmlckbkogiaa.H
open Go.RowKit Go.ChangeShapes Go.WideShapes Go.Deep Go.Proofs.YtbogmlckbkogiaaW.PrintWords Go.Proofs.Ytbogmlckbkogiaa.Leaf Go.Proofs.Ytbogmlckbkogiaa.Gf Go.Proofs.Ytbogmlckbkogiaa.Red
set_option linter.unusedVariables false
theorem rows_weights {H : Type} {P : Program} {e : TypeId} : ∀ {l : List (DataW H)} {d : DataW H}, d ∈ l → ∀ n ∈ d.weights P e, n ∈ DataW.weightsAll P e l
  | d0 :: l, d, hd, n, hn => by
    simp only [DataW.weightsAll, List.mem_append]
    rcases List.mem_cons.1 hd with rfl | hd
    · exact Or.inl hn
    · exact Or.inr (rows_weights hd n hn)
theorem u8_range {x : Int} (h : (Lit.int .u8 x).wf = true) : 0 ≤ x ∧ x < 256 := by
  have h1 : 0 ≤ x ∧ x ≤ 255 := by simpa [Lit.wf, IntKind.min, IntKind.max, IntKind.signed, IntKind.bits] using h
  omega
theorem rows_arg {H : Type} {enc : TypeId × Value → H} {W : World} {a : Option Addr} {len cap : Nat} {d : DataW H} {ps : List MemPlace} (h : DataW.Trod enc Try.prog W 0 (fun _ => true) true 51 (.slice a len cap) d ps) (hw : ∀ x ∈ d.weights Try.prog 51, x ≤ reachBytes) :
    ∃ M : Mat, len = M.length ∧ len ≤ cap ∧ Kd.C KR W a len (oM M) ∧ len * 24 ≤ 140737488351232 ∧ ∀ i, i < M.length → (row M i).length ≤ 140737488351232 := by
  obtain ⟨fuel, hf⟩ := h
  rcases open_int_rows Try.underlying51 Try.underlying22 Try.underlying5 (by kernel_rfl) (by kernel_rfl) hf with ⟨hcs, _⟩ | ⟨a', len', cap', A, L, C, Z, hcs, _, hl, hm, hx, hrow⟩
  · simp [Value.cells] at hcs
    obtain ⟨rfl, rfl, rfl⟩ := hcs
    exact ⟨[], rfl, Nat.le_refl _, Kd.C_nil _ _, by decide, fun i hi => absurd hi (Nat.not_lt_zero _)⟩
  · simp [Value.cells] at hcs
    obtain ⟨rfl, rfl, rfl⟩ := hcs
    obtain ⟨rfl, _⟩ := Prod.mk.inj hx
    have hlen : len ≤ 9223372036854775807 := by unfold maxLen at hm; omega
    let M : Mat := (List.range len).map fun r => ((Z r).take (L r)).map toB
    have hML : M.length = len := by simp [M]
    have hMr : ∀ r, r < len → row M r = ((Z r).take (L r)).map toB := fun r hr => row_map len (fun r => ((Z r).take (L r)).map toB) r hr
    have hlr : ∀ r, r < len → (row M r).length = L r := by
      intro r hr
      obtain ⟨_, h1, _, h2, _⟩ := hrow r (by omega)
      rw [hMr r hr, List.length_map, List.length_take, h2]
      omega
    have hof : ∀ r, r < len → ofL (row M r) = (Z r).take (L r) := by
      intro r hr
      obtain ⟨_, _, _, _, hz, _⟩ := hrow r (by omega)
      rw [hMr r hr]
      unfold ofL
      rw [List.map_map]
      refine (List.map_congr_left fun x hx => ?_).trans (List.map_id' _)
      have := u8_range (hz x (List.mem_of_mem_take hx))
      exact ofB_toB x this.1 this.2
    refine ⟨M, hML.symm, hl, ?_, ?_, fun r hr => ?_⟩
    · have hC := C_rows_of W a' (oM M) A C (by rw [oM_length, hML]; exact hlen) (fun r hr => by
        rw [oM_length, hML] at hr
        obtain ⟨hc, h1, h2, h3, h4, h5, h6⟩ := hrow r (by omega)
        have e : (oM M).getD r [] = ofL (row M r) := map_getD M r
        rw [e, ofL_length, hlr r hr]
        refine ⟨hc, h1, by rw [ofL_length, hlr r hr], by unfold maxLen at h2; omega, fun hp => ?_⟩
        cases hA : A r with
        | none => have := h5 hA; omega
        | some ad =>
          obtain ⟨_, h7⟩ := h6 ad hA
          refine ⟨ad, rfl, fun j p hj => ⟨[.int .u8 p], rfl, rfl, fun i u hu => ?_⟩⟩
          cases i with
          | zero =>
            cases hu
            show W.cell? (ad.add (j * 1 + 0)) = _
            rw [Nat.mul_one, Nat.add_zero]
            have hj' := (List.getElem?_eq_some_iff.1 hj).1
            rw [ofL_length, hlr r hr] at hj'
            rw [h7 j (by omega)]
            rw [hof r hr, List.getElem?_take, if_pos hj'] at hj
            rw [List.getD_eq_getElem?_getD, hj]
            rfl
          | succ i => simp at hu)
      rw [oM_length, hML] at hC
      exact hC
    · have h1 : ((len + (cap - len)) * 24) ∈ (DataW.slice ((List.range len).map fun r => intRow (H := H) .u8 (A r) (L r) (Z r)) ((List.range (cap - len)).map fun j => intRow .u8 (A (len + j)) (L (len + j)) (Z (len + j)))).weights Try.prog 51 := by
        simp only [DataW.weights, Try.underlying51, List.length_map, List.length_range]
        rw [show Try.prog.bytesOf 22 = 24 by kernel_rfl]
        exact List.mem_cons_self
      have h2 := hw _ h1
      have : reachBytes = 140737488351232 := by decide
      omega
    · rw [hML] at hr
      obtain ⟨hc, h1, h2, h3, h4, h5, h6⟩ := hrow r (by omega)
      rw [hlr r hr]
      cases hA : A r with
      | none => have := h5 hA; omega
      | some ad =>
        have hmem : intRow (H := H) .u8 (A r) (L r) (Z r) ∈ (List.range len).map fun r => intRow (H := H) .u8 (A r) (L r) (Z r) := List.mem_map.2 ⟨r, List.mem_range.2 hr, rfl⟩
        have hin := hw (((lits (H := H) .u8 ((Z r).take (L r))).length + (lits (H := H) .u8 ((Z r).drop (L r))).length) * 1) (by
          simp only [DataW.weights, Try.underlying51]
          refine List.mem_cons_of_mem _ (List.mem_append_left _ (rows_weights hmem _ ?_))
          rw [hA]
          simp only [intRow, DataW.weights, Try.underlying22]
          rw [show Try.prog.bytesOf 5 = 1 by kernel_rfl]
          exact List.mem_cons_self)
        have : reachBytes = 140737488351232 := by decide
        simp [lits] at hin
        omega
end Go.Proofs.Ytbogmlckbkogiaa.H
