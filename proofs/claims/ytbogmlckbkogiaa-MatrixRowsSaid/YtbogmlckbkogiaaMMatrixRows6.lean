/- The walk of function 16: mooringlaw02.MatrixRows, against what its callees tell (MrFacts). Conditions: told at each. -/
import Derived.Test.YtbogmlckbkogiaaMMatrixRows5
import Derived.Test.YtbogmlckbkogiaaMMatrixRows4
import Derived.Deep.Matrix
import Derived.SizedLaws
import Derived.ChangeSlices
namespace Go.Proofs.Ytbogmlckbkogiaa.H
open Go.RowKit Go.Proofs.YtbogmlckbkogiaaW.PrintWords Go.Proofs.YtbogmlckbkogiaaW.PrintLast Go.Proofs.YtbogmlckbkogiaaW.PrintMore Go.Proofs.Ytbogmlckbkogiaa.Leaf Go.Proofs.Ytbogmlckbkogiaa.Gf Go.Proofs.Ytbogmlckbkogiaa.Mx Go.Proofs.Ytbogmlckbkogiaa.P Go.Proofs.Ytbogmlckbkogiaa.Red
set_option linter.unusedVariables false
set_option linter.unusedSimpArgs false
/-- What the callees of MatrixRows tell. -/
structure MrFacts (l0 : List (List Int)) (l1 : List Int) (n : Int) (lb mb : Bool) (x0 i0 ys : List (List Int)) (e0 rk : Int) : Prop where
  id_ : Ev (fun k => matrix_Identity.f k n) (x0, e0)
  e0_in : 1 ≤ n → n ≤ 255 → e0 = 0
  e0_out : ¬ (1 ≤ n ∧ n ≤ 255) → e0 = 1
  ref : 1 ≤ n → n ≤ 255 → Ev (fun k => mooringref02_Identity.f k n) i0
  same : 1 ≤ n → n ≤ 255 → Ev (fun k => mooringref02_Same.f k x0 i0) true
  light : mooringlaw02_light.f l0 = some lb
  may : Ev (fun k => mooringref02_May.f k l0) mb
  rows : Ev (fun k => matrix_Rows.f k l0 l1) (ys, if (mb && decide (0 < l1.length) && decide (l1.length ≤ 255) && l1.all fun v => decide (0 ≤ v) && decide (v < l0.length)) = true then 0 else 1)
  rank : matrix_Rank.f l0 = some (rk, if mb = true then 0 else 1)
  refRank : mb = true → mooringref02_Rank.f l0 = some rk
  ysE : (mb && decide (0 < l1.length) && decide (l1.length ≤ 255) && l1.all fun v => decide (0 ≤ v) && decide (v < l0.length)) = true → ys = l1.map fun i => rd_L1 l0 i
  sameY : Ev (fun k => mooringref02_Same.f k ys ys) true
theorem id_calls (n : Int) (r1 : List (List Int)) (r2 : Int) (w : World) (h : Ev (fun k => matrix_Identity.f k n) (r1, r2)) :
    Calls Try.prog 68 #[.int .i64 n] w fun e w' => ∃ v0_ : Value, e = .returned (.tuple #[v0_, .int .i64 r2]) ∧ Kd.S (Kd.slice 5 (Kd.int .u8)) 22 w' w.heap.size (fun _ => True) v0_ r1 ∧ Below w.heap.size w w' := by
  obtain ⟨k, h⟩ := h.rounds
  exact matrix_Identity.calls k n r1 r2 w h
theorem refId_calls (n : Int) (r : List (List Int)) (w : World) (h : Ev (fun k => mooringref02_Identity.f k n) r) :
    Calls Try.prog 56 #[.int .i64 n] w fun e w' => ∃ v0_ : Value, e = .returned (v0_) ∧ Kd.S (Kd.slice 5 (Kd.int .u8)) 22 w' w.heap.size (fun _ => True) v0_ r ∧ Below w.heap.size w w' := by
  obtain ⟨k, h⟩ := h.rounds
  exact mooringref02_Identity.calls k n r w h
theorem may_calls (A0 : Option Addr) (c0 : Nat) (l0 : List (List Int)) (r : Bool) (w : World) (hr0 : Kd.C (Kd.slice 5 (Kd.int .u8)) w A0 l0.length l0) (hc0 : l0.length ≤ c0) (h : Ev (fun k => mooringref02_May.f k l0) r) :
    Calls Try.prog 53 #[.slice A0 l0.length c0] w fun e w' => e = .returned (.bool r) ∧ Drawn0 w w' := by
  obtain ⟨k, h⟩ := h.rounds
  exact mooringref02_May.calls k A0 c0 l0 r w hr0 hc0 h
theorem same_calls (A0 : Option Addr) (c0 : Nat) (l0 : List (List Int)) (A1 : Option Addr) (c1 : Nat) (l1 : List (List Int)) (r : Bool) (w : World) (hr0 : Kd.C (Kd.slice 5 (Kd.int .u8)) w A0 l0.length l0) (hc0 : l0.length ≤ c0) (hr1 : Kd.C (Kd.slice 5 (Kd.int .u8)) w A1 l1.length l1) (hc1 : l1.length ≤ c1) (h : Ev (fun k => mooringref02_Same.f k l0 l1) r) :
    Calls Try.prog 57 #[.slice A0 l0.length c0, .slice A1 l1.length c1] w fun e w' => e = .returned (.bool r) ∧ Drawn0 w w' := by
  obtain ⟨k, h⟩ := h.rounds
  exact mooringref02_Same.calls k A0 c0 l0 A1 c1 l1 r w hr0 hc0 hr1 hc1 h
theorem rows_calls (A0 : Option Addr) (c0 : Nat) (l0 : List (List Int)) (A1 : Option Addr) (c1 : Nat) (l1 : List Int) (r1 : List (List Int)) (r2 : Int) (w : World) (hr0 : Kd.C (Kd.slice 5 (Kd.int .u8)) w A0 l0.length l0) (hc0 : l0.length ≤ c0) (hr1 : Kd.C (Kd.int .i64) w A1 l1.length l1) (hc1 : l1.length ≤ c1) (h : Ev (fun k => matrix_Rows.f k l0 l1) (r1, r2)) :
    Calls Try.prog 69 #[.slice A0 l0.length c0, .slice A1 l1.length c1] w fun e w' => ∃ v0_ : Value, e = .returned (.tuple #[v0_, .int .i64 r2]) ∧ Kd.S (Kd.slice 5 (Kd.int .u8)) 22 w' w.heap.size (fun _ => True) v0_ r1 ∧ Below w.heap.size w w' := by
  obtain ⟨k, h⟩ := h.rounds
  exact matrix_Rows.calls k A0 c0 l0 A1 c1 l1 r1 r2 w hr0 hc0 hr1 hc1 h
/-- Rows that came in, read in what made them a row of the call's own: read now. -/
theorem fixed_C {w wr : World} {A : Option Addr} {n : Nat} {X : List (List Int)} (hb : Below w.heap.size w wr) (h : (Kd.fixed (Kd.slice 5 (Kd.int .u8)) w).C wr A n X) : Kd.C (Kd.slice 5 (Kd.int .u8)) wr A n X :=
  ReadsRow.imp_ (R' := (Kd.slice 5 (Kd.int .u8)).K wr) h (Below.refl _ _) (fun _ _ hp => (Kd.slice 5 (Kd.int .u8)).K_below hb hp)
theorem fixed_ne (w : World) (t : Nat) (h : 22 ≠ t) : ∀ q, q ∈ 22 :: (Kd.fixed (Kd.slice 5 (Kd.int .u8)) w).E → q ≠ t := by
  intro q hq
  rcases List.mem_cons.1 hq with rfl | hq
  · exact h
  · exact absurd (show q ∈ ([] : List Nat) from hq) List.not_mem_nil
theorem all_take {l : List Int} {p : Int → Bool} (h : ∀ j, j < l.length → p (rd l (j : Int)) = true) : l.all p = true := by
  rw [List.all_eq_true]
  intro x hx
  obtain ⟨j, hj, rfl⟩ := List.mem_iff_getElem.1 hx
  have := h j hj
  simpa [rd, List.getD_eq_getElem?_getD, hj] using this
theorem not_all {l : List Int} {p : Int → Bool} {j : Nat} (hj : j < l.length) (h : p (rd l (j : Int)) = false) : l.all p = false := by
  rw [← Bool.not_eq_true, List.all_eq_true]
  intro hn
  rw [hn _ (Red.rd_mem l j hj)] at h
  cases h
theorem map_upto (l : List Int) (g : Int → List Int) (s : Nat) (hs : s < l.length) : (l.take s).map g ++ [g (rd l (s : Int))] = (l.take (s + 1)).map g := by
  rw [List.take_add_one, List.map_append]
  congr 1
  simp [rd, List.getD_eq_getElem?_getD, hs]
/-- Where the loop stands. -/
structure MrAt (l0 : List (List Int)) (l1 : List Int) (st ok : Bool) (s : Nat) (X : List (List Int)) : Prop where
  yes : ok = true → st = true ∧ (∀ j, j < s → 0 ≤ rd l1 (j : Int) ∧ rd l1 (j : Int) < l0.length) ∧ X = (l1.take s).map fun i => rd_L1 l0 i
  no : ok = false → (st && l1.all fun v => decide (0 ≤ v) && decide (v < l0.length)) = false
set_option maxHeartbeats 16000000 in
set_option maxRecDepth 100000 in
theorem MatrixRows.calls (A0 : Option Addr) (c0 : Nat) (l0 : List (List Int)) (A1 : Option Addr) (c1 : Nat) (l1 : List Int) (n : Int) (lb mb : Bool) (x0 i0 ys : List (List Int)) (e0 rk : Int) (w : World)
    (hr0 : Kd.C (Kd.slice 5 (Kd.int .u8)) w A0 l0.length l0) (hc0 : l0.length ≤ c0) (hr1 : Kd.C (Kd.int .i64) w A1 l1.length l1) (hc1 : l1.length ≤ c1) (hz : l1.length * 8 ≤ 140737488351232) (hf : MrFacts l0 l1 n lb mb x0 i0 ys e0 rk) :
    Calls Try.prog 16 #[.slice A0 l0.length c0, .slice A1 l1.length c1, .int .i64 n] w fun e w' => e = .returned (.bool true) ∧ Below w.heap.size w w' := by
  have HR0 := Aside0.mk hr0
  have HC0 := Aside0.mk hc0
  have HR1 := Aside0.mk hr1
  have HC1 := Aside0.mk hc1
  have HZ := Aside0.mk hz
  have HF := Aside0.mk hf
  clear hr0 hc0 hr1 hc1 hz hf
  have HB := Aside0.mk (Below.refl w.heap.size w)
  go_enter Try.func16, Try.ntmps16
  go_upto_region 2 with (first | ((with_reducible refine gate_callee (f := 68) rfl ?_); refine goesL_ (some 17) rfl rfl Try.func68 (by kernel_rfl) rfl #[.int .i64 n] rfl (by (try simp only [List.map_toArray, List.map_cons, List.map_nil]); first | done | rfl) ?_; (with_reducible refine (id_calls n x0 e0 _ HF.out.id_).mono ?_); rintro e wn_ ⟨v0_, rfl, hS, hb⟩; refine ⟨_, rfl, ?_⟩; obtain ⟨Ax, cx, rfl⟩ := Kd.S_slice hS; have HX := Aside0.mk (Kd.S_reads' hS).2.2; have HXL := Aside0.mk (Kd.S_reads' hS).2.1; have nb_ := Aside0.mk (below_step (by repeat (first | (with_reducible first | exact HB.out | apply below_alloc | apply pw_below_drewN | apply below_drew1) | exact HB.out)) hb); clear HB; have HB := nb_; clear nb_ hb hS))
  (try simp only [Act.put, List.setIfInBounds_toArray, List.set_cons_zero, List.set_cons_succ])
  go_cut [44] (fun v44 wc => ∃ nl : Bool, v44 = .bool nl ∧ Aside0 (nl = !lb) ∧ Aside0 (Below w.heap.size w wc))
  case first =>
      by_cases c1 : 1 ≤ n
      · by_cases c2 : n ≤ 255
        · have HN := Aside0.mk (And.intro c1 c2)
          obtain rfl := HF.out.e0_in c1 c2
          go_wp2_with (first | ((with_reducible refine gate_callee (f := 66) rfl ?_); refine goesL_ (some 27) rfl rfl Try.func66 (by kernel_rfl) rfl #[.bool true] rfl (by (try simp only [List.map_toArray, List.map_cons, List.map_nil]); first | done | rfl) ?_; (with_reducible refine (mooringlaw02_errno.calls true 0 _ rfl).mono ?_); rintro e w' ⟨rfl, ⟨nd, rfl⟩⟩; refine ⟨_, rfl, ?_⟩) | (go_at_call 56; (with_reducible refine (refId_calls n i0 _ (HF.out.ref HN.out.1 HN.out.2)).mono ?_); rintro e wn_ ⟨v0_, rfl, hS, hb⟩; obtain ⟨Ai, ci, rfl⟩ := Kd.S_slice hS; have HI := Aside0.mk (Kd.S_reads' hS).2.2; have HIL := Aside0.mk (Kd.S_reads' hS).2.1; have n0_ := Aside0.mk (Kd.C_below (by repeat (first | exact HX.out | (with_reducible refine Kd.C_alloc ?_ _) | (with_reducible refine Kd.C_drewN ?_ _) | (with_reducible refine Kd.C_drew ?_))) hb); have nb_ := Aside0.mk (below_step (by repeat (first | (with_reducible first | exact HB.out | apply below_alloc | apply pw_below_drewN | apply below_drew1) | exact HB.out)) hb); clear HX; clear HB; have HX := n0_; have HB := nb_; clear nb_; clear n0_; clear hb; clear hS) | (go_at_call 57; (with_reducible refine (same_calls _ _ x0 _ _ i0 true _ ?side1 ?side2 ?side3 ?side4 (HF.out.same HN.out.1 HN.out.2)).mono ?_); (case side1 => repeat (first | exact HX.out | (with_reducible refine Kd.C_alloc ?_ _) | (with_reducible refine Kd.C_drewN ?_ _) | (with_reducible refine Kd.C_drew ?_))); (case side2 => exact HXL.out); (case side3 => repeat (first | exact HI.out | (with_reducible refine Kd.C_alloc ?_ _) | (with_reducible refine Kd.C_drewN ?_ _) | (with_reducible refine Kd.C_drew ?_))); (case side4 => exact HIL.out); rintro e w' ⟨rfl, ⟨nd, rfl⟩⟩) | (go_at_call 50; (with_reducible refine (mooringlaw02_light.calls _ _ l0 _ _ ?side1 ?side2 HF.out.light).mono ?_); (case side1 => repeat (first | exact (Kd.C_below HR0.out HB.out) | (with_reducible refine Kd.C_alloc ?_ _) | (with_reducible refine Kd.C_drewN ?_ _) | (with_reducible refine Kd.C_drew ?_))); (case side2 => exact HC0.out); rintro e w' ⟨rfl, ⟨nd, rfl⟩⟩))
          go_meet
          case rel => exact ⟨_, (by first | rfl | (simp; done) | (simp [*]; done)), ⟨by first | rfl | (simp; done) | (simp [*]; done)⟩, ⟨(by repeat (first | (with_reducible first | exact HB.out | apply below_alloc | apply pw_below_drewN | apply below_drew1) | exact HB.out))⟩⟩
        · obtain rfl := HF.out.e0_out (fun h => c2 h.2)
          go_wp2_with (first | ((with_reducible refine gate_callee (f := 66) rfl ?_); refine goesL_ (some 27) rfl rfl Try.func66 (by kernel_rfl) rfl #[.bool false] rfl (by (try simp only [List.map_toArray, List.map_cons, List.map_nil]); first | done | rfl) ?_; (with_reducible refine (mooringlaw02_errno.calls false 1 _ rfl).mono ?_); rintro e w' ⟨rfl, ⟨nd, rfl⟩⟩; refine ⟨_, rfl, ?_⟩) | (go_at_call 56; (with_reducible refine (refId_calls n i0 _ (HF.out.ref HN.out.1 HN.out.2)).mono ?_); rintro e wn_ ⟨v0_, rfl, hS, hb⟩; obtain ⟨Ai, ci, rfl⟩ := Kd.S_slice hS; have HI := Aside0.mk (Kd.S_reads' hS).2.2; have HIL := Aside0.mk (Kd.S_reads' hS).2.1; have n0_ := Aside0.mk (Kd.C_below (by repeat (first | exact HX.out | (with_reducible refine Kd.C_alloc ?_ _) | (with_reducible refine Kd.C_drewN ?_ _) | (with_reducible refine Kd.C_drew ?_))) hb); have nb_ := Aside0.mk (below_step (by repeat (first | (with_reducible first | exact HB.out | apply below_alloc | apply pw_below_drewN | apply below_drew1) | exact HB.out)) hb); clear HX; clear HB; have HX := n0_; have HB := nb_; clear nb_; clear n0_; clear hb; clear hS) | (go_at_call 57; (with_reducible refine (same_calls _ _ x0 _ _ i0 true _ ?side1 ?side2 ?side3 ?side4 (HF.out.same HN.out.1 HN.out.2)).mono ?_); (case side1 => repeat (first | exact HX.out | (with_reducible refine Kd.C_alloc ?_ _) | (with_reducible refine Kd.C_drewN ?_ _) | (with_reducible refine Kd.C_drew ?_))); (case side2 => exact HXL.out); (case side3 => repeat (first | exact HI.out | (with_reducible refine Kd.C_alloc ?_ _) | (with_reducible refine Kd.C_drewN ?_ _) | (with_reducible refine Kd.C_drew ?_))); (case side4 => exact HIL.out); rintro e w' ⟨rfl, ⟨nd, rfl⟩⟩) | (go_at_call 50; (with_reducible refine (mooringlaw02_light.calls _ _ l0 _ _ ?side1 ?side2 HF.out.light).mono ?_); (case side1 => repeat (first | exact (Kd.C_below HR0.out HB.out) | (with_reducible refine Kd.C_alloc ?_ _) | (with_reducible refine Kd.C_drewN ?_ _) | (with_reducible refine Kd.C_drew ?_))); (case side2 => exact HC0.out); rintro e w' ⟨rfl, ⟨nd, rfl⟩⟩))
          go_meet
          case rel => exact ⟨_, (by first | rfl | (simp; done) | (simp [*]; done)), ⟨by first | rfl | (simp; done) | (simp [*]; done)⟩, ⟨(by repeat (first | (with_reducible first | exact HB.out | apply below_alloc | apply pw_below_drewN | apply below_drew1) | exact HB.out))⟩⟩
      · obtain rfl := HF.out.e0_out (fun h => c1 h.1)
        go_wp2_with (first | ((with_reducible refine gate_callee (f := 66) rfl ?_); refine goesL_ (some 27) rfl rfl Try.func66 (by kernel_rfl) rfl #[.bool false] rfl (by (try simp only [List.map_toArray, List.map_cons, List.map_nil]); first | done | rfl) ?_; (with_reducible refine (mooringlaw02_errno.calls false 1 _ rfl).mono ?_); rintro e w' ⟨rfl, ⟨nd, rfl⟩⟩; refine ⟨_, rfl, ?_⟩) | (go_at_call 56; (with_reducible refine (refId_calls n i0 _ (HF.out.ref HN.out.1 HN.out.2)).mono ?_); rintro e wn_ ⟨v0_, rfl, hS, hb⟩; obtain ⟨Ai, ci, rfl⟩ := Kd.S_slice hS; have HI := Aside0.mk (Kd.S_reads' hS).2.2; have HIL := Aside0.mk (Kd.S_reads' hS).2.1; have n0_ := Aside0.mk (Kd.C_below (by repeat (first | exact HX.out | (with_reducible refine Kd.C_alloc ?_ _) | (with_reducible refine Kd.C_drewN ?_ _) | (with_reducible refine Kd.C_drew ?_))) hb); have nb_ := Aside0.mk (below_step (by repeat (first | (with_reducible first | exact HB.out | apply below_alloc | apply pw_below_drewN | apply below_drew1) | exact HB.out)) hb); clear HX; clear HB; have HX := n0_; have HB := nb_; clear nb_; clear n0_; clear hb; clear hS) | (go_at_call 57; (with_reducible refine (same_calls _ _ x0 _ _ i0 true _ ?side1 ?side2 ?side3 ?side4 (HF.out.same HN.out.1 HN.out.2)).mono ?_); (case side1 => repeat (first | exact HX.out | (with_reducible refine Kd.C_alloc ?_ _) | (with_reducible refine Kd.C_drewN ?_ _) | (with_reducible refine Kd.C_drew ?_))); (case side2 => exact HXL.out); (case side3 => repeat (first | exact HI.out | (with_reducible refine Kd.C_alloc ?_ _) | (with_reducible refine Kd.C_drewN ?_ _) | (with_reducible refine Kd.C_drew ?_))); (case side4 => exact HIL.out); rintro e w' ⟨rfl, ⟨nd, rfl⟩⟩) | (go_at_call 50; (with_reducible refine (mooringlaw02_light.calls _ _ l0 _ _ ?side1 ?side2 HF.out.light).mono ?_); (case side1 => repeat (first | exact (Kd.C_below HR0.out HB.out) | (with_reducible refine Kd.C_alloc ?_ _) | (with_reducible refine Kd.C_drewN ?_ _) | (with_reducible refine Kd.C_drew ?_))); (case side2 => exact HC0.out); rintro e w' ⟨rfl, ⟨nd, rfl⟩⟩))
        go_meet
        case rel => exact ⟨_, (by first | rfl | (simp; done) | (simp [*]; done)), ⟨by first | rfl | (simp; done) | (simp [*]; done)⟩, ⟨(by repeat (first | (with_reducible first | exact HB.out | apply below_alloc | apply pw_below_drewN | apply below_drew1) | exact HB.out))⟩⟩
  case rest =>
    obtain ⟨nl, rfl, HNL, HB⟩ := hcut
    clear HX HXL
    cases nl with
    | true =>
      obtain rfl : lb = false := by cases lb with | false => rfl | true => exact absurd HNL.out (by decide)
      go_wp2_with (first | ((with_reducible refine gate_callee (f := 50) rfl ?_); refine goesL_ (some 46) rfl rfl Try.func50 (by kernel_rfl) rfl #[.slice A0 l0.length c0] rfl (by (try simp only [List.map_toArray, List.map_cons, List.map_nil]); first | done | rfl) ?_; (with_reducible refine (mooringlaw02_light.calls _ _ l0 _ _ ?side1 ?side2 HF.out.light).mono ?_); (case side1 => repeat (first | exact (Kd.C_below HR0.out HB.out) | (with_reducible refine Kd.C_alloc ?_ _) | (with_reducible refine Kd.C_drewN ?_ _) | (with_reducible refine Kd.C_drew ?_))); (case side2 => exact HC0.out); rintro e w' ⟨rfl, ⟨nd, rfl⟩⟩; refine ⟨_, rfl, ?_⟩) | (go_at_call 50; (with_reducible refine (mooringlaw02_light.calls _ _ l0 _ _ ?side1 ?side2 HF.out.light).mono ?_); (case side1 => repeat (first | exact (Kd.C_below HR0.out HB.out) | (with_reducible refine Kd.C_alloc ?_ _) | (with_reducible refine Kd.C_drewN ?_ _) | (with_reducible refine Kd.C_drew ?_))); (case side2 => exact HC0.out); rintro e w' ⟨rfl, ⟨nd, rfl⟩⟩) | (go_at_call 51; (with_reducible refine (mooringlaw02_awake.calls true _ rfl).mono ?_); rintro e wn_ ⟨rfl, hb⟩; have nb_ := Aside0.mk (below_step (by repeat (first | (with_reducible first | exact HB.out | apply below_alloc | apply pw_below_drewN | apply below_drew1) | exact HB.out)) hb); clear HB; have HB := nb_; clear nb_; clear hb))
      go_ret
      exact ⟨by first | rfl | (simp [errW_none, errW_some] <;> rfl) | (simp [*, errW_none, errW_some] <;> rfl), (by repeat (first | (with_reducible first | exact HB.out | apply below_alloc | apply pw_below_drewN | apply below_drew1) | exact HB.out))⟩
    | false =>
      obtain rfl : lb = true := by cases lb with | true => rfl | false => exact absurd HNL.out (by decide)
      go_upto_region 4 with (fail)
      (try simp only [Act.put, List.setIfInBounds_toArray, List.set_cons_zero, List.set_cons_succ])
      go_cut [9] (fun v9 wc => ∃ st : Bool, v9 = .bool st ∧ Aside0 (st = (mb && decide (0 < l1.length) && decide (l1.length ≤ 255))) ∧ Aside0 (Below w.heap.size w wc))
      case first =>
        cases mb with
        | false =>
          go_wp2_with (first | ((with_reducible refine gate_callee (f := 53) rfl ?_); refine goesL_ (some 52) rfl rfl Try.func53 (by kernel_rfl) rfl #[.slice A0 l0.length c0] rfl (by (try simp only [List.map_toArray, List.map_cons, List.map_nil]); first | done | rfl) ?_; (with_reducible refine (may_calls _ _ l0 _ _ ?side1 ?side2 HF.out.may).mono ?_); (case side1 => repeat (first | exact (Kd.C_below HR0.out HB.out) | (with_reducible refine Kd.C_alloc ?_ _) | (with_reducible refine Kd.C_drewN ?_ _) | (with_reducible refine Kd.C_drew ?_))); (case side2 => exact HC0.out); rintro e w' ⟨rfl, ⟨nd, rfl⟩⟩; refine ⟨_, rfl, ?_⟩) | (go_at_call 53; (with_reducible refine (may_calls _ _ l0 _ _ ?side1 ?side2 HF.out.may).mono ?_); (case side1 => repeat (first | exact (Kd.C_below HR0.out HB.out) | (with_reducible refine Kd.C_alloc ?_ _) | (with_reducible refine Kd.C_drewN ?_ _) | (with_reducible refine Kd.C_drew ?_))); (case side2 => exact HC0.out); rintro e w' ⟨rfl, ⟨nd, rfl⟩⟩))
          go_meet
          case rel => exact ⟨false, (by first | rfl | (simp; done) | (simp [*]; done)), ⟨rfl⟩, ⟨(by repeat (first | (with_reducible first | exact HB.out | apply below_alloc | apply pw_below_drewN | apply below_drew1) | exact HB.out))⟩⟩
        | true =>
          by_cases c3 : (0 : Int) < (l1.length : Int)
          · by_cases c4 : (l1.length : Int) ≤ 255
            · have HS : Aside0 (true = (true && decide (0 < l1.length) && decide (l1.length ≤ 255))) := ⟨by rw [decide_eq_true (by omega), decide_eq_true (by omega)]; rfl⟩
              go_wp2_with (first | ((with_reducible refine gate_callee (f := 53) rfl ?_); refine goesL_ (some 52) rfl rfl Try.func53 (by kernel_rfl) rfl #[.slice A0 l0.length c0] rfl (by (try simp only [List.map_toArray, List.map_cons, List.map_nil]); first | done | rfl) ?_; (with_reducible refine (may_calls _ _ l0 _ _ ?side1 ?side2 HF.out.may).mono ?_); (case side1 => repeat (first | exact (Kd.C_below HR0.out HB.out) | (with_reducible refine Kd.C_alloc ?_ _) | (with_reducible refine Kd.C_drewN ?_ _) | (with_reducible refine Kd.C_drew ?_))); (case side2 => exact HC0.out); rintro e w' ⟨rfl, ⟨nd, rfl⟩⟩; refine ⟨_, rfl, ?_⟩) | (go_at_call 53; (with_reducible refine (may_calls _ _ l0 _ _ ?side1 ?side2 HF.out.may).mono ?_); (case side1 => repeat (first | exact (Kd.C_below HR0.out HB.out) | (with_reducible refine Kd.C_alloc ?_ _) | (with_reducible refine Kd.C_drewN ?_ _) | (with_reducible refine Kd.C_drew ?_))); (case side2 => exact HC0.out); rintro e w' ⟨rfl, ⟨nd, rfl⟩⟩))
              go_meet
              case rel => exact ⟨true, (by first | rfl | (simp; done) | (simp [*]; done)), HS, ⟨(by repeat (first | (with_reducible first | exact HB.out | apply below_alloc | apply pw_below_drewN | apply below_drew1) | exact HB.out))⟩⟩
            · have HS : Aside0 (false = (true && decide (0 < l1.length) && decide (l1.length ≤ 255))) := ⟨by rw [decide_eq_false (show ¬ l1.length ≤ 255 by omega), Bool.and_false]⟩
              go_wp2_with (first | ((with_reducible refine gate_callee (f := 53) rfl ?_); refine goesL_ (some 52) rfl rfl Try.func53 (by kernel_rfl) rfl #[.slice A0 l0.length c0] rfl (by (try simp only [List.map_toArray, List.map_cons, List.map_nil]); first | done | rfl) ?_; (with_reducible refine (may_calls _ _ l0 _ _ ?side1 ?side2 HF.out.may).mono ?_); (case side1 => repeat (first | exact (Kd.C_below HR0.out HB.out) | (with_reducible refine Kd.C_alloc ?_ _) | (with_reducible refine Kd.C_drewN ?_ _) | (with_reducible refine Kd.C_drew ?_))); (case side2 => exact HC0.out); rintro e w' ⟨rfl, ⟨nd, rfl⟩⟩; refine ⟨_, rfl, ?_⟩) | (go_at_call 53; (with_reducible refine (may_calls _ _ l0 _ _ ?side1 ?side2 HF.out.may).mono ?_); (case side1 => repeat (first | exact (Kd.C_below HR0.out HB.out) | (with_reducible refine Kd.C_alloc ?_ _) | (with_reducible refine Kd.C_drewN ?_ _) | (with_reducible refine Kd.C_drew ?_))); (case side2 => exact HC0.out); rintro e w' ⟨rfl, ⟨nd, rfl⟩⟩))
              go_meet
              case rel => exact ⟨false, (by first | rfl | (simp; done) | (simp [*]; done)), HS, ⟨(by repeat (first | (with_reducible first | exact HB.out | apply below_alloc | apply pw_below_drewN | apply below_drew1) | exact HB.out))⟩⟩
          · have HS : Aside0 (false = (true && decide (0 < l1.length) && decide (l1.length ≤ 255))) := ⟨by rw [decide_eq_false (show ¬ 0 < l1.length by omega), Bool.and_false, Bool.false_and]⟩
            go_wp2_with (first | ((with_reducible refine gate_callee (f := 53) rfl ?_); refine goesL_ (some 52) rfl rfl Try.func53 (by kernel_rfl) rfl #[.slice A0 l0.length c0] rfl (by (try simp only [List.map_toArray, List.map_cons, List.map_nil]); first | done | rfl) ?_; (with_reducible refine (may_calls _ _ l0 _ _ ?side1 ?side2 HF.out.may).mono ?_); (case side1 => repeat (first | exact (Kd.C_below HR0.out HB.out) | (with_reducible refine Kd.C_alloc ?_ _) | (with_reducible refine Kd.C_drewN ?_ _) | (with_reducible refine Kd.C_drew ?_))); (case side2 => exact HC0.out); rintro e w' ⟨rfl, ⟨nd, rfl⟩⟩; refine ⟨_, rfl, ?_⟩) | (go_at_call 53; (with_reducible refine (may_calls _ _ l0 _ _ ?side1 ?side2 HF.out.may).mono ?_); (case side1 => repeat (first | exact (Kd.C_below HR0.out HB.out) | (with_reducible refine Kd.C_alloc ?_ _) | (with_reducible refine Kd.C_drewN ?_ _) | (with_reducible refine Kd.C_drew ?_))); (case side2 => exact HC0.out); rintro e w' ⟨rfl, ⟨nd, rfl⟩⟩))
            go_meet
            case rel => exact ⟨false, (by first | rfl | (simp; done) | (simp [*]; done)), HS, ⟨(by repeat (first | (with_reducible first | exact HB.out | apply below_alloc | apply pw_below_drewN | apply below_drew1) | exact HB.out))⟩⟩
      case rest =>
        obtain ⟨st, rfl, HST, HB⟩ := hcut
        clear HNL
        go_upto_region 7 with (first | ((with_reducible refine gate_dst (N := 63) rfl ?_); refine Kd.R_lit (Kd.fixed (Kd.slice 5 (Kd.int .u8)) w) _ 22 ?hg (N := 63) ?hd (xs := ([] : List (List Int))) (inner := []) (ok := fun _ => True) (okp := fun _ => True) ?hr ?hp (fun _ hk => hk) trivial (Below.refl _ _) (Nat.le_refl _) (by simp) ?_; (case hd => rfl); (case hg => rfl); (case hr => first | (go_simp; done) | (go_simp; rfl)); (case hp => exact (Reps.none _ _)); intro vw_ wn_ ho hb hg_ hnew_; clear hg_ hnew_; have HO := Aside0.mk (Kd.R_lower ho (below_size (by repeat (first | (with_reducible first | exact HB.out | apply below_alloc | apply pw_below_drewN | apply below_drew1) | exact HB.out)))); have nb_ := Aside0.mk (below_step (by repeat (first | (with_reducible first | exact HB.out | apply below_alloc | apply pw_below_drewN | apply below_drew1) | exact HB.out)) hb); clear HB; have HB := nb_; clear nb_ hb ho))
        (try simp only [Act.put, List.setIfInBounds_toArray, List.set_cons_zero, List.set_cons_succ])

        go_loopg [9, 10, 11] l1.length (fun gg v9 v10 v11 w' => ∃ (s : Nat) (ok : Bool) (X : List (List Int)) (i : Int), s + gg = l1.length ∧ v9 = .bool ok ∧ v11 = .int .i64 i ∧ Aside0 (i = (s : Int)) ∧ Aside0 (MrAt l0 l1 st ok s X) ∧ Aside0 (Kd.R (Kd.fixed (Kd.slice 5 (Kd.int .u8)) w) 22 w' w.heap.size (fun _ => True) v10 X) ∧ Aside0 (Below w.heap.size w w'))
        case atStart => exact ⟨0, st, [], 0, by omega, rfl, rfl, ⟨rfl⟩, ⟨⟨fun h => ⟨h, fun j hj => absurd hj (Nat.not_lt_zero _), rfl⟩, fun h => by rw [h]; rfl⟩⟩, ⟨(by repeat (first | (with_reducible first | apply Kd.R_alloc | apply Kd.R_drewN | apply Kd.R_drew) | exact HO.out))⟩, ⟨(by repeat (first | (with_reducible first | exact HB.out | apply below_alloc | apply pw_below_drewN | apply below_drew1) | exact HB.out))⟩⟩
        case round =>
          clear HO HB
          obtain ⟨s, ok, X, i, hsg, rfl, rfl, HI, HM, HO, HB⟩ := hrel
          have hi := HI.out
          by_cases hs : s < l1.length
          · have hlt : i < (l1.length : Int) := by omega
            have h0i : 0 ≤ i := by omega
            cases ok with
            | false =>
              clear hs hi
              have HAL0 : Aside0 ((mb && decide (0 < l1.length) && decide (l1.length ≤ 255) && l1.all fun v => decide (0 ≤ v) && decide (v < l0.length)) = false) := ⟨by rw [← HST.out]; exact HM.out.no rfl⟩
              clear HM
              cases mb with
              | false =>
                have HALL : Aside0 ((false && decide (0 < l1.length) && decide (l1.length ≤ 255) && l1.all fun v => decide (0 ≤ v) && decide (v < l0.length)) = false) := HAL0
                clear HAL0
                have HFR : Aside0 (Ev (fun k => matrix_Rows.f k l0 l1) (ys, 1)) := ⟨by have h := HF.out.rows; rw [HALL.out] at h; exact h⟩
                have HFK : Aside0 (matrix_Rank.f l0 = some (rk, 1)) := ⟨HF.out.rank⟩
                obtain ⟨Ao, co, rfl⟩ := Kd.R_slice HO.out
                clear HALL
                go_wp2_with (first | ((with_reducible refine gate_dst (N := 100) rfl ?_); refine Kd.R_lit (Kd.int .i64) _ 3 ?hg (N := 100) ?hd (xs := ([] : List Int)) (inner := []) (ok := fun _ => True) (okp := fun _ => True) ?hr ?hp (fun _ hk => hk) trivial (Below.refl _ _) (Nat.le_refl _) (by simp) ?_; (case hd => rfl); (case hg => rfl); (case hr => first | (go_simp; done) | (go_simp; rfl)); (case hp => exact (Reps.none _ _)); intro vl_ wn_ ho hb hg_ hnew_; clear hg_ hnew_; have HL := Aside0.mk (Kd.R_lower ho (below_size (by repeat (first | (with_reducible first | exact HB.out | apply below_alloc | apply pw_below_drewN | apply below_drew1) | exact HB.out)))); clear ho; have n0_ := Aside0.mk (Kd.R_below (by (with_reducible repeat (first | apply Kd.R_alloc | apply Kd.R_drewN | apply Kd.R_drew)); exact HO.out) hb); have nb_ := Aside0.mk (below_step (by repeat (first | (with_reducible first | exact HB.out | apply below_alloc | apply pw_below_drewN | apply below_drew1) | exact HB.out)) hb); clear HO; clear HB; have HO := n0_; have HB := nb_; clear nb_; clear n0_; clear hb) | ((with_reducible refine gate_builtin (b := .append) (xs := #[.tmp 100, .tmp 101]) rfl ?_); at_builtin; refine Kd.R_append_rows (Kd.int .i64) (w0 := w) w.heap.size rfl (.tmp 100) (.tmp 101) 72 3 (.int .i64 0) 8 rfl Try.underlying72 Go.Proofs.Ytbogmlckbkogiaa.P.info3 rfl (by decide) (by omega) vl_ ([] : List Int) l1 _ _ _ (fun _ => True) (fun _ => False) rfl rfl ?aO ?aR (fun _ _ h => h) (fun _ h => h.elim) ?aF ?aB ?aS ?aL ?_; (case aR => repeat (first | exact (Kd.C_below HR1.out HB.out) | (with_reducible refine Kd.C_alloc ?_ _) | (with_reducible refine Kd.C_drewN ?_ _) | (with_reducible refine Kd.C_drew ?_))); (case aB => exact (by repeat (first | (with_reducible first | exact HB.out | apply below_alloc | apply pw_below_drewN | apply below_drew1) | exact HB.out))); (case aF => exact (fun _ _ => trivial)); (case aO => exact (by repeat (first | (with_reducible first | apply Kd.R_alloc | apply Kd.R_drewN | apply Kd.R_drew) | exact HL.out))); (case aS => exact (below_size (by repeat (first | (with_reducible first | exact HB.out | apply below_alloc | apply pw_below_drewN | apply below_drew1) | exact HB.out)))); (case aL => have := HZ.out; simp only [List.length_nil]; omega); intro vm_ wn_ ho hb hg hat; rw [List.nil_append] at ho; have n1_ := Aside0.mk (Kd.R_over' (by repeat (first | (with_reducible first | apply Kd.R_alloc | apply Kd.R_drewN | apply Kd.R_drew) | exact HO.out)) (Kd.R_typed (by repeat (first | (with_reducible first | apply Kd.R_alloc | apply Kd.R_drewN | apply Kd.R_drew) | exact HL.out))) (fixed_ne w 3 (by decide)) hg); clear HO HB HL; have HO := n1_; have HB := Aside0.mk hb; have HL := Aside0.mk ho; clear n1_ ho hb hg hat; obtain ⟨Al, cl, rfl⟩ := Kd.R_slice HL.out) | ((with_reducible refine gate_callee (f := 69) rfl ?_); refine goesL_ (some 103) rfl rfl Try.func69 (by kernel_rfl) rfl #[.slice A0 l0.length c0, .slice Al l1.length cl] rfl (by (try simp only [List.map_toArray, List.map_cons, List.map_nil]); first | done | rfl) ?_; (with_reducible refine (rows_calls A0 c0 l0 _ _ l1 ys 1 _ ?side1 ?side2 ?side3 ?side4 HFR.out).mono ?_); (case side1 => repeat (first | exact (Kd.C_below HR0.out HB.out) | (with_reducible refine Kd.C_alloc ?_ _) | (with_reducible refine Kd.C_drewN ?_ _) | (with_reducible refine Kd.C_drew ?_))); (case side2 => exact HC0.out); (case side3 => repeat (first | exact (Kd.R_reads' HL.out).2.2 | (with_reducible refine Kd.C_alloc ?_ _) | (with_reducible refine Kd.C_drewN ?_ _) | (with_reducible refine Kd.C_drew ?_))); (case side4 => exact (Kd.R_reads' HL.out).2.1); rintro e wn_ ⟨v0_, rfl, hS, hb⟩; refine ⟨_, rfl, ?_⟩; obtain ⟨Ay, cy, rfl⟩ := Kd.S_slice hS; have HY := Aside0.mk (Kd.S_reads' hS).2.2; have HYL := Aside0.mk (Kd.S_reads' hS).2.1; clear hS HL; have n0_ := Aside0.mk (Kd.R_below (by (with_reducible repeat (first | apply Kd.R_alloc | apply Kd.R_drewN | apply Kd.R_drew)); exact HO.out) hb); have nb_ := Aside0.mk (below_step (by repeat (first | (with_reducible first | exact HB.out | apply below_alloc | apply pw_below_drewN | apply below_drew1) | exact HB.out)) hb); clear HO; clear HB; have HO := n0_; have HB := nb_; clear nb_; clear n0_; clear hb) | ((with_reducible refine gate_callee (f := 70) rfl ?_); refine goesL_ (some 108) rfl rfl Try.func70 (by kernel_rfl) rfl #[.slice A0 l0.length c0] rfl (by (try simp only [List.map_toArray, List.map_cons, List.map_nil]); first | done | rfl) ?_; (with_reducible refine (matrix_Rank.calls A0 c0 l0 rk 1 _ ?side1 ?side2 HFK.out).mono ?_); (case side1 => repeat (first | exact (Kd.C_below HR0.out HB.out) | (with_reducible refine Kd.C_alloc ?_ _) | (with_reducible refine Kd.C_drewN ?_ _) | (with_reducible refine Kd.C_drew ?_))); (case side2 => exact HC0.out); rintro e wn_ ⟨rfl, hb⟩; refine ⟨_, rfl, ?_⟩; have n0_ := Aside0.mk (Kd.C_below (by repeat (first | exact HY.out | (with_reducible refine Kd.C_alloc ?_ _) | (with_reducible refine Kd.C_drewN ?_ _) | (with_reducible refine Kd.C_drew ?_))) hb); have n1_ := Aside0.mk (Kd.R_below (by (with_reducible repeat (first | apply Kd.R_alloc | apply Kd.R_drewN | apply Kd.R_drew)); exact HO.out) hb); have nb_ := Aside0.mk (below_step (by repeat (first | (with_reducible first | exact HB.out | apply below_alloc | apply pw_below_drewN | apply below_drew1) | exact HB.out)) hb); clear HY; clear HO; clear HB; have HY := n0_; have HO := n1_; have HB := nb_; clear nb_; clear n0_; clear n1_; clear hb) | ((with_reducible refine gate_callee (f := 66) rfl ?_); refine goesL_ (some 113) rfl rfl Try.func66 (by kernel_rfl) rfl #[.bool false] rfl (by (try simp only [List.map_toArray, List.map_cons, List.map_nil]); first | done | rfl) ?_; (with_reducible refine (mooringlaw02_errno.calls false 1 _ rfl).mono ?_); rintro e w' ⟨rfl, ⟨nd, rfl⟩⟩; refine ⟨_, rfl, ?_⟩) | (go_at_call 66; (with_reducible refine (mooringlaw02_errno.calls false 1 _ rfl).mono ?_); rintro e w' ⟨rfl, ⟨nd, rfl⟩⟩) | (go_at_call 53; (with_reducible refine (may_calls _ _ l0 _ _ ?side1 ?side2 HF.out.may).mono ?_); (case side1 => repeat (first | exact (Kd.C_below HR0.out HB.out) | (with_reducible refine Kd.C_alloc ?_ _) | (with_reducible refine Kd.C_drewN ?_ _) | (with_reducible refine Kd.C_drew ?_))); (case side2 => exact HC0.out); rintro e w' ⟨rfl, ⟨nd, rfl⟩⟩) | (go_at_call 51; (with_reducible refine (mooringlaw02_awake.calls true _ rfl).mono ?_); rintro e wn_ ⟨rfl, hb⟩; have nb_ := Aside0.mk (below_step (by repeat (first | (with_reducible first | exact HB.out | apply below_alloc | apply pw_below_drewN | apply below_drew1) | exact HB.out)) hb); clear HB; have HB := nb_; clear nb_; clear hb))
                go_ret
                exact ⟨by first | rfl | (simp [errW_none, errW_some] <;> rfl) | (simp [*, errW_none, errW_some] <;> rfl), (by repeat (first | (with_reducible first | exact HB.out | apply below_alloc | apply pw_below_drewN | apply below_drew1) | exact HB.out))⟩
              | true =>
                have HALL : Aside0 ((true && decide (0 < l1.length) && decide (l1.length ≤ 255) && l1.all fun v => decide (0 ≤ v) && decide (v < l0.length)) = false) := HAL0
                clear HAL0
                have HFR : Aside0 (Ev (fun k => matrix_Rows.f k l0 l1) (ys, 1)) := ⟨by have h := HF.out.rows; rw [HALL.out] at h; exact h⟩
                have HFK : Aside0 (matrix_Rank.f l0 = some (rk, 0)) := ⟨HF.out.rank⟩
                obtain ⟨Ao, co, rfl⟩ := Kd.R_slice HO.out
                clear HALL
                go_wp2_with (first | ((with_reducible refine gate_dst (N := 100) rfl ?_); refine Kd.R_lit (Kd.int .i64) _ 3 ?hg (N := 100) ?hd (xs := ([] : List Int)) (inner := []) (ok := fun _ => True) (okp := fun _ => True) ?hr ?hp (fun _ hk => hk) trivial (Below.refl _ _) (Nat.le_refl _) (by simp) ?_; (case hd => rfl); (case hg => rfl); (case hr => first | (go_simp; done) | (go_simp; rfl)); (case hp => exact (Reps.none _ _)); intro vl_ wn_ ho hb hg_ hnew_; clear hg_ hnew_; have HL := Aside0.mk (Kd.R_lower ho (below_size (by repeat (first | (with_reducible first | exact HB.out | apply below_alloc | apply pw_below_drewN | apply below_drew1) | exact HB.out)))); clear ho; have n0_ := Aside0.mk (Kd.R_below (by (with_reducible repeat (first | apply Kd.R_alloc | apply Kd.R_drewN | apply Kd.R_drew)); exact HO.out) hb); have nb_ := Aside0.mk (below_step (by repeat (first | (with_reducible first | exact HB.out | apply below_alloc | apply pw_below_drewN | apply below_drew1) | exact HB.out)) hb); clear HO; clear HB; have HO := n0_; have HB := nb_; clear nb_; clear n0_; clear hb) | ((with_reducible refine gate_builtin (b := .append) (xs := #[.tmp 100, .tmp 101]) rfl ?_); at_builtin; refine Kd.R_append_rows (Kd.int .i64) (w0 := w) w.heap.size rfl (.tmp 100) (.tmp 101) 72 3 (.int .i64 0) 8 rfl Try.underlying72 Go.Proofs.Ytbogmlckbkogiaa.P.info3 rfl (by decide) (by omega) vl_ ([] : List Int) l1 _ _ _ (fun _ => True) (fun _ => False) rfl rfl ?aO ?aR (fun _ _ h => h) (fun _ h => h.elim) ?aF ?aB ?aS ?aL ?_; (case aR => repeat (first | exact (Kd.C_below HR1.out HB.out) | (with_reducible refine Kd.C_alloc ?_ _) | (with_reducible refine Kd.C_drewN ?_ _) | (with_reducible refine Kd.C_drew ?_))); (case aB => exact (by repeat (first | (with_reducible first | exact HB.out | apply below_alloc | apply pw_below_drewN | apply below_drew1) | exact HB.out))); (case aF => exact (fun _ _ => trivial)); (case aO => exact (by repeat (first | (with_reducible first | apply Kd.R_alloc | apply Kd.R_drewN | apply Kd.R_drew) | exact HL.out))); (case aS => exact (below_size (by repeat (first | (with_reducible first | exact HB.out | apply below_alloc | apply pw_below_drewN | apply below_drew1) | exact HB.out)))); (case aL => have := HZ.out; simp only [List.length_nil]; omega); intro vm_ wn_ ho hb hg hat; rw [List.nil_append] at ho; have n1_ := Aside0.mk (Kd.R_over' (by repeat (first | (with_reducible first | apply Kd.R_alloc | apply Kd.R_drewN | apply Kd.R_drew) | exact HO.out)) (Kd.R_typed (by repeat (first | (with_reducible first | apply Kd.R_alloc | apply Kd.R_drewN | apply Kd.R_drew) | exact HL.out))) (fixed_ne w 3 (by decide)) hg); clear HO HB HL; have HO := n1_; have HB := Aside0.mk hb; have HL := Aside0.mk ho; clear n1_ ho hb hg hat; obtain ⟨Al, cl, rfl⟩ := Kd.R_slice HL.out) | ((with_reducible refine gate_callee (f := 69) rfl ?_); refine goesL_ (some 103) rfl rfl Try.func69 (by kernel_rfl) rfl #[.slice A0 l0.length c0, .slice Al l1.length cl] rfl (by (try simp only [List.map_toArray, List.map_cons, List.map_nil]); first | done | rfl) ?_; (with_reducible refine (rows_calls A0 c0 l0 _ _ l1 ys 1 _ ?side1 ?side2 ?side3 ?side4 HFR.out).mono ?_); (case side1 => repeat (first | exact (Kd.C_below HR0.out HB.out) | (with_reducible refine Kd.C_alloc ?_ _) | (with_reducible refine Kd.C_drewN ?_ _) | (with_reducible refine Kd.C_drew ?_))); (case side2 => exact HC0.out); (case side3 => repeat (first | exact (Kd.R_reads' HL.out).2.2 | (with_reducible refine Kd.C_alloc ?_ _) | (with_reducible refine Kd.C_drewN ?_ _) | (with_reducible refine Kd.C_drew ?_))); (case side4 => exact (Kd.R_reads' HL.out).2.1); rintro e wn_ ⟨v0_, rfl, hS, hb⟩; refine ⟨_, rfl, ?_⟩; obtain ⟨Ay, cy, rfl⟩ := Kd.S_slice hS; have HY := Aside0.mk (Kd.S_reads' hS).2.2; have HYL := Aside0.mk (Kd.S_reads' hS).2.1; clear hS HL; have n0_ := Aside0.mk (Kd.R_below (by (with_reducible repeat (first | apply Kd.R_alloc | apply Kd.R_drewN | apply Kd.R_drew)); exact HO.out) hb); have nb_ := Aside0.mk (below_step (by repeat (first | (with_reducible first | exact HB.out | apply below_alloc | apply pw_below_drewN | apply below_drew1) | exact HB.out)) hb); clear HO; clear HB; have HO := n0_; have HB := nb_; clear nb_; clear n0_; clear hb) | ((with_reducible refine gate_callee (f := 70) rfl ?_); refine goesL_ (some 108) rfl rfl Try.func70 (by kernel_rfl) rfl #[.slice A0 l0.length c0] rfl (by (try simp only [List.map_toArray, List.map_cons, List.map_nil]); first | done | rfl) ?_; (with_reducible refine (matrix_Rank.calls A0 c0 l0 rk 0 _ ?side1 ?side2 HFK.out).mono ?_); (case side1 => repeat (first | exact (Kd.C_below HR0.out HB.out) | (with_reducible refine Kd.C_alloc ?_ _) | (with_reducible refine Kd.C_drewN ?_ _) | (with_reducible refine Kd.C_drew ?_))); (case side2 => exact HC0.out); rintro e wn_ ⟨rfl, hb⟩; refine ⟨_, rfl, ?_⟩; have n0_ := Aside0.mk (Kd.C_below (by repeat (first | exact HY.out | (with_reducible refine Kd.C_alloc ?_ _) | (with_reducible refine Kd.C_drewN ?_ _) | (with_reducible refine Kd.C_drew ?_))) hb); have n1_ := Aside0.mk (Kd.R_below (by (with_reducible repeat (first | apply Kd.R_alloc | apply Kd.R_drewN | apply Kd.R_drew)); exact HO.out) hb); have nb_ := Aside0.mk (below_step (by repeat (first | (with_reducible first | exact HB.out | apply below_alloc | apply pw_below_drewN | apply below_drew1) | exact HB.out)) hb); clear HY; clear HO; clear HB; have HY := n0_; have HO := n1_; have HB := nb_; clear nb_; clear n0_; clear n1_; clear hb) | ((with_reducible refine gate_callee (f := 66) rfl ?_); refine goesL_ (some 113) rfl rfl Try.func66 (by kernel_rfl) rfl #[.bool false] rfl (by (try simp only [List.map_toArray, List.map_cons, List.map_nil]); first | done | rfl) ?_; (with_reducible refine (mooringlaw02_errno.calls false 1 _ rfl).mono ?_); rintro e w' ⟨rfl, ⟨nd, rfl⟩⟩; refine ⟨_, rfl, ?_⟩) | (go_at_call 66; (with_reducible refine (mooringlaw02_errno.calls false 1 _ rfl).mono ?_); rintro e w' ⟨rfl, ⟨nd, rfl⟩⟩) | (go_at_call 53; (with_reducible refine (may_calls _ _ l0 _ _ ?side1 ?side2 HF.out.may).mono ?_); (case side1 => repeat (first | exact (Kd.C_below HR0.out HB.out) | (with_reducible refine Kd.C_alloc ?_ _) | (with_reducible refine Kd.C_drewN ?_ _) | (with_reducible refine Kd.C_drew ?_))); (case side2 => exact HC0.out); rintro e w' ⟨rfl, ⟨nd, rfl⟩⟩) | (go_at_call 66; (with_reducible refine (mooringlaw02_errno.calls true 0 _ rfl).mono ?_); rintro e w' ⟨rfl, ⟨nd, rfl⟩⟩) | (go_at_call 54; (with_reducible refine (mooringref02_Rank.calls A0 c0 l0 rk _ ?side1 ?side2 (HF.out.refRank rfl)).mono ?_); (case side1 => repeat (first | exact (Kd.C_below HR0.out HB.out) | (with_reducible refine Kd.C_alloc ?_ _) | (with_reducible refine Kd.C_drewN ?_ _) | (with_reducible refine Kd.C_drew ?_))); (case side2 => exact HC0.out); rintro e wn_ ⟨rfl, hb⟩; have nb_ := Aside0.mk (below_step (by repeat (first | (with_reducible first | exact HB.out | apply below_alloc | apply pw_below_drewN | apply below_drew1) | exact HB.out)) hb); clear HB; have HB := nb_; clear nb_; clear hb) | (go_at_call 51; (with_reducible refine (mooringlaw02_awake.calls true _ rfl).mono ?_); rintro e wn_ ⟨rfl, hb⟩; have nb_ := Aside0.mk (below_step (by repeat (first | (with_reducible first | exact HB.out | apply below_alloc | apply pw_below_drewN | apply below_drew1) | exact HB.out)) hb); clear HB; have HB := nb_; clear nb_; clear hb))
                go_ret
                exact ⟨by first | rfl | (simp [errW_none, errW_some] <;> rfl) | (simp [*, errW_none, errW_some] <;> rfl), (by repeat (first | (with_reducible first | exact HB.out | apply below_alloc | apply pw_below_drewN | apply below_drew1) | exact HB.out))⟩
            | true =>
              have hst : st = true := (HM.out.yes rfl).1
              have hlen := hst.symm.trans HST.out
              have HLEN : Aside0 (l1.length ≤ 255) := ⟨by
                exact of_decide_eq_true (Bool.and_eq_true_iff.mp hlen.symm).2⟩
              clear hst hlen
              have HXB : Aside0 (X.length ≤ 255) := ⟨by rw [(HM.out.yes rfl).2.2, List.length_map, List.length_take]; have := HLEN.out; omega⟩
              have hsw : IntKind.i64.wrap (i + 1) = i + 1 := IntWalk.i64_in _ (by have := HLEN.out; omega)
              obtain ⟨ad1, ea1, hx1⟩ := Kd.at_int HR1.out i h0i hlt
              cases ea1
              replace hx1 := (HB.out.cell (World.block_lt_of_cell? w _ hx1)).trans hx1
              have HRD : Aside0 (rd l1 i = rd l1 (s : Int)) := ⟨by rw [hi]⟩
              generalize rd l1 i = r at *
              replace h0i := eq_true h0i
              have HLT := Aside0.mk hlt
              replace hlt := eq_true hlt
              have HS := Aside0.mk hs
              clear hs hi
              by_cases h1 : 0 ≤ r
              · have c1b : decide (0 ≤ r) = true := decide_eq_true h1
                by_cases h2 : r < (l0.length : Int)
                · have c2b : decide (r < (l0.length : Int)) = true := decide_eq_true h2
                  obtain ⟨adr, Ar, cr, er, hxr, hlr, hir⟩ := at_L1 HR0.out r h1 h2
                  cases er
                  replace hxr := (HB.out.cell (World.block_lt_of_cell? w _ hxr)).trans hxr
                  have HRI := Aside0.mk (And.intro hlr hir)
                  have HM2 : Aside0 (MrAt l0 l1 st true (s + 1) (X ++ [rd_L1 l0 r])) := ⟨⟨fun _ => ⟨(HM.out.yes rfl).1, fun j hj => by
                    by_cases he : j = s
                    · rw [he, ← HRD.out]; exact ⟨h1, h2⟩
                    · exact (HM.out.yes rfl).2.1 j (by omega), by
                    rw [(HM.out.yes rfl).2.2, HRD.out]
                    exact map_upto l1 (fun i => rd_L1 l0 i) s HS.out⟩, fun h => by cases h⟩⟩
                  clear hlr hir
                  replace h1 := eq_true h1
                  replace h2 := eq_true h2
                  obtain ⟨Ao, co, rfl⟩ := Kd.R_slice HO.out
                  go_wp2_with (first | ((with_reducible refine gate_builtin (b := .append) (xs := #[.tmp 88, .tmp 96]) rfl ?_); at_builtin; refine Kd.R_append (Kd.fixed (Kd.slice 5 (Kd.int .u8)) w) (w0 := w) w.heap.size rfl (.tmp 88) (.tmp 96) 51 22 (.slice none 0 0) 24 rfl Try.underlying51 Go.Proofs.Ytbogmlckbkogiaa.P.info22 rfl Nat.zero_lt_one (by omega) (.slice Ao X.length co) X (rd_L1 l0 r) [.slice Ar (rd_L1 l0 r).length cr] (fun _ => True) (fun _ => False) rfl rfl ?aP (fun _ hk => hk.elim) ?aF ?aO ?aB ?aS ?aL ?_; (case aP => exact ⟨Ar, cr, rfl, HRI.out.1, HRI.out.2⟩); (case aB => exact (by repeat (first | (with_reducible first | exact HB.out | apply below_alloc | apply pw_below_drewN | apply below_drew1) | exact HB.out))); (case aF => exact (fun _ _ => trivial)); (case aO => exact (by repeat (first | (with_reducible first | apply Kd.R_alloc | apply Kd.R_drewN | apply Kd.R_drew) | exact HO.out))); (case aS => exact (below_size (by repeat (first | (with_reducible first | exact HB.out | apply below_alloc | apply pw_below_drewN | apply below_drew1) | exact HB.out)))); (case aL => have := HXB.out; omega); intro vn_ wn_ ho hb hg hat; clear HO HB; have HO := Aside0.mk ho; have HB := Aside0.mk hb; clear ho hb hg hat))
                  go_roundg (l1.length - (s + 1))
                  case measure => have := HS.out; omega
                  case rel => exact ⟨s + 1, true, _, i + 1, by have := HS.out; omega, rfl, by go_num, ⟨by have := HI.out; omega⟩, HM2, ⟨(by repeat (first | (with_reducible first | apply Kd.R_alloc | apply Kd.R_drewN | apply Kd.R_drew) | exact HO.out))⟩, ⟨(by repeat (first | (with_reducible first | exact HB.out | apply below_alloc | apply pw_below_drewN | apply below_drew1) | exact HB.out))⟩⟩
                · have c2b : decide (r < (l0.length : Int)) = false := decide_eq_false h2
                  have HM2 : Aside0 (MrAt l0 l1 st false (s + 1) X) := ⟨⟨fun h => (by cases h), fun _ => by
                    rw [not_all HS.out (by rw [← HRD.out, c2b, Bool.and_false]), Bool.and_false]⟩⟩
                  go_wp2
                  go_roundg (l1.length - (s + 1))
                  case measure => have := HS.out; omega
                  case rel => exact ⟨s + 1, false, _, i + 1, by have := HS.out; omega, rfl, by go_num, ⟨by have := HI.out; omega⟩, HM2, ⟨(by repeat (first | (with_reducible first | apply Kd.R_alloc | apply Kd.R_drewN | apply Kd.R_drew) | exact HO.out))⟩, ⟨(by repeat (first | (with_reducible first | exact HB.out | apply below_alloc | apply pw_below_drewN | apply below_drew1) | exact HB.out))⟩⟩
              · have c1b : decide (0 ≤ r) = false := decide_eq_false h1
                have HM2 : Aside0 (MrAt l0 l1 st false (s + 1) X) := ⟨⟨fun h => (by cases h), fun _ => by
                  rw [not_all HS.out (by rw [← HRD.out, c1b, Bool.false_and]), Bool.and_false]⟩⟩
                go_wp2
                go_roundg (l1.length - (s + 1))
                case measure => have := HS.out; omega
                case rel => exact ⟨s + 1, false, _, i + 1, by have := HS.out; omega, rfl, by go_num, ⟨by have := HI.out; omega⟩, HM2, ⟨(by repeat (first | (with_reducible first | apply Kd.R_alloc | apply Kd.R_drewN | apply Kd.R_drew) | exact HO.out))⟩, ⟨(by repeat (first | (with_reducible first | exact HB.out | apply below_alloc | apply pw_below_drewN | apply below_drew1) | exact HB.out))⟩⟩
          · have hlt : ¬ i < (l1.length : Int) := by omega
            have hsl : s = l1.length := by omega
            cases ok with
            | false =>
              clear hs hi hsl
              have HAL0 : Aside0 ((mb && decide (0 < l1.length) && decide (l1.length ≤ 255) && l1.all fun v => decide (0 ≤ v) && decide (v < l0.length)) = false) := ⟨by rw [← HST.out]; exact HM.out.no rfl⟩
              clear HM
              cases mb with
              | false =>
                have HALL : Aside0 ((false && decide (0 < l1.length) && decide (l1.length ≤ 255) && l1.all fun v => decide (0 ≤ v) && decide (v < l0.length)) = false) := HAL0
                clear HAL0
                have HFR : Aside0 (Ev (fun k => matrix_Rows.f k l0 l1) (ys, 1)) := ⟨by have h := HF.out.rows; rw [HALL.out] at h; exact h⟩
                have HFK : Aside0 (matrix_Rank.f l0 = some (rk, 1)) := ⟨HF.out.rank⟩
                obtain ⟨Ao, co, rfl⟩ := Kd.R_slice HO.out
                clear HALL
                go_wp2_with (first | ((with_reducible refine gate_dst (N := 100) rfl ?_); refine Kd.R_lit (Kd.int .i64) _ 3 ?hg (N := 100) ?hd (xs := ([] : List Int)) (inner := []) (ok := fun _ => True) (okp := fun _ => True) ?hr ?hp (fun _ hk => hk) trivial (Below.refl _ _) (Nat.le_refl _) (by simp) ?_; (case hd => rfl); (case hg => rfl); (case hr => first | (go_simp; done) | (go_simp; rfl)); (case hp => exact (Reps.none _ _)); intro vl_ wn_ ho hb hg_ hnew_; clear hg_ hnew_; have HL := Aside0.mk (Kd.R_lower ho (below_size (by repeat (first | (with_reducible first | exact HB.out | apply below_alloc | apply pw_below_drewN | apply below_drew1) | exact HB.out)))); clear ho; have n0_ := Aside0.mk (Kd.R_below (by (with_reducible repeat (first | apply Kd.R_alloc | apply Kd.R_drewN | apply Kd.R_drew)); exact HO.out) hb); have nb_ := Aside0.mk (below_step (by repeat (first | (with_reducible first | exact HB.out | apply below_alloc | apply pw_below_drewN | apply below_drew1) | exact HB.out)) hb); clear HO; clear HB; have HO := n0_; have HB := nb_; clear nb_; clear n0_; clear hb) | ((with_reducible refine gate_builtin (b := .append) (xs := #[.tmp 100, .tmp 101]) rfl ?_); at_builtin; refine Kd.R_append_rows (Kd.int .i64) (w0 := w) w.heap.size rfl (.tmp 100) (.tmp 101) 72 3 (.int .i64 0) 8 rfl Try.underlying72 Go.Proofs.Ytbogmlckbkogiaa.P.info3 rfl (by decide) (by omega) vl_ ([] : List Int) l1 _ _ _ (fun _ => True) (fun _ => False) rfl rfl ?aO ?aR (fun _ _ h => h) (fun _ h => h.elim) ?aF ?aB ?aS ?aL ?_; (case aR => repeat (first | exact (Kd.C_below HR1.out HB.out) | (with_reducible refine Kd.C_alloc ?_ _) | (with_reducible refine Kd.C_drewN ?_ _) | (with_reducible refine Kd.C_drew ?_))); (case aB => exact (by repeat (first | (with_reducible first | exact HB.out | apply below_alloc | apply pw_below_drewN | apply below_drew1) | exact HB.out))); (case aF => exact (fun _ _ => trivial)); (case aO => exact (by repeat (first | (with_reducible first | apply Kd.R_alloc | apply Kd.R_drewN | apply Kd.R_drew) | exact HL.out))); (case aS => exact (below_size (by repeat (first | (with_reducible first | exact HB.out | apply below_alloc | apply pw_below_drewN | apply below_drew1) | exact HB.out)))); (case aL => have := HZ.out; simp only [List.length_nil]; omega); intro vm_ wn_ ho hb hg hat; rw [List.nil_append] at ho; have n1_ := Aside0.mk (Kd.R_over' (by repeat (first | (with_reducible first | apply Kd.R_alloc | apply Kd.R_drewN | apply Kd.R_drew) | exact HO.out)) (Kd.R_typed (by repeat (first | (with_reducible first | apply Kd.R_alloc | apply Kd.R_drewN | apply Kd.R_drew) | exact HL.out))) (fixed_ne w 3 (by decide)) hg); clear HO HB HL; have HO := n1_; have HB := Aside0.mk hb; have HL := Aside0.mk ho; clear n1_ ho hb hg hat; obtain ⟨Al, cl, rfl⟩ := Kd.R_slice HL.out) | ((with_reducible refine gate_callee (f := 69) rfl ?_); refine goesL_ (some 103) rfl rfl Try.func69 (by kernel_rfl) rfl #[.slice A0 l0.length c0, .slice Al l1.length cl] rfl (by (try simp only [List.map_toArray, List.map_cons, List.map_nil]); first | done | rfl) ?_; (with_reducible refine (rows_calls A0 c0 l0 _ _ l1 ys 1 _ ?side1 ?side2 ?side3 ?side4 HFR.out).mono ?_); (case side1 => repeat (first | exact (Kd.C_below HR0.out HB.out) | (with_reducible refine Kd.C_alloc ?_ _) | (with_reducible refine Kd.C_drewN ?_ _) | (with_reducible refine Kd.C_drew ?_))); (case side2 => exact HC0.out); (case side3 => repeat (first | exact (Kd.R_reads' HL.out).2.2 | (with_reducible refine Kd.C_alloc ?_ _) | (with_reducible refine Kd.C_drewN ?_ _) | (with_reducible refine Kd.C_drew ?_))); (case side4 => exact (Kd.R_reads' HL.out).2.1); rintro e wn_ ⟨v0_, rfl, hS, hb⟩; refine ⟨_, rfl, ?_⟩; obtain ⟨Ay, cy, rfl⟩ := Kd.S_slice hS; have HY := Aside0.mk (Kd.S_reads' hS).2.2; have HYL := Aside0.mk (Kd.S_reads' hS).2.1; clear hS HL; have n0_ := Aside0.mk (Kd.R_below (by (with_reducible repeat (first | apply Kd.R_alloc | apply Kd.R_drewN | apply Kd.R_drew)); exact HO.out) hb); have nb_ := Aside0.mk (below_step (by repeat (first | (with_reducible first | exact HB.out | apply below_alloc | apply pw_below_drewN | apply below_drew1) | exact HB.out)) hb); clear HO; clear HB; have HO := n0_; have HB := nb_; clear nb_; clear n0_; clear hb) | ((with_reducible refine gate_callee (f := 70) rfl ?_); refine goesL_ (some 108) rfl rfl Try.func70 (by kernel_rfl) rfl #[.slice A0 l0.length c0] rfl (by (try simp only [List.map_toArray, List.map_cons, List.map_nil]); first | done | rfl) ?_; (with_reducible refine (matrix_Rank.calls A0 c0 l0 rk 1 _ ?side1 ?side2 HFK.out).mono ?_); (case side1 => repeat (first | exact (Kd.C_below HR0.out HB.out) | (with_reducible refine Kd.C_alloc ?_ _) | (with_reducible refine Kd.C_drewN ?_ _) | (with_reducible refine Kd.C_drew ?_))); (case side2 => exact HC0.out); rintro e wn_ ⟨rfl, hb⟩; refine ⟨_, rfl, ?_⟩; have n0_ := Aside0.mk (Kd.C_below (by repeat (first | exact HY.out | (with_reducible refine Kd.C_alloc ?_ _) | (with_reducible refine Kd.C_drewN ?_ _) | (with_reducible refine Kd.C_drew ?_))) hb); have n1_ := Aside0.mk (Kd.R_below (by (with_reducible repeat (first | apply Kd.R_alloc | apply Kd.R_drewN | apply Kd.R_drew)); exact HO.out) hb); have nb_ := Aside0.mk (below_step (by repeat (first | (with_reducible first | exact HB.out | apply below_alloc | apply pw_below_drewN | apply below_drew1) | exact HB.out)) hb); clear HY; clear HO; clear HB; have HY := n0_; have HO := n1_; have HB := nb_; clear nb_; clear n0_; clear n1_; clear hb) | ((with_reducible refine gate_callee (f := 66) rfl ?_); refine goesL_ (some 113) rfl rfl Try.func66 (by kernel_rfl) rfl #[.bool false] rfl (by (try simp only [List.map_toArray, List.map_cons, List.map_nil]); first | done | rfl) ?_; (with_reducible refine (mooringlaw02_errno.calls false 1 _ rfl).mono ?_); rintro e w' ⟨rfl, ⟨nd, rfl⟩⟩; refine ⟨_, rfl, ?_⟩) | (go_at_call 66; (with_reducible refine (mooringlaw02_errno.calls false 1 _ rfl).mono ?_); rintro e w' ⟨rfl, ⟨nd, rfl⟩⟩) | (go_at_call 53; (with_reducible refine (may_calls _ _ l0 _ _ ?side1 ?side2 HF.out.may).mono ?_); (case side1 => repeat (first | exact (Kd.C_below HR0.out HB.out) | (with_reducible refine Kd.C_alloc ?_ _) | (with_reducible refine Kd.C_drewN ?_ _) | (with_reducible refine Kd.C_drew ?_))); (case side2 => exact HC0.out); rintro e w' ⟨rfl, ⟨nd, rfl⟩⟩) | (go_at_call 51; (with_reducible refine (mooringlaw02_awake.calls true _ rfl).mono ?_); rintro e wn_ ⟨rfl, hb⟩; have nb_ := Aside0.mk (below_step (by repeat (first | (with_reducible first | exact HB.out | apply below_alloc | apply pw_below_drewN | apply below_drew1) | exact HB.out)) hb); clear HB; have HB := nb_; clear nb_; clear hb))
                go_ret
                exact ⟨by first | rfl | (simp [errW_none, errW_some] <;> rfl) | (simp [*, errW_none, errW_some] <;> rfl), (by repeat (first | (with_reducible first | exact HB.out | apply below_alloc | apply pw_below_drewN | apply below_drew1) | exact HB.out))⟩
              | true =>
                have HALL : Aside0 ((true && decide (0 < l1.length) && decide (l1.length ≤ 255) && l1.all fun v => decide (0 ≤ v) && decide (v < l0.length)) = false) := HAL0
                clear HAL0
                have HFR : Aside0 (Ev (fun k => matrix_Rows.f k l0 l1) (ys, 1)) := ⟨by have h := HF.out.rows; rw [HALL.out] at h; exact h⟩
                have HFK : Aside0 (matrix_Rank.f l0 = some (rk, 0)) := ⟨HF.out.rank⟩
                obtain ⟨Ao, co, rfl⟩ := Kd.R_slice HO.out
                clear HALL
                go_wp2_with (first | ((with_reducible refine gate_dst (N := 100) rfl ?_); refine Kd.R_lit (Kd.int .i64) _ 3 ?hg (N := 100) ?hd (xs := ([] : List Int)) (inner := []) (ok := fun _ => True) (okp := fun _ => True) ?hr ?hp (fun _ hk => hk) trivial (Below.refl _ _) (Nat.le_refl _) (by simp) ?_; (case hd => rfl); (case hg => rfl); (case hr => first | (go_simp; done) | (go_simp; rfl)); (case hp => exact (Reps.none _ _)); intro vl_ wn_ ho hb hg_ hnew_; clear hg_ hnew_; have HL := Aside0.mk (Kd.R_lower ho (below_size (by repeat (first | (with_reducible first | exact HB.out | apply below_alloc | apply pw_below_drewN | apply below_drew1) | exact HB.out)))); clear ho; have n0_ := Aside0.mk (Kd.R_below (by (with_reducible repeat (first | apply Kd.R_alloc | apply Kd.R_drewN | apply Kd.R_drew)); exact HO.out) hb); have nb_ := Aside0.mk (below_step (by repeat (first | (with_reducible first | exact HB.out | apply below_alloc | apply pw_below_drewN | apply below_drew1) | exact HB.out)) hb); clear HO; clear HB; have HO := n0_; have HB := nb_; clear nb_; clear n0_; clear hb) | ((with_reducible refine gate_builtin (b := .append) (xs := #[.tmp 100, .tmp 101]) rfl ?_); at_builtin; refine Kd.R_append_rows (Kd.int .i64) (w0 := w) w.heap.size rfl (.tmp 100) (.tmp 101) 72 3 (.int .i64 0) 8 rfl Try.underlying72 Go.Proofs.Ytbogmlckbkogiaa.P.info3 rfl (by decide) (by omega) vl_ ([] : List Int) l1 _ _ _ (fun _ => True) (fun _ => False) rfl rfl ?aO ?aR (fun _ _ h => h) (fun _ h => h.elim) ?aF ?aB ?aS ?aL ?_; (case aR => repeat (first | exact (Kd.C_below HR1.out HB.out) | (with_reducible refine Kd.C_alloc ?_ _) | (with_reducible refine Kd.C_drewN ?_ _) | (with_reducible refine Kd.C_drew ?_))); (case aB => exact (by repeat (first | (with_reducible first | exact HB.out | apply below_alloc | apply pw_below_drewN | apply below_drew1) | exact HB.out))); (case aF => exact (fun _ _ => trivial)); (case aO => exact (by repeat (first | (with_reducible first | apply Kd.R_alloc | apply Kd.R_drewN | apply Kd.R_drew) | exact HL.out))); (case aS => exact (below_size (by repeat (first | (with_reducible first | exact HB.out | apply below_alloc | apply pw_below_drewN | apply below_drew1) | exact HB.out)))); (case aL => have := HZ.out; simp only [List.length_nil]; omega); intro vm_ wn_ ho hb hg hat; rw [List.nil_append] at ho; have n1_ := Aside0.mk (Kd.R_over' (by repeat (first | (with_reducible first | apply Kd.R_alloc | apply Kd.R_drewN | apply Kd.R_drew) | exact HO.out)) (Kd.R_typed (by repeat (first | (with_reducible first | apply Kd.R_alloc | apply Kd.R_drewN | apply Kd.R_drew) | exact HL.out))) (fixed_ne w 3 (by decide)) hg); clear HO HB HL; have HO := n1_; have HB := Aside0.mk hb; have HL := Aside0.mk ho; clear n1_ ho hb hg hat; obtain ⟨Al, cl, rfl⟩ := Kd.R_slice HL.out) | ((with_reducible refine gate_callee (f := 69) rfl ?_); refine goesL_ (some 103) rfl rfl Try.func69 (by kernel_rfl) rfl #[.slice A0 l0.length c0, .slice Al l1.length cl] rfl (by (try simp only [List.map_toArray, List.map_cons, List.map_nil]); first | done | rfl) ?_; (with_reducible refine (rows_calls A0 c0 l0 _ _ l1 ys 1 _ ?side1 ?side2 ?side3 ?side4 HFR.out).mono ?_); (case side1 => repeat (first | exact (Kd.C_below HR0.out HB.out) | (with_reducible refine Kd.C_alloc ?_ _) | (with_reducible refine Kd.C_drewN ?_ _) | (with_reducible refine Kd.C_drew ?_))); (case side2 => exact HC0.out); (case side3 => repeat (first | exact (Kd.R_reads' HL.out).2.2 | (with_reducible refine Kd.C_alloc ?_ _) | (with_reducible refine Kd.C_drewN ?_ _) | (with_reducible refine Kd.C_drew ?_))); (case side4 => exact (Kd.R_reads' HL.out).2.1); rintro e wn_ ⟨v0_, rfl, hS, hb⟩; refine ⟨_, rfl, ?_⟩; obtain ⟨Ay, cy, rfl⟩ := Kd.S_slice hS; have HY := Aside0.mk (Kd.S_reads' hS).2.2; have HYL := Aside0.mk (Kd.S_reads' hS).2.1; clear hS HL; have n0_ := Aside0.mk (Kd.R_below (by (with_reducible repeat (first | apply Kd.R_alloc | apply Kd.R_drewN | apply Kd.R_drew)); exact HO.out) hb); have nb_ := Aside0.mk (below_step (by repeat (first | (with_reducible first | exact HB.out | apply below_alloc | apply pw_below_drewN | apply below_drew1) | exact HB.out)) hb); clear HO; clear HB; have HO := n0_; have HB := nb_; clear nb_; clear n0_; clear hb) | ((with_reducible refine gate_callee (f := 70) rfl ?_); refine goesL_ (some 108) rfl rfl Try.func70 (by kernel_rfl) rfl #[.slice A0 l0.length c0] rfl (by (try simp only [List.map_toArray, List.map_cons, List.map_nil]); first | done | rfl) ?_; (with_reducible refine (matrix_Rank.calls A0 c0 l0 rk 0 _ ?side1 ?side2 HFK.out).mono ?_); (case side1 => repeat (first | exact (Kd.C_below HR0.out HB.out) | (with_reducible refine Kd.C_alloc ?_ _) | (with_reducible refine Kd.C_drewN ?_ _) | (with_reducible refine Kd.C_drew ?_))); (case side2 => exact HC0.out); rintro e wn_ ⟨rfl, hb⟩; refine ⟨_, rfl, ?_⟩; have n0_ := Aside0.mk (Kd.C_below (by repeat (first | exact HY.out | (with_reducible refine Kd.C_alloc ?_ _) | (with_reducible refine Kd.C_drewN ?_ _) | (with_reducible refine Kd.C_drew ?_))) hb); have n1_ := Aside0.mk (Kd.R_below (by (with_reducible repeat (first | apply Kd.R_alloc | apply Kd.R_drewN | apply Kd.R_drew)); exact HO.out) hb); have nb_ := Aside0.mk (below_step (by repeat (first | (with_reducible first | exact HB.out | apply below_alloc | apply pw_below_drewN | apply below_drew1) | exact HB.out)) hb); clear HY; clear HO; clear HB; have HY := n0_; have HO := n1_; have HB := nb_; clear nb_; clear n0_; clear n1_; clear hb) | ((with_reducible refine gate_callee (f := 66) rfl ?_); refine goesL_ (some 113) rfl rfl Try.func66 (by kernel_rfl) rfl #[.bool false] rfl (by (try simp only [List.map_toArray, List.map_cons, List.map_nil]); first | done | rfl) ?_; (with_reducible refine (mooringlaw02_errno.calls false 1 _ rfl).mono ?_); rintro e w' ⟨rfl, ⟨nd, rfl⟩⟩; refine ⟨_, rfl, ?_⟩) | (go_at_call 66; (with_reducible refine (mooringlaw02_errno.calls false 1 _ rfl).mono ?_); rintro e w' ⟨rfl, ⟨nd, rfl⟩⟩) | (go_at_call 53; (with_reducible refine (may_calls _ _ l0 _ _ ?side1 ?side2 HF.out.may).mono ?_); (case side1 => repeat (first | exact (Kd.C_below HR0.out HB.out) | (with_reducible refine Kd.C_alloc ?_ _) | (with_reducible refine Kd.C_drewN ?_ _) | (with_reducible refine Kd.C_drew ?_))); (case side2 => exact HC0.out); rintro e w' ⟨rfl, ⟨nd, rfl⟩⟩) | (go_at_call 66; (with_reducible refine (mooringlaw02_errno.calls true 0 _ rfl).mono ?_); rintro e w' ⟨rfl, ⟨nd, rfl⟩⟩) | (go_at_call 54; (with_reducible refine (mooringref02_Rank.calls A0 c0 l0 rk _ ?side1 ?side2 (HF.out.refRank rfl)).mono ?_); (case side1 => repeat (first | exact (Kd.C_below HR0.out HB.out) | (with_reducible refine Kd.C_alloc ?_ _) | (with_reducible refine Kd.C_drewN ?_ _) | (with_reducible refine Kd.C_drew ?_))); (case side2 => exact HC0.out); rintro e wn_ ⟨rfl, hb⟩; have nb_ := Aside0.mk (below_step (by repeat (first | (with_reducible first | exact HB.out | apply below_alloc | apply pw_below_drewN | apply below_drew1) | exact HB.out)) hb); clear HB; have HB := nb_; clear nb_; clear hb) | (go_at_call 51; (with_reducible refine (mooringlaw02_awake.calls true _ rfl).mono ?_); rintro e wn_ ⟨rfl, hb⟩; have nb_ := Aside0.mk (below_step (by repeat (first | (with_reducible first | exact HB.out | apply below_alloc | apply pw_below_drewN | apply below_drew1) | exact HB.out)) hb); clear HB; have HB := nb_; clear nb_; clear hb))
                go_ret
                exact ⟨by first | rfl | (simp [errW_none, errW_some] <;> rfl) | (simp [*, errW_none, errW_some] <;> rfl), (by repeat (first | (with_reducible first | exact HB.out | apply below_alloc | apply pw_below_drewN | apply below_drew1) | exact HB.out))⟩
            | true =>
              have HAL0 : Aside0 ((mb && decide (0 < l1.length) && decide (l1.length ≤ 255) && l1.all fun v => decide (0 ≤ v) && decide (v < l0.length)) = true) := ⟨by
                rw [← HST.out, (HM.out.yes rfl).1, Bool.true_and]
                refine all_take fun j hj => ?_
                have := (HM.out.yes rfl).2.1 j (by omega)
                rw [decide_eq_true this.1, decide_eq_true this.2]; rfl⟩
              obtain rfl : X = ys := by
                rw [(HM.out.yes rfl).2.2, HF.out.ysE HAL0.out, hsl, List.take_length]
              obtain rfl : mb = true := by
                cases mb with
                | true => rfl
                | false => exact absurd HAL0.out (by simp)
              have HALL := HAL0
              clear HM HAL0 hs hi hsl
              have HFR : Aside0 (Ev (fun k => matrix_Rows.f k l0 l1) (X, 0)) := ⟨by have h := HF.out.rows; rw [HALL.out] at h; exact h⟩
              have HFK : Aside0 (matrix_Rank.f l0 = some (rk, 0)) := ⟨HF.out.rank⟩
              obtain ⟨Ao, co, rfl⟩ := Kd.R_slice HO.out
              clear HALL
              go_wp2_with (first | ((with_reducible refine gate_dst (N := 100) rfl ?_); refine Kd.R_lit (Kd.int .i64) _ 3 ?hg (N := 100) ?hd (xs := ([] : List Int)) (inner := []) (ok := fun _ => True) (okp := fun _ => True) ?hr ?hp (fun _ hk => hk) trivial (Below.refl _ _) (Nat.le_refl _) (by simp) ?_; (case hd => rfl); (case hg => rfl); (case hr => first | (go_simp; done) | (go_simp; rfl)); (case hp => exact (Reps.none _ _)); intro vl_ wn_ ho hb hg_ hnew_; clear hg_ hnew_; have HL := Aside0.mk (Kd.R_lower ho (below_size (by repeat (first | (with_reducible first | exact HB.out | apply below_alloc | apply pw_below_drewN | apply below_drew1) | exact HB.out)))); clear ho; have n0_ := Aside0.mk (Kd.R_below (by (with_reducible repeat (first | apply Kd.R_alloc | apply Kd.R_drewN | apply Kd.R_drew)); exact HO.out) hb); have nb_ := Aside0.mk (below_step (by repeat (first | (with_reducible first | exact HB.out | apply below_alloc | apply pw_below_drewN | apply below_drew1) | exact HB.out)) hb); clear HO; clear HB; have HO := n0_; have HB := nb_; clear nb_; clear n0_; clear hb) | ((with_reducible refine gate_builtin (b := .append) (xs := #[.tmp 100, .tmp 101]) rfl ?_); at_builtin; refine Kd.R_append_rows (Kd.int .i64) (w0 := w) w.heap.size rfl (.tmp 100) (.tmp 101) 72 3 (.int .i64 0) 8 rfl Try.underlying72 Go.Proofs.Ytbogmlckbkogiaa.P.info3 rfl (by decide) (by omega) vl_ ([] : List Int) l1 _ _ _ (fun _ => True) (fun _ => False) rfl rfl ?aO ?aR (fun _ _ h => h) (fun _ h => h.elim) ?aF ?aB ?aS ?aL ?_; (case aR => repeat (first | exact (Kd.C_below HR1.out HB.out) | (with_reducible refine Kd.C_alloc ?_ _) | (with_reducible refine Kd.C_drewN ?_ _) | (with_reducible refine Kd.C_drew ?_))); (case aB => exact (by repeat (first | (with_reducible first | exact HB.out | apply below_alloc | apply pw_below_drewN | apply below_drew1) | exact HB.out))); (case aF => exact (fun _ _ => trivial)); (case aO => exact (by repeat (first | (with_reducible first | apply Kd.R_alloc | apply Kd.R_drewN | apply Kd.R_drew) | exact HL.out))); (case aS => exact (below_size (by repeat (first | (with_reducible first | exact HB.out | apply below_alloc | apply pw_below_drewN | apply below_drew1) | exact HB.out)))); (case aL => have := HZ.out; simp only [List.length_nil]; omega); intro vm_ wn_ ho hb hg hat; rw [List.nil_append] at ho; have n1_ := Aside0.mk (Kd.R_over' (by repeat (first | (with_reducible first | apply Kd.R_alloc | apply Kd.R_drewN | apply Kd.R_drew) | exact HO.out)) (Kd.R_typed (by repeat (first | (with_reducible first | apply Kd.R_alloc | apply Kd.R_drewN | apply Kd.R_drew) | exact HL.out))) (fixed_ne w 3 (by decide)) hg); clear HO HB HL; have HO := n1_; have HB := Aside0.mk hb; have HL := Aside0.mk ho; clear n1_ ho hb hg hat; obtain ⟨Al, cl, rfl⟩ := Kd.R_slice HL.out) | ((with_reducible refine gate_callee (f := 69) rfl ?_); refine goesL_ (some 103) rfl rfl Try.func69 (by kernel_rfl) rfl #[.slice A0 l0.length c0, .slice Al l1.length cl] rfl (by (try simp only [List.map_toArray, List.map_cons, List.map_nil]); first | done | rfl) ?_; (with_reducible refine (rows_calls A0 c0 l0 _ _ l1 X 0 _ ?side1 ?side2 ?side3 ?side4 HFR.out).mono ?_); (case side1 => repeat (first | exact (Kd.C_below HR0.out HB.out) | (with_reducible refine Kd.C_alloc ?_ _) | (with_reducible refine Kd.C_drewN ?_ _) | (with_reducible refine Kd.C_drew ?_))); (case side2 => exact HC0.out); (case side3 => repeat (first | exact (Kd.R_reads' HL.out).2.2 | (with_reducible refine Kd.C_alloc ?_ _) | (with_reducible refine Kd.C_drewN ?_ _) | (with_reducible refine Kd.C_drew ?_))); (case side4 => exact (Kd.R_reads' HL.out).2.1); rintro e wn_ ⟨v0_, rfl, hS, hb⟩; refine ⟨_, rfl, ?_⟩; obtain ⟨Ay, cy, rfl⟩ := Kd.S_slice hS; have HY := Aside0.mk (Kd.S_reads' hS).2.2; have HYL := Aside0.mk (Kd.S_reads' hS).2.1; clear hS HL; have n0_ := Aside0.mk (Kd.R_below (by (with_reducible repeat (first | apply Kd.R_alloc | apply Kd.R_drewN | apply Kd.R_drew)); exact HO.out) hb); have nb_ := Aside0.mk (below_step (by repeat (first | (with_reducible first | exact HB.out | apply below_alloc | apply pw_below_drewN | apply below_drew1) | exact HB.out)) hb); clear HO; clear HB; have HO := n0_; have HB := nb_; clear nb_; clear n0_; clear hb) | ((with_reducible refine gate_callee (f := 70) rfl ?_); refine goesL_ (some 108) rfl rfl Try.func70 (by kernel_rfl) rfl #[.slice A0 l0.length c0] rfl (by (try simp only [List.map_toArray, List.map_cons, List.map_nil]); first | done | rfl) ?_; (with_reducible refine (matrix_Rank.calls A0 c0 l0 rk 0 _ ?side1 ?side2 HFK.out).mono ?_); (case side1 => repeat (first | exact (Kd.C_below HR0.out HB.out) | (with_reducible refine Kd.C_alloc ?_ _) | (with_reducible refine Kd.C_drewN ?_ _) | (with_reducible refine Kd.C_drew ?_))); (case side2 => exact HC0.out); rintro e wn_ ⟨rfl, hb⟩; refine ⟨_, rfl, ?_⟩; have n0_ := Aside0.mk (Kd.C_below (by repeat (first | exact HY.out | (with_reducible refine Kd.C_alloc ?_ _) | (with_reducible refine Kd.C_drewN ?_ _) | (with_reducible refine Kd.C_drew ?_))) hb); have n1_ := Aside0.mk (Kd.R_below (by (with_reducible repeat (first | apply Kd.R_alloc | apply Kd.R_drewN | apply Kd.R_drew)); exact HO.out) hb); have nb_ := Aside0.mk (below_step (by repeat (first | (with_reducible first | exact HB.out | apply below_alloc | apply pw_below_drewN | apply below_drew1) | exact HB.out)) hb); clear HY; clear HO; clear HB; have HY := n0_; have HO := n1_; have HB := nb_; clear nb_; clear n0_; clear n1_; clear hb) | ((with_reducible refine gate_callee (f := 66) rfl ?_); refine goesL_ (some 113) rfl rfl Try.func66 (by kernel_rfl) rfl #[.bool true] rfl (by (try simp only [List.map_toArray, List.map_cons, List.map_nil]); first | done | rfl) ?_; (with_reducible refine (mooringlaw02_errno.calls true 0 _ rfl).mono ?_); rintro e w' ⟨rfl, ⟨nd, rfl⟩⟩; refine ⟨_, rfl, ?_⟩) | (go_at_call 66; (with_reducible refine (mooringlaw02_errno.calls true 0 _ rfl).mono ?_); rintro e w' ⟨rfl, ⟨nd, rfl⟩⟩) | (go_at_call 57; (with_reducible refine (same_calls _ _ X _ _ X true _ ?side1 ?side2 ?side3 ?side4 HF.out.sameY).mono ?_); (case side1 => repeat (first | exact HY.out | (with_reducible refine Kd.C_alloc ?_ _) | (with_reducible refine Kd.C_drewN ?_ _) | (with_reducible refine Kd.C_drew ?_))); (case side2 => exact HYL.out); (case side3 => repeat (first | exact (fixed_C HB.out (Kd.R_reads' HO.out).2.2) | (with_reducible refine Kd.C_alloc ?_ _) | (with_reducible refine Kd.C_drewN ?_ _) | (with_reducible refine Kd.C_drew ?_))); (case side4 => exact (Kd.R_reads' HO.out).2.1); rintro e w' ⟨rfl, ⟨nd, rfl⟩⟩) | (go_at_call 53; (with_reducible refine (may_calls _ _ l0 _ _ ?side1 ?side2 HF.out.may).mono ?_); (case side1 => repeat (first | exact (Kd.C_below HR0.out HB.out) | (with_reducible refine Kd.C_alloc ?_ _) | (with_reducible refine Kd.C_drewN ?_ _) | (with_reducible refine Kd.C_drew ?_))); (case side2 => exact HC0.out); rintro e w' ⟨rfl, ⟨nd, rfl⟩⟩) | (go_at_call 54; (with_reducible refine (mooringref02_Rank.calls A0 c0 l0 rk _ ?side1 ?side2 (HF.out.refRank rfl)).mono ?_); (case side1 => repeat (first | exact (Kd.C_below HR0.out HB.out) | (with_reducible refine Kd.C_alloc ?_ _) | (with_reducible refine Kd.C_drewN ?_ _) | (with_reducible refine Kd.C_drew ?_))); (case side2 => exact HC0.out); rintro e wn_ ⟨rfl, hb⟩; have nb_ := Aside0.mk (below_step (by repeat (first | (with_reducible first | exact HB.out | apply below_alloc | apply pw_below_drewN | apply below_drew1) | exact HB.out)) hb); clear HB; have HB := nb_; clear nb_; clear hb) | (go_at_call 51; (with_reducible refine (mooringlaw02_awake.calls true _ rfl).mono ?_); rintro e wn_ ⟨rfl, hb⟩; have nb_ := Aside0.mk (below_step (by repeat (first | (with_reducible first | exact HB.out | apply below_alloc | apply pw_below_drewN | apply below_drew1) | exact HB.out)) hb); clear HB; have HB := nb_; clear nb_; clear hb))
              go_ret
              exact ⟨by first | rfl | (simp [errW_none, errW_some] <;> rfl) | (simp [*, errW_none, errW_some] <;> rfl), (by repeat (first | (with_reducible first | exact HB.out | apply below_alloc | apply pw_below_drewN | apply below_drew1) | exact HB.out))⟩
end Go.Proofs.Ytbogmlckbkogiaa.H

/- Products as matrices, and whether matrices are alike. Conditions: told at each. -/
namespace Go.Proofs.Ytbogmlckbkogiaa.Red
open Go.RowKit Go.Proofs.YtbogmlckbkogiaaW.PrintWords Go.Proofs.Ytbogmlckbkogiaa.Leaf Go.Proofs.Ytbogmlckbkogiaa.Gf Go.Proofs.Ytbogmlckbkogiaa.H Go.Proofs.Ytbogmlckbkogiaa.Mx Go.Proofs.Ytbogmlckbkogiaa.P
set_option linter.unusedVariables false
set_option linter.unusedSimpArgs false
/-- The product. -/
def mulM (A C : Mat) : Mat := matF A.length (row C 0).length (mm C.length (el A) (el C))
theorem mulM_reg {A C : Mat} {n m p : Nat} (hA : Reg A n m) (hC : Reg C m p) (hm : 0 < m) : Reg (mulM A C) n p := by
  unfold mulM
  rw [hA.1, hC.2 0 hm]
  exact matF_reg n p _
theorem el_mulM {A C : Mat} {n m p : Nat} (hA : Reg A n m) (hC : Reg C m p) (hm : 0 < m) {i j : Nat} (hi : i < n) (hj : j < p) : el (mulM A C) i j = mm m (el A) (el C) i j := by
  unfold mulM
  rw [hA.1, hC.1, hC.2 0 hm, el_matF _ hi hj]
theorem mulM_assoc {A C D : Mat} {n m p q : Nat} (hA : Reg A n m) (hC : Reg C m p) (hD : Reg D p q) (hm : 0 < m) (hp : 0 < p) : mulM (mulM A C) D = mulM A (mulM C D) := by
  refine mat_ext (mulM_reg (mulM_reg hA hC hm) hD hp) (mulM_reg hA (mulM_reg hC hD hp) hm) fun i j hi hj => ?_
  rw [el_mulM (mulM_reg hA hC hm) hD hp hi hj, el_mulM hA (mulM_reg hC hD hp) hm hi hj]
  refine (mm_congr (fun k hk => el_mulM hA hC hm hi hk) (fun _ _ => rfl)).trans ?_
  rw [mm_assoc]
  exact mm_congr (fun _ _ => rfl) (fun k hk => (el_mulM hC hD hp hk hj).symm)
theorem mulM_id {A : Mat} {n m : Nat} (hA : Reg A n m) (hn : 0 < n) : mulM (idM n) A = A := by
  refine mat_ext (mulM_reg (matF_reg n n I) hA hn) hA fun i j hi hj => ?_
  rw [idM_eq, el_mulM (matF_reg n n I) hA hn hi hj]
  refine (mm_congr (fun k hk => el_matF I hi hk) (fun _ _ => rfl)).trans ?_
  exact mm_IL _ _ hi
/-! ### Are matrices alike? -/
theorem str_eq (L M : List B) : (strOfNums (ofL L)).toList = (strOfNums (ofL M)).toList ↔ L = M := by
  refine ⟨fun h => ?_, fun h => by rw [h]⟩
  rw [ByteArray.toList_eq, ByteArray.toList_eq, strOfNums_data, strOfNums_data] at h
  have h2 := congrArg (List.map fun c : UInt8 => BitVec.ofNat 8 c.toNat) h
  have hid : ∀ N : List B, ((ofL N).map fun n => UInt8.ofNat n.toNat).map (fun c : UInt8 => BitVec.ofNat 8 c.toNat) = N := by
    intro N
    unfold ofL
    rw [List.map_map, List.map_map]
    refine (List.map_congr_left fun x _ => ?_).trans (List.map_id' N)
    have hx := x.isLt
    simp only [Function.comp, ofB, Int.toNat_natCast]
    apply BitVec.eq_of_toNat_eq
    simp
  rw [hid, hid] at h2
  exact h2
theorem same_l0 (A C : Mat) (hl : A.length = C.length) (hs : A.length ≤ 9223372036854775807) (d : Nat) : ∀ i : Nat, i + d = A.length → (∀ j, j < i → row A j = row C j) → Ev (fun k => mooringref02_Same.l0 k (oM A) (oM C) (i : Int)) (decide (A = C)) := by
  induction d with
  | zero =>
    intro i hi h
    have e : A = C := by
      refine List.ext_getElem hl fun j h1 h2 => ?_
      have h3 := h j (by omega)
      unfold row at h3
      rw [List.getD_eq_getElem?_getD, List.getElem?_eq_getElem h1, List.getD_eq_getElem?_getD, List.getElem?_eq_getElem h2] at h3
      exact h3
    rw [decide_eq_true e]
    refine Ev.step (f := fun _ => some true) (fun k => ?_) (Ev.now _)
    simp only [mooringref02_Same.l0, oM_length]
    rw [if_neg (by omega)]
  | succ d ih =>
    intro i hi h
    by_cases he : row A i = row C i
    · refine Ev.step (f := fun k => mooringref02_Same.l0 k (oM A) (oM C) ((i + 1 : Nat) : Int)) (fun k => ?_) (ih (i + 1) (by omega) (fun j hj => ?_))
      · simp only [mooringref02_Same.l0, oM_length, rd_oM]
        rw [if_pos (by omega), if_pos (by omega), if_pos (by omega), if_pos ((str_eq _ _).2 he), w64 _ (by omega) (by omega)]
        rfl
      · by_cases e : j = i
        · rw [e]; exact he
        · exact h j (by omega)
    · have e : decide (A = C) = false := decide_eq_false (fun e => he (by rw [e]))
      rw [e]
      refine Ev.step (f := fun _ => some false) (fun k => ?_) (Ev.now _)
      simp only [mooringref02_Same.l0, oM_length, rd_oM]
      rw [if_pos (by omega), if_pos (by omega), if_pos (by omega), if_neg (fun h => he ((str_eq _ _).1 h))]
theorem evSame (A C : Mat) (hs : A.length ≤ 9223372036854775807) : Ev (fun k => mooringref02_Same.f k (oM A) (oM C)) (decide (A = C)) := by
  unfold mooringref02_Same.f
  simp only [oM_length]
  by_cases h : A.length = C.length
  · simp only [show ((A.length : Int) = (C.length : Int)) = True from eq_true (by omega), if_true]
    exact same_l0 A C h hs A.length 0 (by omega) (fun j hj => by omega)
  · simp only [show ((A.length : Int) = (C.length : Int)) = False from eq_false (by omega), if_false]
    rw [decide_eq_false (fun e => h (by rw [e]))]
    exact Ev.now _
end Go.Proofs.Ytbogmlckbkogiaa.Red

/- What the callees of MatrixRows tell, for any rows of bytes, ints and number. Conditions: none. -/
namespace Go.Proofs.Ytbogmlckbkogiaa.Pure
open Go.RowKit Go.Proofs.YtbogmlckbkogiaaW.PrintWords Go.Proofs.Ytbogmlckbkogiaa.Leaf Go.Proofs.Ytbogmlckbkogiaa.P Go.Proofs.Ytbogmlckbkogiaa.Gf Go.Proofs.Ytbogmlckbkogiaa.Red Go.Proofs.Ytbogmlckbkogiaa.H Go.Proofs.Ytbogmlckbkogiaa.Mx
set_option linter.unusedSimpArgs false
set_option linter.unusedVariables false
namespace Rws
def lightB (A : Mat) : Bool := decide (A.length ≤ 40) && (decide (A.length = 0) || decide ((row A 0).length ≤ 40))
theorem light_eq (A : Mat) : mooringlaw02_light.f (oM A) = some (lightB A) := by
  unfold mooringlaw02_light.f lightB
  simp only [oM_length, rd_oM0, ofL_length]
  by_cases h1 : A.length ≤ 40
  · rw [if_pos (by omega), decide_eq_true h1]
    by_cases h2 : A.length = 0
    · rw [if_pos (by omega), decide_eq_true h2]; rfl
    · rw [if_neg (by omega), if_pos (by omega), decide_eq_false h2]
      simp only [Bool.true_and, Bool.false_or, Option.some.injEq]
      by_cases h3 : (row A 0).length ≤ 40
      · rw [decide_eq_true h3, decide_eq_true (by omega)]
      · rw [decide_eq_false h3, decide_eq_false (by omega)]
  · rw [if_neg (by omega), decide_eq_false h1]; rfl
theorem rank_f (A : Mat) (h : mayB A = true) : mooringref02_Rank.f (oM A) = some (((redF (row A 0).length 0 0 A (zeroM A.length 1)).1 : Nat) : Int) := by
  unfold mooringref02_Rank.f
  rw [unM_oM, if_pos ⟨bytes_oM A, h⟩]
end Rws
theorem MatrixRows (A : Mat) (hs : A.length * 24 ≤ 140737488351232) (hr : ∀ i, i < A.length → (row A i).length ≤ 140737488351232) (l : List Int) (n : Int) :
    MrFacts (oM A) l n (Rws.lightB A) (mayB A) (idR n).1 (oM (idM n.toNat)) (rowsR A l).1 (idR n).2 (rankR A).1 where
  id_ := evIdentity n
  e0_in := fun h1 h2 => by unfold idR; rw [if_pos ⟨h1, h2⟩]
  e0_out := fun h => by unfold idR; rw [if_neg h]
  ref := fun h1 h2 => by
    obtain ⟨m, rfl⟩ := Int.eq_ofNat_of_zero_le (show 0 ≤ n by omega)
    exact evRefIdentity m (by omega)
  same := fun h1 h2 => by
    have h := evSame (idM n.toNat) (idM n.toNat) (by rw [idM_eq, (matF_reg _ _ I).1]; omega)
    rw [decide_eq_true rfl] at h
    unfold idR
    rw [if_pos ⟨h1, h2⟩]
    exact h
  light := Rws.light_eq A
  may := evMay A (by omega)
  rows := by
    have h := evRows A (by omega) l
    have e : rowsR A l = ((rowsR A l).1, if (mayB A && decide (0 < l.length) && decide (l.length ≤ 255) && l.all fun v => decide (0 ≤ v) && decide (v < (oM A).length)) = true then 0 else 1) := by
      rw [oM_length]
      unfold rowsR rowsB
      cases h2 : (mayB A && decide (0 < l.length) && decide (l.length ≤ 255) && l.all fun v => decide (0 ≤ v) && decide (v < A.length)) with
      | true => rfl
      | false => rfl
    rw [e] at h
    exact h
  rank := by
    rw [matrix_Rank.f_oM]
    unfold rankR
    cases mayB A <;> rfl
  refRank := fun h => by
    rw [Rws.rank_f A h]
    unfold rankR
    rw [if_pos h]
  ysE := fun h => by
    rw [oM_length] at h
    have hall := (Bool.and_eq_true_iff.mp h).2
    unfold rowsR rowsB
    rw [if_pos h]
    show (l.map fun i => row A i.toNat).map ofL = _
    rw [List.map_map]
    refine List.map_congr_left fun i hi => ?_
    have h2 := List.all_eq_true.1 hall i hi
    rw [Bool.and_eq_true, decide_eq_true_eq, decide_eq_true_eq] at h2
    obtain ⟨m, rfl⟩ := Int.eq_ofNat_of_zero_le h2.1
    rw [rd_oM]
    rfl
  sameY := by
    unfold rowsR
    by_cases h : rowsB A l = true
    · rw [if_pos h]
      have h2 := evSame (rowsM A l) (rowsM A l) (by
        unfold rowsB at h
        have := of_decide_eq_true (Bool.and_eq_true_iff.mp (Bool.and_eq_true_iff.mp h).1).2
        unfold rowsM
        rw [List.length_map]
        omega)
      rw [decide_eq_true rfl] at h2
      exact h2
    · rw [if_neg h]
      have h2 := evSame ([] : Mat) [] (by simp)
      rw [decide_eq_true rfl] at h2
      exact h2
end Go.Proofs.Ytbogmlckbkogiaa.Pure

/- A slice of rows of bytes that came in, told as a matrix. Conditions: none. -/
namespace Go.Proofs.Ytbogmlckbkogiaa.H
open Go.RowKit Go.ChangeShapes Go.WideShapes Go.Deep Go.Proofs.YtbogmlckbkogiaaW.PrintWords Go.Proofs.Ytbogmlckbkogiaa.Leaf Go.Proofs.Ytbogmlckbkogiaa.Gf Go.Proofs.Ytbogmlckbkogiaa.Red
set_option linter.unusedVariables false
theorem rows_weights {H : Type} {P : Program} {e : TypeId} : ∀ {l : List (DataW H)} {d : DataW H}, d ∈ l → ∀ n ∈ d.weights P e, n ∈ DataW.weightsAll P e l
  | d0 :: l, d, hd, n, hn => by
    simp only [DataW.weightsAll, List.mem_append]
    rcases List.mem_cons.1 hd with rfl | hd
    · exact Or.inl hn
    · exact Or.inr (rows_weights hd n hn)
theorem u8_range {x : Int} (h : (Lit.int .u8 x).wf = true) : 0 ≤ x ∧ x < 256 := by
  have h1 : 0 ≤ x ∧ x ≤ 255 := by simpa [Lit.wf, IntKind.min, IntKind.max, IntKind.signed, IntKind.bits] using h
  omega
theorem rows_arg {H : Type} {enc : TypeId × Value → H} {W : World} {a : Option Addr} {len cap : Nat} {d : DataW H} {ps : List MemPlace} (h : DataW.Trod enc Try.prog W 0 (fun _ => true) true 51 (.slice a len cap) d ps) (hw : ∀ x ∈ d.weights Try.prog 51, x ≤ reachBytes) :
    ∃ M : Mat, len = M.length ∧ len ≤ cap ∧ Kd.C KR W a len (oM M) ∧ len * 24 ≤ 140737488351232 ∧ ∀ i, i < M.length → (row M i).length ≤ 140737488351232 := by
  obtain ⟨fuel, hf⟩ := h
  rcases open_int_rows Try.underlying51 Try.underlying22 Try.underlying5 (by kernel_rfl) (by kernel_rfl) hf with ⟨hcs, _⟩ | ⟨a', len', cap', A, L, C, Z, hcs, _, hl, hm, hx, hrow⟩
  · simp [Value.cells] at hcs
    obtain ⟨rfl, rfl, rfl⟩ := hcs
    exact ⟨[], rfl, Nat.le_refl _, Kd.C_nil _ _, by decide, fun i hi => absurd hi (Nat.not_lt_zero _)⟩
  · simp [Value.cells] at hcs
    obtain ⟨rfl, rfl, rfl⟩ := hcs
    obtain ⟨rfl, _⟩ := Prod.mk.inj hx
    have hlen : len ≤ 9223372036854775807 := by unfold maxLen at hm; omega
    let M : Mat := (List.range len).map fun r => ((Z r).take (L r)).map toB
    have hML : M.length = len := by simp [M]
    have hMr : ∀ r, r < len → row M r = ((Z r).take (L r)).map toB := fun r hr => row_map len (fun r => ((Z r).take (L r)).map toB) r hr
    have hlr : ∀ r, r < len → (row M r).length = L r := by
      intro r hr
      obtain ⟨_, h1, _, h2, _⟩ := hrow r (by omega)
      rw [hMr r hr, List.length_map, List.length_take, h2]
      omega
    have hof : ∀ r, r < len → ofL (row M r) = (Z r).take (L r) := by
      intro r hr
      obtain ⟨_, _, _, _, hz, _⟩ := hrow r (by omega)
      rw [hMr r hr]
      unfold ofL
      rw [List.map_map]
      refine (List.map_congr_left fun x hx => ?_).trans (List.map_id' _)
      have := u8_range (hz x (List.mem_of_mem_take hx))
      exact ofB_toB x this.1 this.2
    refine ⟨M, hML.symm, hl, ?_, ?_, fun r hr => ?_⟩
    · have hC := C_rows_of W a' (oM M) A C (by rw [oM_length, hML]; exact hlen) (fun r hr => by
        rw [oM_length, hML] at hr
        obtain ⟨hc, h1, h2, h3, h4, h5, h6⟩ := hrow r (by omega)
        have e : (oM M).getD r [] = ofL (row M r) := map_getD M r
        rw [e, ofL_length, hlr r hr]
        refine ⟨hc, h1, by rw [ofL_length, hlr r hr], by unfold maxLen at h2; omega, fun hp => ?_⟩
        cases hA : A r with
        | none => have := h5 hA; omega
        | some ad =>
          obtain ⟨_, h7⟩ := h6 ad hA
          refine ⟨ad, rfl, fun j p hj => ⟨[.int .u8 p], rfl, rfl, fun i u hu => ?_⟩⟩
          cases i with
          | zero =>
            cases hu
            show W.cell? (ad.add (j * 1 + 0)) = _
            rw [Nat.mul_one, Nat.add_zero]
            have hj' := (List.getElem?_eq_some_iff.1 hj).1
            rw [ofL_length, hlr r hr] at hj'
            rw [h7 j (by omega)]
            rw [hof r hr, List.getElem?_take, if_pos hj'] at hj
            rw [List.getD_eq_getElem?_getD, hj]
            rfl
          | succ i => simp at hu)
      rw [oM_length, hML] at hC
      exact hC
    · have h1 : ((len + (cap - len)) * 24) ∈ (DataW.slice ((List.range len).map fun r => intRow (H := H) .u8 (A r) (L r) (Z r)) ((List.range (cap - len)).map fun j => intRow .u8 (A (len + j)) (L (len + j)) (Z (len + j)))).weights Try.prog 51 := by
        simp only [DataW.weights, Try.underlying51, List.length_map, List.length_range]
        rw [show Try.prog.bytesOf 22 = 24 by kernel_rfl]
        exact List.mem_cons_self
      have h2 := hw _ h1
      have : reachBytes = 140737488351232 := by decide
      omega
    · rw [hML] at hr
      obtain ⟨hc, h1, h2, h3, h4, h5, h6⟩ := hrow r (by omega)
      rw [hlr r hr]
      cases hA : A r with
      | none => have := h5 hA; omega
      | some ad =>
        have hmem : intRow (H := H) .u8 (A r) (L r) (Z r) ∈ (List.range len).map fun r => intRow (H := H) .u8 (A r) (L r) (Z r) := List.mem_map.2 ⟨r, List.mem_range.2 hr, rfl⟩
        have hin := hw (((lits (H := H) .u8 ((Z r).take (L r))).length + (lits (H := H) .u8 ((Z r).drop (L r))).length) * 1) (by
          simp only [DataW.weights, Try.underlying51]
          refine List.mem_cons_of_mem _ (List.mem_append_left _ (rows_weights hmem _ ?_))
          rw [hA]
          simp only [intRow, DataW.weights, Try.underlying22]
          rw [show Try.prog.bytesOf 5 = 1 by kernel_rfl]
          exact List.mem_cons_self)
        have : reachBytes = 140737488351232 := by decide
        simp [lits] at hin
        omega
end Go.Proofs.Ytbogmlckbkogiaa.H
