/- Words and walks that the claim RebuildChunks leans on (what it does not use is left out). -/
import Derived.Test.YtnfgiamdmfkcjaaDoorMRebuildChunks1
import Derived.Test.YtnfgiamdmfkcjaaDoorMRebuildChunks8
import Derived.Test.YtnfgiamdmfkcjaaDoorMRebuildChunks12
set_option linter.unusedSimpArgs false
set_option linter.unusedVariables false
namespace Go.Proofs.YtnfgiamdmfkcjaaDoor.P
open Go.Proofs.YtnfgiamdmfkcjaaDoor.H
open Go.Proofs.YtnfgiamdmfkcjaaDoor.Leaf
open Go.RowKit Go.Proofs.YtnfgiamdmfkcjaaDoorW.PrintWords Go.Proofs.YtnfgiamdmfkcjaaDoorW.PrintLast Go.Proofs.YtnfgiamdmfkcjaaDoorW.PrintMore
attribute [local go_sem] max2_int min2_int max_two min_two max_three min_three max_four min_four
theorem cut_hm {P : Program} (t e : TypeId) (kh : IntKind) {i : TypeInfo} (ht : P.underlying t = some (.slice e)) (hi : P.info? e = some i) (A : Option Addr) (n c : Nat) (j : Int) (h0 : 0 ≤ j) (hm : j ≤ n) (hc : n ≤ c) :
 ∀ W : World, (Instr.slice t (.slice A n c) none (some (.int kh j)) (some (.int kh j))).run P W = .ok (.slice A j.toNat j.toNat) W := by
 intro W
 have hel : P.elem t = e := by simp [Program.elem, ht]
 have hu : P.underlying t = some (.slice (P.elem t)) := by rw [hel]; exact ht
 have ha : (A.map fun x => x.add 0) = A := by cases A <;> simp [Addr.add]
 rw [run_slice_hm W t A n c hu kh kh j j h0 (Int.le_refl _) (by omega), hel]
 simp [sizeOf, typeInfo, hi, sliced, Result.andThen, ha]
mutual
def wJo_.j0 : Nat → Int → Int → Int → List (List Int) → List Bool → Bool → Option (List Int × Int)
 | 0, _, _, _, _, _, _ => none
 | k + 1, x0, x1, x2, x3, x4, x43 => if x43 = true then (some (([] : List Int), 1)) else ((stripe_Length.f k x0 x2).bind fun bt102 => (if bt102.2 = 0 then (wJo_.l0 k x0 x1 x2 x3 x4 bt102.1 x4 (x4.length : Int) 0) else (some (([] : List Int), bt102.2))))
def wJo_.l0 : Nat → Int → Int → Int → List (List Int) → List Bool → Int → List Bool → Int → Int → Option (List Int × Int)
 | 0, _, _, _, _, _, _, _, _, _ => none
 | k + 1, x0, x1, x2, x3, x4, x12, x53, x54, x55 => if x55 < x54 then (if 0 ≤ x55 then (if x55 < (x53.length : Int) then (if rdOf false x53 x55 = true then (if x55 < (x3.length : Int) then (if ((rd_L1 x3 x55).length : Int) = x12 then (wJo_.l0 k x0 x1 x2 x3 x4 x12 x53 x54 (wrap64 (x55 + 1))) else (some (([] : List Int), 8))) else (none)) else (wJo_.l0 k x0 x1 x2 x3 x4 x12 x53 x54 (wrap64 (x55 + 1)))) else (none)) else (none)) else ((code_Decode.f x0 x1 x3 x4).bind fun bt106 => (if bt106.2 = 0 then (wJo_.l1 k x0 x2 bt106.1 ([] : List Int) (wrap64 (Int.tdiv x12 16)) 0) else (some (([] : List Int), bt106.2))))
def wJo_.l1 : Nat → Int → Int → List (List Int) → List Int → Int → Int → Option (List Int × Int)
 | 0, _, _, _, _, _, _ => none
 | k + 1, x0, x2, x16, x17, x83, x84 => if x84 < x83 then (wJo_.l2 k x0 x2 x16 x17 x84 x83 x84 x0 0) else (if 0 ≤ x2 then (if x2 ≤ (x17.length : Int) then ((bytes_Trim.f k (x17.drop (x2 : Int).toNat) (⟨#[0]⟩ : ByteArray)).bind fun t115 => (if (t115.length : Int) > 0 then (some (([] : List Int), 8)) else (some ((x17.take (x2 : Int).toNat), 0)))) else (none)) else (none))
def wJo_.l2 : Nat → Int → Int → List (List Int) → List Int → Int → Int → Int → Int → Int → Option (List Int × Int)
 | 0, _, _, _, _, _, _, _, _, _ => none
 | k + 1, x0, x2, x16, x17, x18, x83, x84, x87, x88 => if x88 < x87 then (if 0 ≤ x88 then (if x88 < (x16.length : Int) then (if 0 ≤ (wrap64 (x18 * 16)) then (if (wrap64 (x18 * 16)) ≤ (wrap64 ((wrap64 (x18 + 1)) * 16)) then (if (wrap64 ((wrap64 (x18 + 1)) * 16)) ≤ ((rd_L1 x16 x88).length : Int) then ((some (((rd_L1 x16 x88).take ((wrap64 ((wrap64 (x18 + 1)) * 16)) : Int).toNat).drop ((wrap64 (x18 * 16)) : Int).toNat : List Int)).bind fun y122 => (if x17.length + y122.length < 140737488355328 then (wJo_.l2 k x0 x2 x16 (x17 ++ y122) x18 x83 x84 x87 (wrap64 (x88 + 1))) else (none))) else (none)) else (none)) else (none)) else (none)) else (none)) else (wJo_.l1 k x0 x2 x16 x17 x83 (wrap64 (x84 + 1)))
end
def wJo_.f (k : Nat) (a0 : Int) (a1 : Int) (a2 : Int) (l3 : List (List Int)) (l4 : List Bool) : Option (List Int × Int) := (stripe_is.f a0 a1).bind fun t101 => (if t101 = true then (if a2 < 0 then (wJo_.j0 k a0 a1 a2 l3 l4 true) else (if (l3.length : Int) = (wrap64 (a0 + a1)) then (wJo_.j0 k a0 a1 a2 l3 l4 ((l4.length : Int) != (wrap64 (a0 + a1)))) else (wJo_.j0 k a0 a1 a2 l3 l4 true))) else (wJo_.j0 k a0 a1 a2 l3 l4 true))
theorem wJo_.mono_l : ∀ k, (∀ y0 y1 y2 y3 y4 y5, LeO (wJo_.j0 k y0 y1 y2 y3 y4 y5) (wJo_.j0 (k + 1) y0 y1 y2 y3 y4 y5)) ∧ (∀ y0 y1 y2 y3 y4 y5 y6 y7 y8, LeO (wJo_.l0 k y0 y1 y2 y3 y4 y5 y6 y7 y8) (wJo_.l0 (k + 1) y0 y1 y2 y3 y4 y5 y6 y7 y8)) ∧ (∀ y0 y1 y2 y3 y4 y5, LeO (wJo_.l1 k y0 y1 y2 y3 y4 y5) (wJo_.l1 (k + 1) y0 y1 y2 y3 y4 y5)) ∧ (∀ y0 y1 y2 y3 y4 y5 y6 y7 y8, LeO (wJo_.l2 k y0 y1 y2 y3 y4 y5 y6 y7 y8) (wJo_.l2 (k + 1) y0 y1 y2 y3 y4 y5 y6 y7 y8))
 | 0 => ⟨fun _ _ _ _ _ _ r h => by simp [wJo_.j0] at h, fun _ _ _ _ _ _ _ _ _ r h => by simp [wJo_.l0] at h, fun _ _ _ _ _ _ r h => by simp [wJo_.l1] at h, fun _ _ _ _ _ _ _ _ _ r h => by simp [wJo_.l2] at h⟩
 | k + 1 => by
  obtain ⟨ih0, ih1, ih2, ih3⟩ := wJo_.mono_l k
  refine ⟨?_, ?_, ?_, ?_⟩
  ·intro y0 y1 y2 y3 y4 y5
   unfold wJo_.j0
   repeat' first
   | (with_reducible exact ih0 _ _ _ _ _ _)
   | (with_reducible exact ih1 _ _ _ _ _ _ _ _ _)
   | (with_reducible exact ih2 _ _ _ _ _ _)
   | (with_reducible exact ih3 _ _ _ _ _ _ _ _ _)
   | (with_reducible exact bytes_Trim.mono _ _ _)
   | (with_reducible exact stripe_Length.mono _ _ _)
   | (with_reducible exact LeO.refl _)
   | (with_reducible exact LeO.none _)
   | (with_reducible refine LeO.ite ?_ ?_)
   | (with_reducible refine LeO.bind ?_ (fun _ => ?_))
   | exact ih0 _ _ _ _ _ _
   | exact ih1 _ _ _ _ _ _ _ _ _
   | exact ih2 _ _ _ _ _ _
   | exact ih3 _ _ _ _ _ _ _ _ _
   | exact bytes_Trim.mono _ _ _
   | exact stripe_Length.mono _ _ _
   | exact LeO.none _
   | refine LeO.ite ?_ ?_
   | refine LeO.bind ?_ (fun _ => ?_)
  ·intro y0 y1 y2 y3 y4 y5 y6 y7 y8
   unfold wJo_.l0
   repeat' first
   | (with_reducible exact ih0 _ _ _ _ _ _)
   | (with_reducible exact ih1 _ _ _ _ _ _ _ _ _)
   | (with_reducible exact ih2 _ _ _ _ _ _)
   | (with_reducible exact ih3 _ _ _ _ _ _ _ _ _)
   | (with_reducible exact bytes_Trim.mono _ _ _)
   | (with_reducible exact stripe_Length.mono _ _ _)
   | (with_reducible exact LeO.refl _)
   | (with_reducible exact LeO.none _)
   | (with_reducible refine LeO.ite ?_ ?_)
   | (with_reducible refine LeO.bind ?_ (fun _ => ?_))
   | exact ih0 _ _ _ _ _ _
   | exact ih1 _ _ _ _ _ _ _ _ _
   | exact ih2 _ _ _ _ _ _
   | exact ih3 _ _ _ _ _ _ _ _ _
   | exact bytes_Trim.mono _ _ _
   | exact stripe_Length.mono _ _ _
   | exact LeO.none _
   | refine LeO.ite ?_ ?_
   | refine LeO.bind ?_ (fun _ => ?_)
  ·intro y0 y1 y2 y3 y4 y5
   unfold wJo_.l1
   repeat' first
   | (with_reducible exact ih0 _ _ _ _ _ _)
   | (with_reducible exact ih1 _ _ _ _ _ _ _ _ _)
   | (with_reducible exact ih2 _ _ _ _ _ _)
   | (with_reducible exact ih3 _ _ _ _ _ _ _ _ _)
   | (with_reducible exact bytes_Trim.mono _ _ _)
   | (with_reducible exact stripe_Length.mono _ _ _)
   | (with_reducible exact LeO.refl _)
   | (with_reducible exact LeO.none _)
   | (with_reducible refine LeO.ite ?_ ?_)
   | (with_reducible refine LeO.bind ?_ (fun _ => ?_))
   | exact ih0 _ _ _ _ _ _
   | exact ih1 _ _ _ _ _ _ _ _ _
   | exact ih2 _ _ _ _ _ _
   | exact ih3 _ _ _ _ _ _ _ _ _
   | exact bytes_Trim.mono _ _ _
   | exact stripe_Length.mono _ _ _
   | exact LeO.none _
   | refine LeO.ite ?_ ?_
   | refine LeO.bind ?_ (fun _ => ?_)
  ·intro y0 y1 y2 y3 y4 y5 y6 y7 y8
   unfold wJo_.l2
   repeat' first
   | (with_reducible exact ih0 _ _ _ _ _ _)
   | (with_reducible exact ih1 _ _ _ _ _ _ _ _ _)
   | (with_reducible exact ih2 _ _ _ _ _ _)
   | (with_reducible exact ih3 _ _ _ _ _ _ _ _ _)
   | (with_reducible exact bytes_Trim.mono _ _ _)
   | (with_reducible exact stripe_Length.mono _ _ _)
   | (with_reducible exact LeO.refl _)
   | (with_reducible exact LeO.none _)
   | (with_reducible refine LeO.ite ?_ ?_)
   | (with_reducible refine LeO.bind ?_ (fun _ => ?_))
   | exact ih0 _ _ _ _ _ _
   | exact ih1 _ _ _ _ _ _ _ _ _
   | exact ih2 _ _ _ _ _ _
   | exact ih3 _ _ _ _ _ _ _ _ _
   | exact bytes_Trim.mono _ _ _
   | exact stripe_Length.mono _ _ _
   | exact LeO.none _
   | refine LeO.ite ?_ ?_
   | refine LeO.bind ?_ (fun _ => ?_)
theorem wJo_.mono : ∀ a0 a1 a2 a3 a4 k, LeO (wJo_.f k a0 a1 a2 a3 a4) (wJo_.f (k + 1) a0 a1 a2 a3 a4) := by
 intro a0 a1 a2 a3 a4 k
 obtain ⟨ih0, ih1, ih2, ih3⟩ := wJo_.mono_l k
 unfold wJo_.f
 repeat' first
  | (with_reducible exact ih0 _ _ _ _ _ _)
  | (with_reducible exact ih1 _ _ _ _ _ _ _ _ _)
  | (with_reducible exact ih2 _ _ _ _ _ _)
  | (with_reducible exact ih3 _ _ _ _ _ _ _ _ _)
  | (with_reducible exact bytes_Trim.mono _ _ _)
  | (with_reducible exact stripe_Length.mono _ _ _)
  | (with_reducible exact LeO.refl _)
  | (with_reducible exact LeO.none _)
  | (with_reducible refine LeO.ite ?_ ?_)
  | (with_reducible refine LeO.bind ?_ (fun _ => ?_))
  | exact ih0 _ _ _ _ _ _
  | exact ih1 _ _ _ _ _ _ _ _ _
  | exact ih2 _ _ _ _ _ _
  | exact ih3 _ _ _ _ _ _ _ _ _
  | exact bytes_Trim.mono _ _ _
  | exact stripe_Length.mono _ _ _
  | exact LeO.none _
  | refine LeO.ite ?_ ?_
  | refine LeO.bind ?_ (fun _ => ?_)
set_option maxHeartbeats 8000000 in
set_option maxRecDepth 100000 in
theorem wJo_.calls (k : Nat) (a0 : Int) (a1 : Int) (a2 : Int) (A3 : Option Addr) (c3 : Nat) (l3 : List (List Int)) (A4 : Option Addr) (c4 : Nat) (l4 : List Bool) (r1 : List Int) (r2 : Int) (w : World) (hr3 : Kd.C (Kd.slice 5 (Kd.int .u8)) w A3 l3.length l3) (hc3 : l3.length ≤ c3) (hr4 : Kd.C Kd.bool w A4 l4.length l4) (hc4 : l4.length ≤ c4) (h : wJo_.f k a0 a1 a2 l3 l4 = some (r1, r2)) :
 Calls Tryd.prog 12 #[.int .i64 a0, .int .i64 a1, .int .i64 a2, .slice A3 l3.length c3, .slice A4 l4.length c4] w fun e w' => ∃ v0_ : Value, e = .returned (.tuple #[v0_, .int .i64 r2]) ∧ Kd.V (Kd.int .u8) 5 w' w.heap.size (fun k_ => (w.heap.size ≤ k_)) v0_ r1 ∧ Below w.heap.size w w' := by
 have HR3 := Aside0.mk hr3
 have HC3 := Aside0.mk hc3
 clear hr3 hc3
 have HR4 := Aside0.mk hr4
 have HC4 := Aside0.mk hc4
 clear hr4 hc4
 have HB := Aside0.mk (Below.refl w.heap.size w)
 have H : ((stripe_is.f a0 a1).bind fun t101 => (if t101 = true then (if a2 < 0 then (wJo_.j0 k a0 a1 a2 l3 l4 true) else (if (l3.length : Int) = (wrap64 (a0 + a1)) then (wJo_.j0 k a0 a1 a2 l3 l4 ((l4.length : Int) != (wrap64 (a0 + a1)))) else (wJo_.j0 k a0 a1 a2 l3 l4 true))) else (wJo_.j0 k a0 a1 a2 l3 l4 true))) = some (r1, r2) := h
 clear h
 have HC6 := Aside0.mk H
 clear H
 go_enter Tryd.func12, Tryd.ntmps12
 go_upto_region 1 with (fail)
 go_cut [43] (fun v43 wc => ∃ (kq : Nat) (x43_5 : Bool), v43 = .bool x43_5 ∧ Aside0 (wJo_.j0 kq a0 a1 a2 l3 l4 x43_5 = some (r1, r2)) ∧ Aside0 (kq ≤ k) ∧ Aside0 (Below w.heap.size w wc))
 case first =>
  have H := HC6.out
  clear HC6
  replace H := Option.bind_eq_some_iff.mp H
  obtain ⟨t101, A70, H⟩ := H
  replace H : (if t101 = true then (if a2 < 0 then (wJo_.j0 k a0 a1 a2 l3 l4 true) else (if (l3.length : Int) = (wrap64 (a0 + a1)) then (wJo_.j0 k a0 a1 a2 l3 l4 ((l4.length : Int) != (wrap64 (a0 + a1)))) else (wJo_.j0 k a0 a1 a2 l3 l4 true))) else (wJo_.j0 k a0 a1 a2 l3 l4 true)) = some (r1, r2) := H
  have A7 := Aside0.mk A70
  clear A70
  by_cases c8 : t101 = true
  ·subst c8
   have H1 : (if a2 < 0 then (wJo_.j0 k a0 a1 a2 l3 l4 true) else (if (l3.length : Int) = (wrap64 (a0 + a1)) then (wJo_.j0 k a0 a1 a2 l3 l4 ((l4.length : Int) != (wrap64 (a0 + a1)))) else (wJo_.j0 k a0 a1 a2 l3 l4 true))) = some (r1, r2) := by rw [if_pos rfl] at H; exact H
   clear H
   have H := H1
   clear H1
   by_cases c9 : a2 < 0
   ·rw [if_pos c9] at H
    have c9b0 : decide (a2 < 0) = true := decide_eq_true c9
    clear c9
    (first | rw [c9b0] | (simp only [i64_w, i32_w]; rw [c9b0]) | skip)
    have H' := Aside0.mk H
    clear H
    go_wp2_with (first | ((with_reducible refine gate_callee (f := 32) rfl ?_); refine goesL_ (some 22) rfl rfl Tryd.func32 (by kernel_rfl) rfl #[.int .i64 a0, .int .i64 a1] rfl (by (try simp only [List.map_toArray, List.map_cons, List.map_nil]); first | done | rfl | (simp only [List.length_drop, List.length_take]; rfl)) ?_; (with_reducible refine (stripe_is.calls a0 a1 true _ A7.out).mono ?_); rintro e w' ⟨rfl, ⟨nd, rfl⟩⟩; refine ⟨_, rfl, ?_⟩))
    go_meet
    case rel => exact ⟨_, (true), (by first | rfl | (simp; done) | (simp [*]; done)), H', ⟨by first | omega | exact Nat.le_refl _⟩, ⟨by repeat (first | (with_reducible first | exact HB.out | apply zC_ | apply zA_ | apply zB_) | exact HB.out)⟩⟩
   ·rw [if_neg c9] at H
    have c9b0 : decide (a2 < 0) = false := decide_eq_false c9
    clear c9
    (first | rw [c9b0] | (simp only [i64_w, i32_w]; rw [c9b0]) | skip)
    by_cases c10 : (l3.length : Int) = (wrap64 (a0 + a1))
    ·rw [if_pos c10] at H
     have c10b0 : ((l3.length : Int) == (wrap64 (a0 + a1))) = true := beq_iff_eq.mpr c10
     have c10b1 : ((l3.length : Int) != (wrap64 (a0 + a1))) = false := bne_eq_false_iff_eq.mpr c10
     clear c10
     have H' := Aside0.mk H
     clear H
     go_wp2_with (first | ((with_reducible refine gate_callee (f := 32) rfl ?_); refine goesL_ (some 22) rfl rfl Tryd.func32 (by kernel_rfl) rfl #[.int .i64 a0, .int .i64 a1] rfl (by (try simp only [List.map_toArray, List.map_cons, List.map_nil]); first | done | rfl | (simp only [List.length_drop, List.length_take]; rfl)) ?_; (with_reducible refine (stripe_is.calls a0 a1 true _ A7.out).mono ?_); rintro e w' ⟨rfl, ⟨nd, rfl⟩⟩; refine ⟨_, rfl, ?_⟩))
     go_meet
     case rel => exact ⟨_, (((l4.length : Int) != (wrap64 (a0 + a1)))), (by first | rfl | (simp; done) | (simp [*]; done)), H', ⟨by first | omega | exact Nat.le_refl _⟩, ⟨by repeat (first | (with_reducible first | exact HB.out | apply zC_ | apply zA_ | apply zB_) | exact HB.out)⟩⟩
    ·rw [if_neg c10] at H
     have c10b0 : ((l3.length : Int) == (wrap64 (a0 + a1))) = false := beq_eq_false_iff_ne.mpr c10
     have c10b1 : ((l3.length : Int) != (wrap64 (a0 + a1))) = true := bne_iff_ne.mpr c10
     have H' := Aside0.mk H
     clear H
     go_wp2_with (first | ((with_reducible refine gate_callee (f := 32) rfl ?_); refine goesL_ (some 22) rfl rfl Tryd.func32 (by kernel_rfl) rfl #[.int .i64 a0, .int .i64 a1] rfl (by (try simp only [List.map_toArray, List.map_cons, List.map_nil]); first | done | rfl | (simp only [List.length_drop, List.length_take]; rfl)) ?_; (with_reducible refine (stripe_is.calls a0 a1 true _ A7.out).mono ?_); rintro e w' ⟨rfl, ⟨nd, rfl⟩⟩; refine ⟨_, rfl, ?_⟩))
     go_meet
     case rel => exact ⟨_, (true), (by first | rfl | (simp; done) | (simp [*]; done)), H', ⟨by first | omega | exact Nat.le_refl _⟩, ⟨by repeat (first | (with_reducible first | exact HB.out | apply zC_ | apply zA_ | apply zB_) | exact HB.out)⟩⟩
  ·replace c8 := Bool.eq_false_iff.mpr c8
   subst c8
   have H1 : (wJo_.j0 k a0 a1 a2 l3 l4 true) = some (r1, r2) := by rw [if_neg (show ¬ (false = true) by decide)] at H; exact H
   clear H
   have H := H1
   clear H1
   have H' := Aside0.mk H
   clear H
   go_wp2_with (first | ((with_reducible refine gate_callee (f := 32) rfl ?_); refine goesL_ (some 22) rfl rfl Tryd.func32 (by kernel_rfl) rfl #[.int .i64 a0, .int .i64 a1] rfl (by (try simp only [List.map_toArray, List.map_cons, List.map_nil]); first | done | rfl | (simp only [List.length_drop, List.length_take]; rfl)) ?_; (with_reducible refine (stripe_is.calls a0 a1 false _ A7.out).mono ?_); rintro e w' ⟨rfl, ⟨nd, rfl⟩⟩; refine ⟨_, rfl, ?_⟩))
   go_meet
   case rel => exact ⟨_, (true), (by first | rfl | (simp; done) | (simp [*]; done)), H', ⟨by first | omega | exact Nat.le_refl _⟩, ⟨by repeat (first | (with_reducible first | exact HB.out | apply zC_ | apply zA_ | apply zB_) | exact HB.out)⟩⟩
 case rest =>
  clear HC6
  try clear c1
  try clear p2
  try clear c3
  try clear c4
  try clear p6
  try clear c8
  try clear c9
  try clear c9b0
  try clear c10
  try clear c10b0
  try clear c10b1
  obtain ⟨kq, x43_5, rfl, HA, HJ5, HB⟩ := hcut
  cases kq with
  | zero => exact absurd HA.out (by simp [wJo_.j0])
  | succ kj5 =>
   have H := HA.out
   clear HA
   simp only [wJo_.j0] at H
   by_cases c11 : x43_5 = true
   ·subst c11
    have H1 : (some (([] : List Int), 1)) = some (r1, r2) := by rw [if_pos rfl] at H; exact H
    clear H
    have H := H1
    clear H1
    simp only [Option.some.injEq, Prod.mk.injEq] at H
    obtain ⟨rfl, rfl⟩ := H
    go_wp2
    go_ret2
    exact ⟨_, by first | rfl | (simp [errW_none, errW_some] <;> rfl) | (simp [*, errW_none, errW_some] <;> rfl), by first | exact Kd.R_nil _ _ _ _ _ | exact Kd.N_nil _ _ _ _ _ | exact Kd.V_nil _ _ _ _ _ | exact Kd.Q_nil _ _ _ _ _ | exact Kd.S_nil _ _ _ _ _, by repeat (first | (with_reducible first | exact HB.out | apply zC_ | apply zA_ | apply zB_) | exact HB.out)⟩
   ·replace c11 := Bool.eq_false_iff.mpr c11
    subst c11
    have H1 : ((stripe_Length.f kj5 a0 a2).bind fun bt102 => (if bt102.2 = 0 then (wJo_.l0 kj5 a0 a1 a2 l3 l4 bt102.1 l4 (l4.length : Int) 0) else (some (([] : List Int), bt102.2)))) = some (r1, r2) := by rw [if_neg (show ¬ (false = true) by decide)] at H; exact H
    clear H
    have H := H1
    clear H1
    replace H := Option.bind_eq_some_iff.mp H
    obtain ⟨⟨t102, t103⟩, A120, H⟩ := H
    replace H : (if t103 = 0 then (wJo_.l0 kj5 a0 a1 a2 l3 l4 t102 l4 (l4.length : Int) 0) else (some (([] : List Int), t103))) = some (r1, r2) := H
    have A12 := Aside0.mk A120
    clear A120
    by_cases c13 : t103 = 0
    ·rw [if_pos c13] at H
     have c13b0 : (t103 == 0) = true := beq_iff_eq.mpr c13
     have c13b1 : (t103 != 0) = false := bne_eq_false_iff_eq.mpr c13
     clear c13
     have H' := Aside0.mk H
     clear H
     go_wp2_with (first | ((with_reducible refine gate_callee (f := 31) rfl ?_); refine goesL_ (some 47) rfl rfl Tryd.func31 (by kernel_rfl) rfl #[.int .i64 a0, .int .i64 a2] rfl (by (try simp only [List.map_toArray, List.map_cons, List.map_nil]); first | done | rfl | (simp only [List.length_drop, List.length_take]; rfl)) ?_; (with_reducible refine (stripe_Length.calls kj5 a0 a2 t102 t103 _ A12.out).mono ?_); rintro e w' ⟨rfl, ⟨nd, rfl⟩⟩; refine ⟨_, rfl, ?_⟩))
     go_loopg [55] kj5 (fun kq v55 w' => ∃ (x55_2 : Int), v55 = .int .i64 x55_2 ∧ Aside0 (wJo_.l0 kq a0 a1 a2 l3 l4 t102 l4 (l4.length : Int) x55_2 = some (r1, r2)) ∧ Aside0 (kq ≤ kj5) ∧ Aside0 (Below w.heap.size w w'))
     case atStart => exact ⟨(0), (by first | rfl | (simp; done) | (simp [*]; done)), H', ⟨Nat.le_refl _⟩, ⟨by repeat (first | (with_reducible first | exact HB.out | apply zC_ | apply zA_ | apply zB_) | exact HB.out)⟩⟩
     case round =>
      clear H'
      try clear c1
      try clear p2
      try clear c3
      try clear c4
      try clear p6
      try clear c8
      try clear c9
      try clear c9b0
      try clear c10
      try clear c10b0
      try clear c10b1
      try clear c11
      try clear c12
      try clear c13
      try clear c13b0
      try clear c13b1
      try clear p2
      try clear p6
      obtain ⟨x55_2, rfl, HA, HK2, HB⟩ := hrel
      cases gk with
      | zero => exact absurd HA.out (by simp [wJo_.l0])
      | succ k2 =>
       have H := HA.out
       clear HA
       simp only [wJo_.l0] at H
       by_cases c14 : x55_2 < (l4.length : Int)
       ·rw [if_pos c14] at H
        have c14b0 : decide (x55_2 < (l4.length : Int)) = true := decide_eq_true c14
        clear c14
        by_cases c15 : 0 ≤ x55_2
        ·rw [if_pos c15] at H
         have c15b0 : decide (0 ≤ x55_2) = true := decide_eq_true c15
         clear c15
         by_cases c16 : x55_2 < (l4.length : Int)
         ·rw [if_pos c16] at H
          have c16b0 : decide (x55_2 < (l4.length : Int)) = true := decide_eq_true c16
          clear c16
          obtain ⟨bq17, hbq17⟩ : ∃ b_ : Bool, b_ = (rdOf false l4 x55_2) := ⟨_, rfl⟩
          replace H : (if bq17 = true then (if x55_2 < (l3.length : Int) then (if ((rd_L1 l3 x55_2).length : Int) = t102 then (wJo_.l0 k2 a0 a1 a2 l3 l4 t102 l4 (l4.length : Int) (wrap64 (x55_2 + 1))) else (some (([] : List Int), 8))) else (none)) else (wJo_.l0 k2 a0 a1 a2 l3 l4 t102 l4 (l4.length : Int) (wrap64 (x55_2 + 1)))) = some (r1, r2) := by rw [← hbq17] at H; exact H
          have Nbq17 := Aside0.mk hbq17
          clear hbq17
          by_cases c18 : bq17 = true
          ·subst c18
           have H1 : (if x55_2 < (l3.length : Int) then (if ((rd_L1 l3 x55_2).length : Int) = t102 then (wJo_.l0 k2 a0 a1 a2 l3 l4 t102 l4 (l4.length : Int) (wrap64 (x55_2 + 1))) else (some (([] : List Int), 8))) else (none)) = some (r1, r2) := by rw [if_pos rfl] at H; exact H
           clear H
           have H := H1
           clear H1
           by_cases c19 : x55_2 < (l3.length : Int)
           ·rw [if_pos c19] at H
            have c19b0 : decide (x55_2 < (l3.length : Int)) = true := decide_eq_true c19
            clear c19
            by_cases c20 : ((rd_L1 l3 x55_2).length : Int) = t102
            ·rw [if_pos c20] at H
             have c20b0 : (((rd_L1 l3 x55_2).length : Int) == t102) = true := beq_iff_eq.mpr c20
             have c20b1 : (((rd_L1 l3 x55_2).length : Int) != t102) = false := bne_eq_false_iff_eq.mpr c20
             clear c20
             have H' := Aside0.mk H
             clear H
             have p104 : 0 ≤ (x55_2 : Int) := of_decide_eq_true (by first | (with_reducible assumption) | assumption)
             have q104 : x55_2 < (l4.length : Int) := of_decide_eq_true (by first | (with_reducible assumption) | assumption)
             obtain ⟨ad104, e104, hx104_0⟩ := Kd.at_bool HR4.out x55_2 p104 q104
             (try rw [← Nbq17.out] at hx104_0)
             cases e104
             replace hx104_0 := (HB.out.cell (World.block_lt_of_cell? w _ hx104_0)).trans hx104_0
             replace p104 := eq_true p104
             replace q104 := eq_true q104
             have p105 : 0 ≤ (x55_2 : Int) := of_decide_eq_true (by first | (with_reducible assumption) | assumption)
             have q105 : x55_2 < (l3.length : Int) := of_decide_eq_true (by first | (with_reducible assumption) | assumption)
             obtain ⟨ad105, A105_0, c105_0, e105, hx105_0, hl105_0, hi105_0⟩ := at_L1 HR3.out x55_2 p105 q105
             cases e105
             replace hx105_0 := (HB.out.cell (World.block_lt_of_cell? w _ hx105_0)).trans hx105_0
             have HR105_0 := Aside0.mk hi105_0
             have HC105_0 := Aside0.mk hl105_0
             clear hi105_0 hl105_0
             replace p105 := eq_true p105
             replace q105 := eq_true q105
             go_wp2
             go_roundg k2
             case measure => have := HJ5.out; have := HK2.out; omega
             case rel => exact ⟨(wrap64 (x55_2 + 1)), (by first | rfl | (simp; done) | (simp [*]; done)), H', ⟨by have := HJ5.out; have := HK2.out; omega⟩, ⟨by repeat (first | (with_reducible first | exact HB.out | apply zC_ | apply zA_ | apply zB_) | exact HB.out)⟩⟩
            ·rw [if_neg c20] at H
             have c20b0 : (((rd_L1 l3 x55_2).length : Int) == t102) = false := beq_eq_false_iff_ne.mpr c20
             have c20b1 : (((rd_L1 l3 x55_2).length : Int) != t102) = true := bne_iff_ne.mpr c20
             simp only [Option.some.injEq, Prod.mk.injEq] at H
             obtain ⟨rfl, rfl⟩ := H
             have p104 : 0 ≤ (x55_2 : Int) := of_decide_eq_true (by first | (with_reducible assumption) | assumption)
             have q104 : x55_2 < (l4.length : Int) := of_decide_eq_true (by first | (with_reducible assumption) | assumption)
             obtain ⟨ad104, e104, hx104_0⟩ := Kd.at_bool HR4.out x55_2 p104 q104
             (try rw [← Nbq17.out] at hx104_0)
             cases e104
             replace hx104_0 := (HB.out.cell (World.block_lt_of_cell? w _ hx104_0)).trans hx104_0
             replace p104 := eq_true p104
             replace q104 := eq_true q104
             have p105 : 0 ≤ (x55_2 : Int) := of_decide_eq_true (by first | (with_reducible assumption) | assumption)
             have q105 : x55_2 < (l3.length : Int) := of_decide_eq_true (by first | (with_reducible assumption) | assumption)
             obtain ⟨ad105, A105_0, c105_0, e105, hx105_0, hl105_0, hi105_0⟩ := at_L1 HR3.out x55_2 p105 q105
             cases e105
             replace hx105_0 := (HB.out.cell (World.block_lt_of_cell? w _ hx105_0)).trans hx105_0
             have HR105_0 := Aside0.mk hi105_0
             have HC105_0 := Aside0.mk hl105_0
             clear hi105_0 hl105_0
             replace p105 := eq_true p105
             replace q105 := eq_true q105
             go_wp2
             go_ret2
             exact ⟨_, by first | rfl | (simp [errW_none, errW_some] <;> rfl) | (simp [*, errW_none, errW_some] <;> rfl), by first | exact Kd.R_nil _ _ _ _ _ | exact Kd.N_nil _ _ _ _ _ | exact Kd.V_nil _ _ _ _ _ | exact Kd.Q_nil _ _ _ _ _ | exact Kd.S_nil _ _ _ _ _, by repeat (first | (with_reducible first | exact HB.out | apply zC_ | apply zA_ | apply zB_) | exact HB.out)⟩
           ·rw [if_neg c19] at H
            exact absurd H (by simp)
          ·replace c18 := Bool.eq_false_iff.mpr c18
           subst c18
           have H1 : (wJo_.l0 k2 a0 a1 a2 l3 l4 t102 l4 (l4.length : Int) (wrap64 (x55_2 + 1))) = some (r1, r2) := by rw [if_neg (show ¬ (false = true) by decide)] at H; exact H
           clear H
           have H := H1
           clear H1
           have H' := Aside0.mk H
           clear H
           have p104 : 0 ≤ (x55_2 : Int) := of_decide_eq_true (by first | (with_reducible assumption) | assumption)
           have q104 : x55_2 < (l4.length : Int) := of_decide_eq_true (by first | (with_reducible assumption) | assumption)
           obtain ⟨ad104, e104, hx104_0⟩ := Kd.at_bool HR4.out x55_2 p104 q104
           (try rw [← Nbq17.out] at hx104_0)
           cases e104
           replace hx104_0 := (HB.out.cell (World.block_lt_of_cell? w _ hx104_0)).trans hx104_0
           replace p104 := eq_true p104
           replace q104 := eq_true q104
           go_wp2
           go_roundg k2
           case measure => have := HJ5.out; have := HK2.out; omega
           case rel => exact ⟨(wrap64 (x55_2 + 1)), (by first | rfl | (simp; done) | (simp [*]; done)), H', ⟨by have := HJ5.out; have := HK2.out; omega⟩, ⟨by repeat (first | (with_reducible first | exact HB.out | apply zC_ | apply zA_ | apply zB_) | exact HB.out)⟩⟩
         ·rw [if_neg c16] at H
          exact absurd H (by simp)
        ·rw [if_neg c15] at H
         exact absurd H (by simp)
       ·rw [if_neg c14] at H
        have c14b0 : decide (x55_2 < (l4.length : Int)) = false := decide_eq_false c14
        clear c14
        replace H := Option.bind_eq_some_iff.mp H
        obtain ⟨⟨t106, t109⟩, A210, H⟩ := H
        replace H : (if t109 = 0 then (wJo_.l1 k2 a0 a2 t106 ([] : List Int) (wrap64 (Int.tdiv t102 16)) 0) else (some (([] : List Int), t109))) = some (r1, r2) := H
        have A21 := Aside0.mk A210
        clear A210
        by_cases c22 : t109 = 0
        ·rw [if_pos c22] at H
         have c22b0 : (t109 == 0) = true := beq_iff_eq.mpr c22
         have c22b1 : (t109 != 0) = false := bne_eq_false_iff_eq.mpr c22
         clear c22
         have H' := Aside0.mk H
         clear H
         go_wp2_with (first | ((with_reducible refine gate_callee (f := 15) rfl ?_); refine goesL_ (some 76) rfl rfl Tryd.func15 (by kernel_rfl) rfl #[.int .i64 a0, .int .i64 a1, .slice A3 l3.length c3, .slice A4 l4.length c4] rfl (by (try simp only [List.map_toArray, List.map_cons, List.map_nil]); first | done | rfl | (simp only [List.length_drop, List.length_take]; rfl)) ?_; (with_reducible refine (code_Decode.calls a0 a1 _ _ l3 _ _ l4 t106 t109 _ ?side1 ?side2 ?side3 ?side4 A21.out).mono ?_); (case side1 => repeat (first | exact (Kd.C_below HR3.out HB.out) | (with_reducible refine Kd.C_alloc ?_ _) | (with_reducible refine Kd.C_drewN ?_ _) | (with_reducible refine Kd.C_drew ?_))); (case side2 => exact HC3.out); (case side3 => repeat (first | exact (Kd.C_below HR4.out HB.out) | (with_reducible refine Kd.C_alloc ?_ _) | (with_reducible refine Kd.C_drewN ?_ _) | (with_reducible refine Kd.C_drew ?_))); (case side4 => exact HC4.out); rintro e w23 ⟨v107, rfl, ho0, hb⟩; refine ⟨_, rfl, ?_⟩; have n0_ := Aside0.mk (Kd.N_lower (Kd.N_mono (ok' := fun k_ => True) ho0 (fun k_ hk_ => trivial)) (zF_ (by repeat (first | (with_reducible first | exact HB.out | apply zC_ | apply zA_ | apply zB_) | exact HB.out)))); have n1_ := Aside0.mk (zE_ (by repeat (first | (with_reducible first | exact HB.out | apply zC_ | apply zA_ | apply zB_) | exact HB.out)) hb); clear HB; have HO108 := n0_; have HB := n1_; clear n0_ n1_; (try clear hb); (try clear hb2); (try clear hk); (try clear hi); (try clear ho0)))
         go_loopg [17, 84] k2 (fun kq v17 v84 w' => ∃ (x17_3 : List Int) (x84_3 : Int), v84 = .int .i64 x84_3 ∧ Aside0 (wJo_.l1 kq a0 a2 t106 x17_3 (wrap64 (Int.tdiv t102 16)) x84_3 = some (r1, r2)) ∧ Aside0 (kq ≤ k2) ∧ Aside0 (Kd.N (Kd.slice 5 (Kd.int .u8)) 22 w' w.heap.size (fun k_ => some k_ ≠ (v17 : Value).ownBlock) v107 t106) ∧ Aside0 (Kd.R (Kd.int .u8) 5 w' w.heap.size (fun _ => True) v17 x17_3) ∧ Aside0 (Below w.heap.size w w'))
         case atStart => exact ⟨(([] : List Int)), (0), (by first | rfl | (simp; done) | (simp [*]; done)), H', ⟨Nat.le_refl _⟩, ⟨by (with_reducible repeat (first | apply Kd.N_alloc | apply Kd.N_drewN | apply Kd.N_drew)); exact Kd.N_mono HO108.out (fun _ hk => (by simp [Value.ownBlock]))⟩, ⟨by first | exact Kd.R_nil _ _ _ _ _ | exact Kd.N_nil _ _ _ _ _ | exact Kd.V_nil _ _ _ _ _ | exact Kd.Q_nil _ _ _ _ _ | exact Kd.S_nil _ _ _ _ _⟩, ⟨by repeat (first | (with_reducible first | exact HB.out | apply zC_ | apply zA_ | apply zB_) | exact HB.out)⟩⟩
         case round =>
          clear H'
          try clear c1
          try clear p1
          try clear q1
          try clear hx1
          try clear c2
          try clear p2
          try clear c3
          try clear c4
          try clear p6
          try clear c8
          try clear c9
          try clear c9b0
          try clear c10
          try clear c10b0
          try clear c10b1
          try clear p10
          try clear q10
          try clear hx10
          try clear c11
          try clear c12
          try clear c13
          try clear c13b0
          try clear c13b1
          try clear c14
          try clear c14b0
          try clear c15
          try clear c15b0
          try clear c16
          try clear c16b0
          try clear q17
          try clear c18
          try clear c19
          try clear c19b0
          try clear c20
          try clear c20b0
          try clear c20b1
          try clear c22
          try clear c22b0
          try clear c22b1
          try clear hx104_0
          try clear hx105_0
          try clear p104
          try clear p105
          try clear p2
          try clear p6
          try clear q104
          try clear q105
          obtain ⟨x17_3, x84_3, rfl, HA, HK3, HO_16, HO_17, HB⟩ := hrel
          cases gk with
          | zero => exact absurd HA.out (by simp [wJo_.l1])
          | succ k3 =>
           have H := HA.out
           clear HA
           simp only [wJo_.l1] at H
           by_cases c24 : x84_3 < (wrap64 (Int.tdiv t102 16))
           ·rw [if_pos c24] at H
            have c24b0 : decide (x84_3 < (wrap64 (Int.tdiv t102 16))) = true := decide_eq_true c24
            clear c24
            have H' := Aside0.mk H
            clear H
            go_wp2
            go_loopg [17, 88] k3 (fun kq v17 v88 w' => ∃ (x17_4 : List Int) (x88_4 : Int), v88 = .int .i64 x88_4 ∧ Aside0 (wJo_.l2 kq a0 a2 t106 x17_4 x84_3 (wrap64 (Int.tdiv t102 16)) x84_3 a0 x88_4 = some (r1, r2)) ∧ Aside0 (kq ≤ k3) ∧ Aside0 (Kd.N (Kd.slice 5 (Kd.int .u8)) 22 w' w.heap.size (fun k_ => some k_ ≠ (v17 : Value).ownBlock) v107 t106) ∧ Aside0 (Kd.R (Kd.int .u8) 5 w' w.heap.size (fun _ => True) v17 x17_4) ∧ Aside0 (Below w.heap.size w w'))
            case atStart => exact ⟨(x17_3), (0), (by first | rfl | (simp; done) | (simp [*]; done)), H', ⟨Nat.le_refl _⟩, ⟨by (with_reducible repeat (first | apply Kd.N_alloc | apply Kd.N_drewN | apply Kd.N_drew)); exact HO_16.out⟩, ⟨by (with_reducible repeat (first | apply Kd.R_alloc | apply Kd.R_drewN | apply Kd.R_drew)); exact HO_17.out⟩, ⟨by repeat (first | (with_reducible first | exact HB.out | apply zC_ | apply zA_ | apply zB_) | exact HB.out)⟩⟩
            case round =>
             clear H'
             try clear c1
             try clear p1
             try clear q1
             try clear hx1
             try clear c2
             try clear p2
             try clear c3
             try clear c4
             try clear p6
             try clear c8
             try clear c9
             try clear c9b0
             try clear c10
             try clear c10b0
             try clear c10b1
             try clear p10
             try clear q10
             try clear hx10
             try clear c11
             try clear c12
             try clear c13
             try clear c13b0
             try clear c13b1
             try clear c14
             try clear c14b0
             try clear c15
             try clear c15b0
             try clear c16
             try clear c16b0
             try clear q17
             try clear c18
             try clear c19
             try clear c19b0
             try clear c20
             try clear c20b0
             try clear c20b1
             try clear c22
             try clear c22b0
             try clear c22b1
             try clear c24
             try clear c24b0
             try clear hx104_0
             try clear hx105_0
             try clear p1
             try clear p10
             try clear p104
             try clear p105
             try clear p2
             try clear p6
             try clear q1
             try clear q10
             try clear q104
             try clear q105
             try clear q17
             obtain ⟨x17_4, x88_4, rfl, HA, HK4, HO_16, HO_17, HB⟩ := hrel
             cases gk with
             | zero => exact absurd HA.out (by simp [wJo_.l2])
             | succ k4 =>
              have H := HA.out
              clear HA
              simp only [wJo_.l2] at H
              by_cases c25 : x88_4 < a0
              ·rw [if_pos c25] at H
               have c25b0 : decide (x88_4 < a0) = true := decide_eq_true c25
               clear c25
               by_cases c26 : 0 ≤ x88_4
               ·rw [if_pos c26] at H
                have c26b0 : decide (0 ≤ x88_4) = true := decide_eq_true c26
                clear c26
                by_cases c27 : x88_4 < (t106.length : Int)
                ·rw [if_pos c27] at H
                 have c27b0 : decide (x88_4 < (t106.length : Int)) = true := decide_eq_true c27
                 clear c27
                 obtain ⟨ji28, hji28⟩ : ∃ j_ : Int, (wrap64 (x84_3 * 16)) = j_ := ⟨_, rfl⟩
                 replace H : (if 0 ≤ (ji28) then (if (ji28) ≤ (wrap64 ((wrap64 (x84_3 + 1)) * 16)) then (if (wrap64 ((wrap64 (x84_3 + 1)) * 16)) ≤ ((rd_L1 t106 x88_4).length : Int) then ((some (((rd_L1 t106 x88_4).take ((wrap64 ((wrap64 (x84_3 + 1)) * 16)) : Int).toNat).drop ((ji28) : Int).toNat : List Int)).bind fun y122 => (if x17_4.length + y122.length < 140737488355328 then (wJo_.l2 k4 a0 a2 t106 (x17_4 ++ y122) x84_3 (wrap64 (Int.tdiv t102 16)) x84_3 a0 (wrap64 (x88_4 + 1))) else (none))) else (none)) else (none)) else (none)) = some (r1, r2) := by first | (rw [hji28] at H; exact H) | (simp only [hji28] at H ⊢; exact H)
                 have hji28w : (IntKind.i64.wrap (x84_3 * 16)) = ji28 := (i64_w _).trans hji28
                 by_cases c29 : 0 ≤ (ji28)
                 ·rw [if_pos c29] at H
                  have c29b0 := eq_true c29
                  have c29b1 : decide (0 ≤ (ji28)) = true := decide_eq_true c29
                  clear c29
                  by_cases c30 : (ji28) ≤ (wrap64 ((wrap64 (x84_3 + 1)) * 16))
                  ·rw [if_pos c30] at H
                   have c30b0 := eq_true c30
                   have c30b1 : decide ((ji28) ≤ (wrap64 ((wrap64 (x84_3 + 1)) * 16))) = true := decide_eq_true c30
                   by_cases c31 : (wrap64 ((wrap64 (x84_3 + 1)) * 16)) ≤ ((rd_L1 t106 x88_4).length : Int)
                   ·rw [if_pos c31] at H
                    have c31b0 := eq_true c31
                    have c31b1 : decide ((wrap64 ((wrap64 (x84_3 + 1)) * 16)) ≤ ((rd_L1 t106 x88_4).length : Int)) = true := decide_eq_true c31
                    obtain ⟨y122, hy122⟩ : ∃ y_ : List Int, y_ = (((rd_L1 t106 x88_4).take ((wrap64 ((wrap64 (x84_3 + 1)) * 16)) : Int).toNat).drop ((ji28) : Int).toNat) := ⟨_, rfl⟩
                    replace H : (if x17_4.length + y122.length < 140737488355328 then (wJo_.l2 k4 a0 a2 t106 (x17_4 ++ y122) x84_3 (wrap64 (Int.tdiv t102 16)) x84_3 a0 (wrap64 (x88_4 + 1))) else (none)) = some (r1, r2) := by first | (rw [hy122]; with_reducible exact H) | (have H2_ := (Option.bind_some _ _).symm.trans H; rw [hy122]; with_reducible exact H2_) | (have H2_ := (Option.bind_some _ _).symm.trans H; with_reducible exact H2_) | with_reducible exact H | (rw [hy122]; exact H) | exact H
                    have Ny122 := Aside0.mk hy122
                    clear hy122
                    by_cases c32 : x17_4.length + y122.length < 140737488355328
                    ·rw [if_pos c32] at H
                     have LMc32 := Aside0.mk c32
                     clear c32
                     obtain ⟨y127, hy127⟩ : ∃ y_ : List Int, y_ = (x17_4 ++ y122) := ⟨_, rfl⟩
                     replace H : (wJo_.l2 k4 a0 a2 t106 y127 x84_3 (wrap64 (Int.tdiv t102 16)) x84_3 a0 (wrap64 (x88_4 + 1))) = some (r1, r2) := by first | (rw [hy127]; with_reducible exact H) | (have H2_ := (Option.bind_some _ _).symm.trans H; rw [hy127]; with_reducible exact H2_) | (have H2_ := (Option.bind_some _ _).symm.trans H; with_reducible exact H2_) | with_reducible exact H | (rw [hy127]; exact H) | exact H
                     have Ny127 := Aside0.mk hy127
                     clear hy127
                     have H' := Aside0.mk H
                     clear H
                     obtain ⟨Ao33, co33, eo33⟩ := Kd.N_slice HO_16.out
                     subst eo33
                     have p121 : 0 ≤ (x88_4 : Int) := of_decide_eq_true (by first | (with_reducible assumption) | assumption)
                     have q121 : x88_4 < (t106.length : Int) := of_decide_eq_true (by first | (with_reducible assumption) | assumption)
                     obtain ⟨ad121, A121_0, c121_0, e121, hx121_0, hl121_0, hi121_0⟩ := at_L1 (Kd.N_reads' HO_16.out).2.2 x88_4 p121 q121
                     cases e121
                     obtain ⟨ce121, hce121, hMe121, hcc121⟩ := Kd.N_get HO_16.out [] x88_4 p121 (by first | exact q121 | exact of_decide_eq_true (by first | (with_reducible assumption) | assumption) | (have e_ := (Kd.N_reads' HO_16.out).1; omega))
                     obtain ⟨ua121_0, uc121_0, rfl, ul121_0, ge121_0⟩ := Kd.FK_slice_open hMe121
                     have hv121_0 := hcc121 0 _ rfl
                     rw [Nat.add_zero, show ((Kd.slice 5 (Kd.int .u8))).sz = 1 from rfl, Nat.mul_one] at hv121_0
                     replace hv121_0 := Option.some.inj (hv121_0.symm.trans hx121_0)
                     injection hv121_0 with hva_ hvn_ hvc_
                     rw [hva_] at ge121_0
                     rw [hvc_] at ul121_0
                     have HL121_0 := Aside0.mk (show Kd.V (Kd.int .u8) 5 _ w.heap.size _ _ (rd_L1 t106 x88_4) from Kd.V_mk ul121_0 ge121_0)
                     clear hva_ hvn_ hvc_ ge121_0 ul121_0
                     clear hcc121 hce121
                     have HR121_0 := Aside0.mk hi121_0
                     have HC121_0 := Aside0.mk hl121_0
                     clear hi121_0 hl121_0
                     replace p121 := eq_true p121
                     replace q121 := eq_true q121
                     have q34 : ((wrap64 ((wrap64 (x84_3 + 1)) * 16)) : Int) ≤ (((rd_L1 t106 x88_4).length : Int) : Int) := of_decide_eq_true (by first | (with_reducible assumption) | assumption)
                     obtain ⟨i034, hi034, _, hsz34, _⟩ := info_parts info5
                     have hroom34 : (rd_L1 t106 x88_4).length ≤ c121_0 := HC121_0.out
                     have hC34 : Kd.F (Kd.int .u8) _ _ A121_0 (rd_L1 t106 x88_4).length (rd_L1 t106 x88_4) := (Kd.V_at (base := w.heap.size) HL121_0.out).2.2
                     have ql34 : ((ji28) : Int) ≤ ((wrap64 ((wrap64 (x84_3 + 1)) * 16)) : Int) := of_decide_eq_true (by first | (with_reducible assumption) | assumption)
                     have q034 : (0 : Int) ≤ ((ji28) : Int) := of_decide_eq_true (by first | (with_reducible assumption) | assumption)
                     have hcut34 := cut_mid (P := Tryd.prog) 22 5 .i64 .i64 Tryd.underlying22 hi034 1 hsz34 A121_0 (rd_L1 t106 x88_4).length c121_0 (ji28) (wrap64 ((wrap64 (x84_3 + 1)) * 16)) q034 ql34 q34 hroom34
                     have hr34 := Kd.F_mid (lo := ((ji28) : Int).toNat) (hi := ((wrap64 ((wrap64 (x84_3 + 1)) * 16)) : Int).toNat) (c := c121_0) hC34 (by omega) (by omega) hroom34
                     obtain ⟨A34, hA34⟩ : ∃ A1, A1 = (if c121_0 = ((ji28) : Int).toNat then A121_0 else (A121_0 : Option Addr).map (·.add (((ji28) : Int).toNat * 1))) := ⟨_, rfl⟩
                     obtain ⟨c34, hc34⟩ : ∃ c1, c1 = c121_0 - ((ji28) : Int).toNat := ⟨_, rfl⟩
                     have hy34 : y122.length = ((wrap64 ((wrap64 (x84_3 + 1)) * 16)) : Int).toNat - ((ji28) : Int).toNat := (by rw [Ny122.out, List.length_drop, List.length_take] <;> omega)
                     rw [show ((rd_L1 t106 x88_4).take ((wrap64 ((wrap64 (x84_3 + 1)) * 16)) : Int).toNat).drop ((ji28) : Int).toNat = y122 from Ny122.out.symm] at hr34
                     replace hr34 : Kd.F (Kd.int .u8) _ _ A34 y122.length y122 := (by rw [hA34]; exact hr34)
                     rw [← hy34, ← hA34, ← hc34] at hcut34
                     have HO126 := Aside0.mk (show Kd.V (Kd.int .u8) 5 _ w.heap.size _ (.slice A34 y122.length c34) y122 from Kd.V_mk (by rw [hy34, hc34]; exact Nat.sub_le_sub_right (Nat.le_trans (by omega) hroom34) _) hr34)
                     have HC126 := Aside0.mk (show y122.length ≤ c34 from by rw [hy34, hc34]; exact Nat.sub_le_sub_right (Nat.le_trans (by omega) hroom34) _)
                     clear hr34 hC34 hroom34 hi034 hsz34 hc34
                     have KY34 := Aside0.mk hy34
                     have KA34 := Aside0.mk hA34
                     clear hy34 hA34
                     replace q34 := eq_true q34
                     go_wp2_with (first | ((with_reducible refine gate_builtin (b := .append) (xs := #[.tmp 91, .tmp 101]) rfl ?_); (try (refine gate_guard (by rfl) ?_; dsimp only)); at_builtin; refine Kd.R_append_rows (Kd.int .u8) (w0 := w) w.heap.size rfl (.tmp 91) (.tmp 101) 22 5 (.int .u8 0) 1 rfl Tryd.underlying22 info5 rfl (by decide) (by omega) u17 x17_4 y122 _ _ _ (fun _ => True) (fun _ => False) rfl rfl ?aO ?aR (fun _ _ h => h) (fun _ h => h.elim) ?aF ?aB ?aS ?aL ?_; (case aR => repeat (first | exact (Kd.V_reads' HO126.out).2.2 | (with_reducible refine Kd.C_alloc ?_ _) | (with_reducible refine Kd.C_drewN ?_ _) | (with_reducible refine Kd.C_drew ?_))); (case aB => exact (by repeat (first | (with_reducible first | exact HB.out | apply zC_ | apply zA_ | apply zB_) | exact HB.out))); (case aF => exact (fun _ _ => trivial)); (case aO => exact (by (with_reducible repeat (first | apply Kd.R_alloc | apply Kd.R_drewN | apply Kd.R_drew)); exact HO_17.out)); (case aS => exact (zF_ (by repeat (first | (with_reducible first | exact HB.out | apply zC_ | apply zA_ | apply zB_) | exact HB.out)))); (case aL => have := LMc32.out; omega); intro v128 w35 ho hb hg hat; rw [← Ny127.out] at ho; have n0_ := Aside0.mk (Kd.N_afterv (ok := (fun _ => True)) (by (with_reducible repeat (first | apply Kd.N_alloc | apply Kd.N_drewN | apply Kd.N_drew)); exact Kd.N_mono HO_16.out (fun _ hk => ⟨trivial, hk⟩)) hg hat); have n1_ := Aside0.mk (Kd.V_afterv (ok := (fun k_ => some k_ ≠ (.slice (some ad121) t106.length co33 : Value).ownBlock)) (by (with_reducible repeat (first | apply Kd.V_alloc | apply Kd.V_drewN | apply Kd.V_drew)); exact Kd.V_mono HL121_0.out (fun _ hk => ⟨hk.2, hk.1⟩)) hg hat); have n2_ := Aside0.mk (Kd.V_afterv (ok := (fun k_ => some k_ ≠ (.slice (some ad121) t106.length co33 : Value).ownBlock)) (by (with_reducible repeat (first | apply Kd.V_alloc | apply Kd.V_drewN | apply Kd.V_drew)); exact Kd.V_mono HO126.out (fun _ hk => ⟨hk.2, hk.1⟩)) hg hat); have n3_ := Aside0.mk (hb); have n4_ := Aside0.mk (ho); clear HO_16; clear HL121_0; clear HO126; clear HB; clear HO_17; have HO_16 := n0_; have HL121_0 := n1_; have HO126 := n2_; have HB := n3_; have HO129 := n4_; clear n0_ n1_ n2_ n3_ n4_; clear ho hb hg hat))
                     go_roundg k4
                     case measure => have := HJ5.out; have := HK2.out; have := HK3.out; have := HK4.out; omega
                     case rel => exact ⟨(y127), (wrap64 (x88_4 + 1)), (by first | rfl | (simp; done) | (simp [*]; done)), (by first | exact H' | (simp only [hji28]; exact H')), ⟨by have := HJ5.out; have := HK2.out; have := HK3.out; have := HK4.out; omega⟩, ⟨by (with_reducible repeat (first | apply Kd.N_alloc | apply Kd.N_drewN | apply Kd.N_drew)); exact Kd.N_mono HO_16.out (fun _ hk => hk.2)⟩, ⟨by (with_reducible repeat (first | apply Kd.R_alloc | apply Kd.R_drewN | apply Kd.R_drew)); exact HO129.out⟩, ⟨by repeat (first | (with_reducible first | exact HB.out | apply zC_ | apply zA_ | apply zB_) | exact HB.out)⟩⟩
                    ·rw [if_neg c32] at H
                     exact absurd H (by simp)
                   ·rw [if_neg c31] at H
                    exact absurd H (by simp)
                  ·rw [if_neg c30] at H
                   exact absurd H (by simp)
                 ·rw [if_neg c29] at H
                  exact absurd H (by simp)
                ·rw [if_neg c27] at H
                 exact absurd H (by simp)
               ·rw [if_neg c26] at H
                exact absurd H (by simp)
              ·rw [if_neg c25] at H
               have c25b0 : decide (x88_4 < a0) = false := decide_eq_false c25
               clear c25
               have H' := Aside0.mk H
               clear H
               go_wp2
               go_roundg k4
               case measure => have := HJ5.out; have := HK2.out; have := HK3.out; have := HK4.out; omega
               case rel => exact ⟨(x17_4), (wrap64 (x84_3 + 1)), (by first | rfl | (simp; done) | (simp [*]; done)), H', ⟨by have := HJ5.out; have := HK2.out; have := HK3.out; have := HK4.out; omega⟩, ⟨by (with_reducible repeat (first | apply Kd.N_alloc | apply Kd.N_drewN | apply Kd.N_drew)); exact HO_16.out⟩, ⟨by (with_reducible repeat (first | apply Kd.R_alloc | apply Kd.R_drewN | apply Kd.R_drew)); exact HO_17.out⟩, ⟨by repeat (first | (with_reducible first | exact HB.out | apply zC_ | apply zA_ | apply zB_) | exact HB.out)⟩⟩
           ·rw [if_neg c24] at H
            have c24b0 : decide (x84_3 < (wrap64 (Int.tdiv t102 16))) = false := decide_eq_false c24
            clear c24
            by_cases c36 : 0 ≤ a2
            ·rw [if_pos c36] at H
             have c36b0 := eq_true c36
             have c36b1 : decide (0 ≤ a2) = true := decide_eq_true c36
             clear c36
             by_cases c37 : a2 ≤ (x17_3.length : Int)
             ·rw [if_pos c37] at H
              have c37b0 := eq_true c37
              have c37b1 : decide (a2 ≤ (x17_3.length : Int)) = true := decide_eq_true c37
              clear c37
              obtain ⟨y110, hy110⟩ : ∃ y_ : List Int, y_ = (x17_3.drop (a2 : Int).toNat) := ⟨_, rfl⟩
              replace H : ((bytes_Trim.f k3 y110 (⟨#[0]⟩ : ByteArray)).bind fun t115 => (if (t115.length : Int) > 0 then (some (([] : List Int), 8)) else (some ((x17_3.take (a2 : Int).toNat), 0)))) = some (r1, r2) := by first | (rw [hy110]; with_reducible exact H) | (have H2_ := (Option.bind_some _ _).symm.trans H; rw [hy110]; with_reducible exact H2_) | (have H2_ := (Option.bind_some _ _).symm.trans H; with_reducible exact H2_) | with_reducible exact H | (rw [hy110]; exact H) | exact H
              have Ny110 := Aside0.mk hy110
              clear hy110
              replace H := Option.bind_eq_some_iff.mp H
              obtain ⟨t115, A380, H⟩ := H
              replace H : (if (t115.length : Int) > 0 then (some (([] : List Int), 8)) else (some ((x17_3.take (a2 : Int).toNat), 0))) = some (r1, r2) := H
              have A38 := Aside0.mk A380
              clear A380
              by_cases c39 : (t115.length : Int) > 0
              ·rw [if_pos c39] at H
               have c39b0 : decide (0 < (t115.length : Int)) = true := decide_eq_true c39
               have c39b1 : decide (0 < t115.length) = true := decide_eq_true (by omega)
               clear c39
               simp only [Option.some.injEq, Prod.mk.injEq] at H
               obtain ⟨rfl, rfl⟩ := H
               obtain ⟨Ao41, co41, eo41⟩ := Kd.R_slice HO_17.out
               subst eo41
               have q40 : (a2 : Int) ≤ ((x17_3.length : Int) : Int) := of_decide_eq_true (by first | (with_reducible assumption) | assumption)
               obtain ⟨i040, hi040, _, hsz40, _⟩ := info_parts info5
               have hroom40 : x17_3.length ≤ co41 := (Kd.R_reads' HO_17.out).2.1
               have hC40 : Kd.F (Kd.int .u8) _ _ Ao41 x17_3.length x17_3 := (Kd.V_at (base := w.heap.size) (Kd.R_V (Kd.R_apart' (HO_17.out) (Kd.N_typed HO_16.out) (by decide)))).2.2
               have q040 : (0 : Int) ≤ (a2 : Int) := of_decide_eq_true (by first | (with_reducible assumption) | assumption)
               have hcut40 := cut_from (P := Tryd.prog) 22 5 .i64 Tryd.underlying22 hi040 1 hsz40 Ao41 x17_3.length co41 a2 q040 q40
               have hr40 := Kd.F_cut (m := (a2 : Int).toNat) (c := co41) hC40 (by omega) hroom40
               obtain ⟨A40, hA40⟩ : ∃ A1, A1 = (if co41 = (a2 : Int).toNat then Ao41 else (Ao41 : Option Addr).map (·.add ((a2 : Int).toNat * 1))) := ⟨_, rfl⟩
               obtain ⟨c40, hc40⟩ : ∃ c1, c1 = co41 - (a2 : Int).toNat := ⟨_, rfl⟩
               have hy40 : y110.length = x17_3.length - (a2 : Int).toNat := (by rw [Ny110.out, List.length_drop] <;> omega)
               rw [show (x17_3).drop (a2 : Int).toNat = y110 from Ny110.out.symm] at hr40
               replace hr40 : Kd.F (Kd.int .u8) _ _ A40 y110.length y110 := (by rw [hA40]; exact hr40)
               rw [← hy40, ← hA40, ← hc40] at hcut40
               have HO114 := Aside0.mk (show Kd.V (Kd.int .u8) 5 _ w.heap.size _ (.slice A40 y110.length c40) y110 from Kd.V_mk (by rw [hy40, hc40]; exact Nat.sub_le_sub_right hroom40 _) hr40)
               have HC114 := Aside0.mk (show y110.length ≤ c40 from by rw [hy40, hc40]; exact Nat.sub_le_sub_right hroom40 _)
               clear hr40 hC40 hroom40 hi040 hsz40 hc40
               have KY40 := Aside0.mk hy40
               have KA40 := Aside0.mk hA40
               clear hy40 hA40
               replace q40 := eq_true q40
               go_wp2_with (first | ((with_reducible refine gate_callee (f := 33) rfl ?_); refine goesL_ (some 108) rfl rfl Tryd.func33 (by kernel_rfl) rfl #[.slice A40 y110.length c40, .string (⟨#[0]⟩ : ByteArray)] rfl (by (try simp only [List.map_toArray, List.map_cons, List.map_nil]); first | done | rfl | (simp only [List.length_drop, List.length_take]; rfl)) ?_; (with_reducible refine (bytes_Trim.calls k3 (fun k_ => (True ∧ some k_ ≠ (v107 : Value).ownBlock)) _ _ y110 (⟨#[0]⟩ : ByteArray) t115 _ ?side1 A38.out).mono ?_); (case side1 => exact HO114.out); rintro e w42 ⟨v116, rfl, ho0, hb⟩; refine ⟨_, rfl, ?_⟩; have n0_ := Aside0.mk (Kd.N_below (by (with_reducible repeat (first | apply Kd.N_alloc | apply Kd.N_drewN | apply Kd.N_drew)); exact HO_16.out) hb); have n1_ := Aside0.mk (Kd.R_below (by (with_reducible repeat (first | apply Kd.R_alloc | apply Kd.R_drewN | apply Kd.R_drew)); exact HO_17.out) hb); have n2_ := Aside0.mk (Kd.V_below (by (with_reducible repeat (first | apply Kd.V_alloc | apply Kd.V_drewN | apply Kd.V_drew)); exact HO114.out) hb); have n3_ := Aside0.mk (Kd.V_lower (Kd.V_mono (ok' := fun k_ => some k_ ≠ (v107 : Value).ownBlock) ho0 (fun k_ hk_ => Or.elim hk_ (fun hs_ => hs_.2) (fun hn_ => (Kd.fresh' (Kd.N_lt (by (with_reducible repeat (first | apply Kd.N_alloc | apply Kd.N_drewN | apply Kd.N_drew)); exact HO_16.out)) k_ hn_)))) (zF_ (by repeat (first | (with_reducible first | exact HB.out | apply zC_ | apply zA_ | apply zB_) | exact HB.out)))); have n4_ := Aside0.mk (zE_ (by repeat (first | (with_reducible first | exact HB.out | apply zC_ | apply zA_ | apply zB_) | exact HB.out)) hb); clear HO_16; clear HO_17; clear HO114; clear HB; have HO_16 := n0_; have HO_17 := n1_; have HO114 := n2_; have HO117 := n3_; have HB := n4_; clear n0_ n1_ n2_ n3_ n4_; (try clear hb); (try clear hb2); (try clear hk); (try clear hi); (try clear ho0); obtain ⟨Ao43, co43, eo43⟩ := Kd.V_slice HO117.out; subst eo43))
               go_ret2
               exact ⟨_, by first | rfl | (simp [errW_none, errW_some] <;> rfl) | (simp [*, errW_none, errW_some] <;> rfl), by first | exact Kd.R_nil _ _ _ _ _ | exact Kd.N_nil _ _ _ _ _ | exact Kd.V_nil _ _ _ _ _ | exact Kd.Q_nil _ _ _ _ _ | exact Kd.S_nil _ _ _ _ _, by repeat (first | (with_reducible first | exact HB.out | apply zC_ | apply zA_ | apply zB_) | exact HB.out)⟩
              ·rw [if_neg c39] at H
               have c39b0 : decide (0 < (t115.length : Int)) = false := decide_eq_false c39
               have c39b1 : decide (0 < t115.length) = false := decide_eq_false (by omega)
               clear c39
               have c44b0 := eq_true (of_decide_eq_true (by first | (with_reducible assumption) | assumption) : a2 ≤ (x17_3.length : Int))
               obtain ⟨y118, hy118⟩ : ∃ y_ : List Int, y_ = (x17_3.take (a2 : Int).toNat) := ⟨_, rfl⟩
               replace H : (some (y118, 0)) = some (r1, r2) := by first | (rw [hy118]; with_reducible exact H) | (have H2_ := (Option.bind_some _ _).symm.trans H; rw [hy118]; with_reducible exact H2_) | (have H2_ := (Option.bind_some _ _).symm.trans H; with_reducible exact H2_) | with_reducible exact H | (rw [hy118]; exact H) | exact H
               have Ny118 := Aside0.mk hy118
               clear hy118
               simp only [Option.some.injEq, Prod.mk.injEq] at H
               obtain ⟨rfl, rfl⟩ := H
               obtain ⟨Ao46, co46, eo46⟩ := Kd.R_slice HO_17.out
               subst eo46
               have q45 : (a2 : Int) ≤ ((x17_3.length : Int) : Int) := of_decide_eq_true (by first | (with_reducible assumption) | assumption)
               obtain ⟨i045, hi045, _, hsz45, _⟩ := info_parts info5
               have hroom45 : x17_3.length ≤ co46 := (Kd.R_reads' HO_17.out).2.1
               have hC45 : Kd.F (Kd.int .u8) _ _ Ao46 x17_3.length x17_3 := (Kd.V_at (base := w.heap.size) (Kd.R_V (Kd.R_apart' (HO_17.out) (Kd.N_typed HO_16.out) (by decide)))).2.2
               have q045 : (0 : Int) ≤ (a2 : Int) := of_decide_eq_true (by first | (with_reducible assumption) | assumption)
               have hcut45 := cut_from (P := Tryd.prog) 22 5 .i64 Tryd.underlying22 hi045 1 hsz45 Ao46 x17_3.length co46 a2 q045 q45
               have hr45 := Kd.F_cut (m := (a2 : Int).toNat) (c := co46) hC45 (by omega) hroom45
               obtain ⟨A45, hA45⟩ : ∃ A1, A1 = (if co46 = (a2 : Int).toNat then Ao46 else (Ao46 : Option Addr).map (·.add ((a2 : Int).toNat * 1))) := ⟨_, rfl⟩
               obtain ⟨c45, hc45⟩ : ∃ c1, c1 = co46 - (a2 : Int).toNat := ⟨_, rfl⟩
               have hy45 : y110.length = x17_3.length - (a2 : Int).toNat := (by rw [Ny110.out, List.length_drop] <;> omega)
               rw [show (x17_3).drop (a2 : Int).toNat = y110 from Ny110.out.symm] at hr45
               replace hr45 : Kd.F (Kd.int .u8) _ _ A45 y110.length y110 := (by rw [hA45]; exact hr45)
               rw [← hy45, ← hA45, ← hc45] at hcut45
               have HO114 := Aside0.mk (show Kd.V (Kd.int .u8) 5 _ w.heap.size _ (.slice A45 y110.length c45) y110 from Kd.V_mk (by rw [hy45, hc45]; exact Nat.sub_le_sub_right hroom45 _) hr45)
               have HC114 := Aside0.mk (show y110.length ≤ c45 from by rw [hy45, hc45]; exact Nat.sub_le_sub_right hroom45 _)
               clear hr45 hC45 hroom45 hi045 hsz45 hc45
               have KY45 := Aside0.mk hy45
               have KA45 := Aside0.mk hA45
               clear hy45 hA45
               replace q45 := eq_true q45
               go_wp2_with (first | ((with_reducible refine gate_callee (f := 33) rfl ?_); refine goesL_ (some 108) rfl rfl Tryd.func33 (by kernel_rfl) rfl #[.slice A45 y110.length c45, .string (⟨#[0]⟩ : ByteArray)] rfl (by (try simp only [List.map_toArray, List.map_cons, List.map_nil]); first | done | rfl | (simp only [List.length_drop, List.length_take]; rfl)) ?_; (with_reducible refine (bytes_Trim.calls k3 (fun k_ => (True ∧ some k_ ≠ (v107 : Value).ownBlock)) _ _ y110 (⟨#[0]⟩ : ByteArray) t115 _ ?side1 A38.out).mono ?_); (case side1 => exact HO114.out); rintro e w47 ⟨v116, rfl, ho0, hb⟩; refine ⟨_, rfl, ?_⟩; have n0_ := Aside0.mk (Kd.N_below (by (with_reducible repeat (first | apply Kd.N_alloc | apply Kd.N_drewN | apply Kd.N_drew)); exact HO_16.out) hb); have n1_ := Aside0.mk (Kd.R_below (by (with_reducible repeat (first | apply Kd.R_alloc | apply Kd.R_drewN | apply Kd.R_drew)); exact HO_17.out) hb); have n2_ := Aside0.mk (Kd.V_below (by (with_reducible repeat (first | apply Kd.V_alloc | apply Kd.V_drewN | apply Kd.V_drew)); exact HO114.out) hb); have n3_ := Aside0.mk (Kd.V_lower (Kd.V_mono (ok' := fun k_ => some k_ ≠ (v107 : Value).ownBlock) ho0 (fun k_ hk_ => Or.elim hk_ (fun hs_ => hs_.2) (fun hn_ => (Kd.fresh' (Kd.N_lt (by (with_reducible repeat (first | apply Kd.N_alloc | apply Kd.N_drewN | apply Kd.N_drew)); exact HO_16.out)) k_ hn_)))) (zF_ (by repeat (first | (with_reducible first | exact HB.out | apply zC_ | apply zA_ | apply zB_) | exact HB.out)))); have n4_ := Aside0.mk (zE_ (by repeat (first | (with_reducible first | exact HB.out | apply zC_ | apply zA_ | apply zB_) | exact HB.out)) hb); clear HO_16; clear HO_17; clear HO114; clear HB; have HO_16 := n0_; have HO_17 := n1_; have HO114 := n2_; have HO117 := n3_; have HB := n4_; clear n0_ n1_ n2_ n3_ n4_; (try clear hb); (try clear hb2); (try clear hk); (try clear hi); (try clear ho0); obtain ⟨Ao48, co48, eo48⟩ := Kd.V_slice HO117.out; subst eo48; have q49 : (a2 : Int) ≤ ((x17_3.length : Int) : Int) := of_decide_eq_true (by first | (with_reducible assumption) | assumption); obtain ⟨i049, hi049, _, hsz49, _⟩ := info_parts info5; have hcut49 := cut_hm (P := Tryd.prog) 22 5 .i64 Tryd.underlying22 hi049 Ao46 x17_3.length co46 a2 (of_decide_eq_true (by first | (with_reducible assumption) | assumption)) q49 (Kd.R_reads' HO_17.out).2.1; have hr49 := Kd.R_take (m := (a2 : Int).toNat) HO_17.out (by omega); have hy49 : y118.length = (a2 : Int).toNat := (by rw [Ny118.out, List.length_take]; omega); rw [← Ny118.out] at hr49; rw [← hy49] at hr49 hcut49; clear hy49 hi049 hsz49 HO_17; have HO120 := Aside0.mk hr49; clear hr49; replace q49 := eq_true q49))
               go_ret2
               exact ⟨_, by first | rfl | (simp [errW_none, errW_some] <;> rfl) | (simp [*, errW_none, errW_some] <;> rfl), Kd.V_mk (Nat.le_refl _) (Kd.V_at (base := w.heap.size) (Kd.V_mono (Kd.R_V (Kd.R_tight rfl HO120.out)) (fun k_ hk => Kd.R_base HO120.out k_ hk.symm))).2.2, by repeat (first | (with_reducible first | exact HB.out | apply zC_ | apply zA_ | apply zB_) | exact HB.out)⟩
             ·rw [if_neg c37] at H
              exact absurd H (by simp)
            ·rw [if_neg c36] at H
             exact absurd H (by simp)
        ·rw [if_neg c22] at H
         have c22b0 : (t109 == 0) = false := beq_eq_false_iff_ne.mpr c22
         have c22b1 : (t109 != 0) = true := bne_iff_ne.mpr c22
         simp only [Option.some.injEq, Prod.mk.injEq] at H
         obtain ⟨rfl, rfl⟩ := H
         go_wp2_with (first | ((with_reducible refine gate_callee (f := 15) rfl ?_); refine goesL_ (some 76) rfl rfl Tryd.func15 (by kernel_rfl) rfl #[.int .i64 a0, .int .i64 a1, .slice A3 l3.length c3, .slice A4 l4.length c4] rfl (by (try simp only [List.map_toArray, List.map_cons, List.map_nil]); first | done | rfl | (simp only [List.length_drop, List.length_take]; rfl)) ?_; (with_reducible refine (code_Decode.calls a0 a1 _ _ l3 _ _ l4 t106 t109 _ ?side1 ?side2 ?side3 ?side4 A21.out).mono ?_); (case side1 => repeat (first | exact (Kd.C_below HR3.out HB.out) | (with_reducible refine Kd.C_alloc ?_ _) | (with_reducible refine Kd.C_drewN ?_ _) | (with_reducible refine Kd.C_drew ?_))); (case side2 => exact HC3.out); (case side3 => repeat (first | exact (Kd.C_below HR4.out HB.out) | (with_reducible refine Kd.C_alloc ?_ _) | (with_reducible refine Kd.C_drewN ?_ _) | (with_reducible refine Kd.C_drew ?_))); (case side4 => exact HC4.out); rintro e w50 ⟨v107, rfl, ho0, hb⟩; refine ⟨_, rfl, ?_⟩; have n0_ := Aside0.mk (Kd.N_lower (Kd.N_mono (ok' := fun k_ => True) ho0 (fun k_ hk_ => trivial)) (zF_ (by repeat (first | (with_reducible first | exact HB.out | apply zC_ | apply zA_ | apply zB_) | exact HB.out)))); have n1_ := Aside0.mk (zE_ (by repeat (first | (with_reducible first | exact HB.out | apply zC_ | apply zA_ | apply zB_) | exact HB.out)) hb); clear HB; have HO108 := n0_; have HB := n1_; clear n0_ n1_; (try clear hb); (try clear hb2); (try clear hk); (try clear hi); (try clear ho0)))
         go_ret2
         exact ⟨_, by first | rfl | (simp [errW_none, errW_some] <;> rfl) | (simp [*, errW_none, errW_some] <;> rfl), by first | exact Kd.R_nil _ _ _ _ _ | exact Kd.N_nil _ _ _ _ _ | exact Kd.V_nil _ _ _ _ _ | exact Kd.Q_nil _ _ _ _ _ | exact Kd.S_nil _ _ _ _ _, by repeat (first | (with_reducible first | exact HB.out | apply zC_ | apply zA_ | apply zB_) | exact HB.out)⟩
    ·rw [if_neg c13] at H
     have c13b0 : (t103 == 0) = false := beq_eq_false_iff_ne.mpr c13
     have c13b1 : (t103 != 0) = true := bne_iff_ne.mpr c13
     simp only [Option.some.injEq, Prod.mk.injEq] at H
     obtain ⟨rfl, rfl⟩ := H
     go_wp2_with (first | ((with_reducible refine gate_callee (f := 31) rfl ?_); refine goesL_ (some 47) rfl rfl Tryd.func31 (by kernel_rfl) rfl #[.int .i64 a0, .int .i64 a2] rfl (by (try simp only [List.map_toArray, List.map_cons, List.map_nil]); first | done | rfl | (simp only [List.length_drop, List.length_take]; rfl)) ?_; (with_reducible refine (stripe_Length.calls kj5 a0 a2 t102 t103 _ A12.out).mono ?_); rintro e w' ⟨rfl, ⟨nd, rfl⟩⟩; refine ⟨_, rfl, ?_⟩))
     go_ret2
     exact ⟨_, by first | rfl | (simp [errW_none, errW_some] <;> rfl) | (simp [*, errW_none, errW_some] <;> rfl), by first | exact Kd.R_nil _ _ _ _ _ | exact Kd.N_nil _ _ _ _ _ | exact Kd.V_nil _ _ _ _ _ | exact Kd.Q_nil _ _ _ _ _ | exact Kd.S_nil _ _ _ _ _, by repeat (first | (with_reducible first | exact HB.out | apply zC_ | apply zA_ | apply zB_) | exact HB.out)⟩
end Go.Proofs.YtnfgiamdmfkcjaaDoor.P
