/- Words and walks that the claim StoreDecodes leans on (what it does not use is left out). -/
import Derived.Test.YtmajfcdfafhkfaaGreatDoorMStoreDecodes1
import Derived.Test.YtmajfcdfafhkfaaGreatDoorMStoreDecodes2
import Derived.Deep.RegionLaw
import Derived.Deep.RegionWith
namespace Go.Proofs.YtmajfcdfafhkfaaGreatDoor.P
open Go.Proofs.YtmajfcdfafhkfaaGreatDoor.Leaf
open Go.RowKit Go.Proofs.YtmajfcdfafhkfaaGreatDoorW.PrintWords Go.Proofs.YtmajfcdfafhkfaaGreatDoorW.PrintLast Go.Proofs.YtmajfcdfafhkfaaGreatDoorW.PrintMore
attribute [local go_sem] max2_int min2_int max_two min_two max_three min_three max_four min_four   -- for this text's walks alone
set_option linter.unusedVariables false
set_option linter.unusedSimpArgs false
mutual
def mooringref05_ReadUvarint.l0 : Nat → Int → Int → Int → List Int → Int → Int → Option (Int × Int × Int)
 | 0, _, _, _, _, _, _ => none
 | k + 1, x3, x4, x5, x1000, x1001, x1002 => if x5 < 10 then ((mooringref05_next.f x1000 x1001 x1002).bind fun bt103 => (if bt103.2.1 = true then (if x5 = 9 then (mooringref05_ReadUvarint.j1 k x3 x4 x5 bt103.1 (IntKind.u64.wrap (Int.tmod bt103.1 128)) (decide ((IntKind.u64.wrap (Int.tmod bt103.1 128)) > 1)) x1000 bt103.2.2.1 bt103.2.2.2) else (mooringref05_ReadUvarint.j1 k x3 x4 x5 bt103.1 (IntKind.u64.wrap (Int.tmod bt103.1 128)) false x1000 bt103.2.2.1 bt103.2.2.2)) else ((mooringref05_wrong.f x1000 bt103.2.2.1 bt103.2.2.2 5 x3).bind fun bt107 => (some (0, bt107.1, bt107.2))))) else ((mooringref05_wrong.f x1000 x1001 x1002 5 x3).bind fun bt101 => (some (0, bt101.1, bt101.2)))
def mooringref05_ReadUvarint.j1 : Nat → Int → Int → Int → Int → Int → Bool → List Int → Int → Int → Option (Int × Int × Int)
 | 0, _, _, _, _, _, _, _, _, _ => none
 | k + 1, x3, x4, x5, x6, x8, x32, x1000, x1001, x1002 => if x32 = true then ((mooringref05_wrong.f x1000 x1001 x1002 5 x3).bind fun bt109 => (some (0, bt109.1, bt109.2))) else (if 0 ≤ (IntKind.u64.wrap (wrap64 (7 * x5))) then (if x6 < 128 then (if x6 = 0 then (if x5 > 0 then ((mooringref05_wrong.f x1000 x1001 x1002 5 x3).bind fun bt111 => (some (0, bt111.1, bt111.2))) else (some (Go.bits .or .u64 x4 (shl .u64 x8 (IntKind.u64.wrap (wrap64 (7 * x5)))), x1001, x1002))) else (some (Go.bits .or .u64 x4 (shl .u64 x8 (IntKind.u64.wrap (wrap64 (7 * x5)))), x1001, x1002))) else (mooringref05_ReadUvarint.l0 k x3 (Go.bits .or .u64 x4 (shl .u64 x8 (IntKind.u64.wrap (wrap64 (7 * x5))))) (wrap64 (x5 + 1)) x1000 x1001 x1002)) else (none))
end
def mooringref05_ReadUvarint.f (k : Nat) (s0_0 : List Int) (s0_1 : Int) (s0_2 : Int) : Option (Int × Int × Int) := mooringref05_ReadUvarint.l0 k s0_1 0 0 s0_0 s0_1 s0_2
theorem mooringref05_ReadUvarint.mono_l : ∀ k, (∀ y0 y1 y2 y3 y4 y5, LeO (mooringref05_ReadUvarint.l0 k y0 y1 y2 y3 y4 y5) (mooringref05_ReadUvarint.l0 (k + 1) y0 y1 y2 y3 y4 y5)) ∧ (∀ y0 y1 y2 y3 y4 y5 y6 y7 y8, LeO (mooringref05_ReadUvarint.j1 k y0 y1 y2 y3 y4 y5 y6 y7 y8) (mooringref05_ReadUvarint.j1 (k + 1) y0 y1 y2 y3 y4 y5 y6 y7 y8))
 | 0 => ⟨fun _ _ _ _ _ _ r h => by simp [mooringref05_ReadUvarint.l0] at h, fun _ _ _ _ _ _ _ _ _ r h => by simp [mooringref05_ReadUvarint.j1] at h⟩
 | k + 1 => by
  obtain ⟨ih0, ih1⟩ := mooringref05_ReadUvarint.mono_l k
  refine ⟨?_, ?_⟩
  ·intro y0 y1 y2 y3 y4 y5
   unfold mooringref05_ReadUvarint.l0
   repeat' first
   | (with_reducible exact ih0 _ _ _ _ _ _)
   | (with_reducible exact ih1 _ _ _ _ _ _ _ _ _)
   | (with_reducible exact LeO.refl _)
   | (with_reducible exact LeO.none _)
   | (with_reducible refine LeO.ite ?_ ?_)
   | (with_reducible refine LeO.bind ?_ (fun _ => ?_))
   | exact ih0 _ _ _ _ _ _
   | exact ih1 _ _ _ _ _ _ _ _ _
   | exact LeO.none _
   | refine LeO.ite ?_ ?_
   | refine LeO.bind ?_ (fun _ => ?_)
  ·intro y0 y1 y2 y3 y4 y5 y6 y7 y8
   unfold mooringref05_ReadUvarint.j1
   repeat' first
   | (with_reducible exact ih0 _ _ _ _ _ _)
   | (with_reducible exact ih1 _ _ _ _ _ _ _ _ _)
   | (with_reducible exact LeO.refl _)
   | (with_reducible exact LeO.none _)
   | (with_reducible refine LeO.ite ?_ ?_)
   | (with_reducible refine LeO.bind ?_ (fun _ => ?_))
   | exact ih0 _ _ _ _ _ _
   | exact ih1 _ _ _ _ _ _ _ _ _
   | exact LeO.none _
   | refine LeO.ite ?_ ?_
   | refine LeO.bind ?_ (fun _ => ?_)
theorem mooringref05_ReadUvarint.mono : ∀ a0 a1 a2 k, LeO (mooringref05_ReadUvarint.f k a0 a1 a2) (mooringref05_ReadUvarint.f (k + 1) a0 a1 a2) := by
 intro a0 a1 a2 k
 obtain ⟨ih0, ih1⟩ := mooringref05_ReadUvarint.mono_l k
 unfold mooringref05_ReadUvarint.f
 repeat' first
   | (with_reducible exact ih0 _ _ _ _ _ _)
   | (with_reducible exact ih1 _ _ _ _ _ _ _ _ _)
   | (with_reducible exact LeO.refl _)
   | (with_reducible exact LeO.none _)
   | (with_reducible refine LeO.ite ?_ ?_)
   | (with_reducible refine LeO.bind ?_ (fun _ => ?_))
   | exact ih0 _ _ _ _ _ _
   | exact ih1 _ _ _ _ _ _ _ _ _
   | exact LeO.none _
   | refine LeO.ite ?_ ?_
   | refine LeO.bind ?_ (fun _ => ?_)
set_option maxHeartbeats 8000000 in
set_option maxRecDepth 100000 in
theorem mooringref05_ReadUvarint.calls (k : Nat) (g : Nat) (s0_0 : List Int) (s0_1 : Int) (s0_2 : Int) (r1 : Int) (r2 : Int) (r3 : Int) (w0 w : World) (hI : IsS79 w0 w g s0_0 s0_1 s0_2) (hB : Below w0.heap.size w0 w) (h : mooringref05_ReadUvarint.f k s0_0 s0_1 s0_2 = some (r1, r2, r3)) :
  Calls Tryz.prog 61 #[.pointer (some ⟨g, 0, none⟩)] w fun e w' => e = .returned (.int .u64 r1) ∧ IsS79 w0 w' g s0_0 r2 r3 ∧ Below w0.heap.size w0 w' ∧ KeepBut w w' g none := by
 have HI0 := Aside0.mk hI
 have HK := Aside0.mk (KeepBut.refl w g none)
 have HL := Aside0.mk hB.size
 clear hI
 have HW0 := Aside0.mk hB.size
 have HB := Aside0.mk hB
 clear hB
 have H : (mooringref05_ReadUvarint.l0 k s0_1 0 0 s0_0 s0_1 s0_2) = some (r1, r2, r3) := h
 clear h
 have H' := Aside0.mk H
 clear H
 obtain ⟨ASz2_0, cSz2_0, HGz2, hgz2, HSz2_0, _⟩ := HI0.out
 have hcz2_0 := cellS79_0 HGz2
 have hcz2_1 := cellS79_1 HGz2
 have hcz2_2 := cellS79_2 HGz2
 have hfz2_1 := blk_frozen HGz2 1
 have hfz2_2 := blk_frozen HGz2 2
 clear HGz2 hgz2
 go_enter Tryz.func61, Tryz.ntmps61
 go_wp2
 go_loopg [4, 5] k (fun kq v4 v5 w' => ∃ (x4_1 : Int) (x5_1 : Int) (x1001_1 : Int) (x1002_1 : Int), v4 = .int .u64 x4_1 ∧ v5 = .int .i64 x5_1 ∧ Aside0 (mooringref05_ReadUvarint.l0 kq s0_1 x4_1 x5_1 s0_0 x1001_1 x1002_1 = some (r1, r2, r3)) ∧ Aside0 (kq ≤ k) ∧ Aside0 (IsS79 w0 w' g s0_0 x1001_1 x1002_1) ∧ Aside0 (KeepBut w w' g none) ∧ Aside0 (Below w0.heap.size w0 w'))
 case atStart => exact ⟨(0), (0), (s0_1), (s0_2), (by first | rfl | (simp; done) | (simp [*]; done)), (by first | rfl | (simp; done) | (simp [*]; done)), H', ⟨Nat.le_refl _⟩, ⟨by repeat (first | (with_reducible first | exact HI0.out | apply IsS79.alloc | apply IsS79.drewN | apply IsS79.drew | apply IsS79.set_1 | apply IsS79.set_2) | exact HI0.out)⟩, ⟨by repeat (first | (with_reducible first | exact HK.out | apply KeepBut.set_ | apply keep_drewN | apply keep_drew | apply keep_alloc) | exact HK.out)⟩, ⟨by repeat (first | (with_reducible first | exact HB.out | apply below_alloc | apply pw_below_drewN | apply below_drew1 | refine below_set ?_ (IsS79.ge HI0.out)) | exact HB.out)⟩⟩
 case round =>
  clear H'
  try clear p2
  try clear hcz2_0
  try clear hcz2_1
  try clear hcz2_2
  try clear hfz2_1
  try clear hfz2_2
  obtain ⟨x4_1, x5_1, x1001_1, x1002_1, rfl, rfl, HA, HK1, HI0, HK, HB⟩ := hrel
  cases gk with
  | zero => exact absurd HA.out (by simp [mooringref05_ReadUvarint.l0])
  | succ k1 =>
   have H := HA.out
   clear HA
   simp only [mooringref05_ReadUvarint.l0] at H
   by_cases c3 : x5_1 < 10
   ·rw [if_pos c3] at H
    have c3b0 : decide (x5_1 < 10) = true := decide_eq_true c3
    clear c3
    replace H := Option.bind_eq_some_iff.mp H
    obtain ⟨⟨t103, t104, t105, t106⟩, A40, H⟩ := H
    replace H : (if t104 = true then (if x5_1 = 9 then (mooringref05_ReadUvarint.j1 k1 s0_1 x4_1 x5_1 t103 (IntKind.u64.wrap (Int.tmod t103 128)) (decide ((IntKind.u64.wrap (Int.tmod t103 128)) > 1)) s0_0 t105 t106) else (mooringref05_ReadUvarint.j1 k1 s0_1 x4_1 x5_1 t103 (IntKind.u64.wrap (Int.tmod t103 128)) false s0_0 t105 t106)) else ((mooringref05_wrong.f s0_0 t105 t106 5 s0_1).bind fun bt107 => (some (0, bt107.1, bt107.2)))) = some (r1, r2, r3) := H
    have A4 := Aside0.mk A40
    clear A40
    by_cases c5 : t104 = true
    ·subst c5
     have H1 : (if x5_1 = 9 then (mooringref05_ReadUvarint.j1 k1 s0_1 x4_1 x5_1 t103 (IntKind.u64.wrap (Int.tmod t103 128)) (decide ((IntKind.u64.wrap (Int.tmod t103 128)) > 1)) s0_0 t105 t106) else (mooringref05_ReadUvarint.j1 k1 s0_1 x4_1 x5_1 t103 (IntKind.u64.wrap (Int.tmod t103 128)) false s0_0 t105 t106)) = some (r1, r2, r3) := by rw [if_pos rfl] at H; exact H
     clear H
     have H := H1
     clear H1
     have HC6 := Aside0.mk H
     clear H
     go_upto_region 9 with (first | ((with_reducible refine gate_callee (f := 80) rfl ?_); refine goesL_ (some 19) rfl rfl Tryz.func80 (by kernel_rfl) rfl #[.pointer (some ⟨g, 0, none⟩)] rfl (by (try simp only [List.map_toArray, List.map_cons, List.map_nil]); first | done | rfl | (simp only [List.length_drop, List.length_take]; rfl)) ?_; (with_reducible refine (mooringref05_next.calls g s0_0 x1001_1 x1002_1 t103 true t105 t106 w0 _ ?side1 ?side2 A4.out).mono ?_); (case side1 => repeat (first | (with_reducible first | exact HI0.out | apply IsS79.alloc | apply IsS79.drewN | apply IsS79.drew | apply IsS79.set_1 | apply IsS79.set_2) | exact HI0.out)); (case side2 => repeat (first | (with_reducible first | exact HB.out | apply below_alloc | apply pw_below_drewN | apply below_drew1 | refine below_set ?_ (IsS79.ge HI0.out)) | exact HB.out)); rintro e w7 ⟨rfl, hi, hb, hk⟩; refine ⟨_, rfl, ?_⟩; have n0_ := Aside0.mk (KeepBut.trans (by repeat (first | (with_reducible first | exact HK.out | apply KeepBut.set_ | apply keep_drewN | apply keep_drew | apply keep_alloc) | exact HK.out)) hk (.inl rfl)); have n1_ := Aside0.mk (hb); have n2_ := Aside0.mk (hi); clear HK; clear HB; clear HI0; have HK := n0_; have HB := n1_; have HI0 := n2_; clear n0_ n1_ n2_; (try clear hb); (try clear hb2); (try clear hk); (try clear hi)))
     (try simp only [Act.put, List.setIfInBounds_toArray, List.set_cons_zero, List.set_cons_succ])
     go_cut [32] (fun v32 wc => ∃ (kq : Nat) (x32_5 : Bool), v32 = .bool x32_5 ∧ Aside0 (mooringref05_ReadUvarint.j1 kq s0_1 x4_1 x5_1 t103 (IntKind.u64.wrap (Int.tmod t103 128)) x32_5 s0_0 t105 t106 = some (r1, r2, r3)) ∧ Aside0 (kq ≤ k1) ∧ Aside0 (IsS79 w0 wc g s0_0 t105 t106) ∧ Aside0 (KeepBut w wc g none) ∧ Aside0 (Below w0.heap.size w0 wc))
     case first =>
      have H := HC6.out
      clear HC6
      by_cases c8 : x5_1 = 9
      ·rw [if_pos c8] at H
       have c8b0 : (x5_1 == 9) = true := beq_iff_eq.mpr c8
       have c8b1 : (x5_1 != 9) = false := bne_eq_false_iff_eq.mpr c8
       clear c8
       (first | rw [c8b0] | (simp only [i64_w, i32_w]; rw [c8b0]) | skip)
       have H' := Aside0.mk H
       clear H
       go_wp2
       go_meet
       case rel => exact ⟨_, (decide ((IntKind.u64.wrap (Int.tmod t103 128)) > 1)), (by first | rfl | (simp; done) | (simp [*]; done)), H', ⟨by have := HK1.out; first | omega | exact Nat.le_refl _⟩, ⟨by repeat (first | (with_reducible first | exact HI0.out | apply IsS79.alloc | apply IsS79.drewN | apply IsS79.drew | apply IsS79.set_1 | apply IsS79.set_2) | exact HI0.out)⟩, ⟨by repeat (first | (with_reducible first | exact HK.out | apply KeepBut.set_ | apply keep_drewN | apply keep_drew | apply keep_alloc) | exact HK.out)⟩, ⟨by repeat (first | (with_reducible first | exact HB.out | apply below_alloc | apply pw_below_drewN | apply below_drew1 | refine below_set ?_ (IsS79.ge HI0.out)) | exact HB.out)⟩⟩
      ·rw [if_neg c8] at H
       have c8b0 : (x5_1 == 9) = false := beq_eq_false_iff_ne.mpr c8
       have c8b1 : (x5_1 != 9) = true := bne_iff_ne.mpr c8
       (first | rw [c8b0] | (simp only [i64_w, i32_w]; rw [c8b0]) | skip)
       have H' := Aside0.mk H
       clear H
       go_wp2
       go_meet
       case rel => exact ⟨_, (false), (by first | rfl | (simp; done) | (simp [*]; done)), H', ⟨by have := HK1.out; first | omega | exact Nat.le_refl _⟩, ⟨by repeat (first | (with_reducible first | exact HI0.out | apply IsS79.alloc | apply IsS79.drewN | apply IsS79.drew | apply IsS79.set_1 | apply IsS79.set_2) | exact HI0.out)⟩, ⟨by repeat (first | (with_reducible first | exact HK.out | apply KeepBut.set_ | apply keep_drewN | apply keep_drew | apply keep_alloc) | exact HK.out)⟩, ⟨by repeat (first | (with_reducible first | exact HB.out | apply below_alloc | apply pw_below_drewN | apply below_drew1 | refine below_set ?_ (IsS79.ge HI0.out)) | exact HB.out)⟩⟩
     case rest =>
      clear HC6
      try clear p2
      try clear c3
      try clear c3b0
      try clear c5
      try clear c6
      try clear c8
      try clear c8b0
      try clear c8b1
      try clear hcz2_0
      try clear hcz2_1
      try clear hcz2_2
      try clear hfz2_1
      try clear hfz2_2
      try clear p2
      obtain ⟨kq, x32_5, rfl, HA, HJ5, HI0, HK, HB⟩ := hcut
      cases kq with
      | zero => exact absurd HA.out (by simp [mooringref05_ReadUvarint.j1])
      | succ kj5 =>
       have H := HA.out
       clear HA
       simp only [mooringref05_ReadUvarint.j1] at H
       by_cases c9 : x32_5 = true
       ·subst c9
        have H1 : ((mooringref05_wrong.f s0_0 t105 t106 5 s0_1).bind fun bt109 => (some (0, bt109.1, bt109.2))) = some (r1, r2, r3) := by rw [if_pos rfl] at H; exact H
        clear H
        have H := H1
        clear H1
        replace H := Option.bind_eq_some_iff.mp H
        obtain ⟨⟨t109, t110⟩, A100, H⟩ := H
        replace H : (some (0, t109, t110)) = some (r1, r2, r3) := H
        have A10 := Aside0.mk A100
        clear A100
        simp only [Option.some.injEq, Prod.mk.injEq] at H
        obtain ⟨rfl, rfl, rfl⟩ := H
        go_wp2_with (first | ((with_reducible refine gate_callee (f := 62) rfl ?_); refine goesL_ (some 51) rfl rfl Tryz.func62 (by kernel_rfl) rfl #[.pointer (some ⟨g, 0, none⟩), .int .i64 5, .int .i64 s0_1] rfl (by (try simp only [List.map_toArray, List.map_cons, List.map_nil]); first | done | rfl | (simp only [List.length_drop, List.length_take]; rfl)) ?_; (with_reducible refine (mooringref05_wrong.calls g s0_0 t105 t106 5 s0_1 t109 t110 w0 _ ?side1 ?side2 A10.out).mono ?_); (case side1 => repeat (first | (with_reducible first | exact HI0.out | apply IsS79.alloc | apply IsS79.drewN | apply IsS79.drew | apply IsS79.set_1 | apply IsS79.set_2) | exact HI0.out)); (case side2 => repeat (first | (with_reducible first | exact HB.out | apply below_alloc | apply pw_below_drewN | apply below_drew1 | refine below_set ?_ (IsS79.ge HI0.out)) | exact HB.out)); rintro e w11 ⟨rfl, hi, hb, hk⟩; refine ⟨_, rfl, ?_⟩; have n0_ := Aside0.mk (KeepBut.trans (by repeat (first | (with_reducible first | exact HK.out | apply KeepBut.set_ | apply keep_drewN | apply keep_drew | apply keep_alloc) | exact HK.out)) hk (.inl rfl)); have n1_ := Aside0.mk (hb); have n2_ := Aside0.mk (hi); clear HK; clear HB; clear HI0; have HK := n0_; have HB := n1_; have HI0 := n2_; clear n0_ n1_ n2_; (try clear hb); (try clear hb2); (try clear hk); (try clear hi)))
        go_ret
        exact ⟨by first | rfl | (simp [errW_none, errW_some] <;> rfl) | (simp [*, errW_none, errW_some] <;> rfl), by repeat (first | (with_reducible first | exact HI0.out | apply IsS79.alloc | apply IsS79.drewN | apply IsS79.drew | apply IsS79.set_1 | apply IsS79.set_2) | exact HI0.out), by repeat (first | (with_reducible first | exact HB.out | apply below_alloc | apply pw_below_drewN | apply below_drew1 | refine below_set ?_ (IsS79.ge HI0.out)) | exact HB.out), by repeat (first | (with_reducible first | exact HK.out | apply KeepBut.set_ | apply keep_drewN | apply keep_drew | apply keep_alloc) | exact HK.out)⟩
       ·replace c9 := Bool.eq_false_iff.mpr c9
        subst c9
        have H1 : (if 0 ≤ (IntKind.u64.wrap (wrap64 (7 * x5_1))) then (if t103 < 128 then (if t103 = 0 then (if x5_1 > 0 then ((mooringref05_wrong.f s0_0 t105 t106 5 s0_1).bind fun bt111 => (some (0, bt111.1, bt111.2))) else (some (Go.bits .or .u64 x4_1 (shl .u64 (IntKind.u64.wrap (Int.tmod t103 128)) (IntKind.u64.wrap (wrap64 (7 * x5_1)))), t105, t106))) else (some (Go.bits .or .u64 x4_1 (shl .u64 (IntKind.u64.wrap (Int.tmod t103 128)) (IntKind.u64.wrap (wrap64 (7 * x5_1)))), t105, t106))) else (mooringref05_ReadUvarint.l0 kj5 s0_1 (Go.bits .or .u64 x4_1 (shl .u64 (IntKind.u64.wrap (Int.tmod t103 128)) (IntKind.u64.wrap (wrap64 (7 * x5_1))))) (wrap64 (x5_1 + 1)) s0_0 t105 t106)) else (none)) = some (r1, r2, r3) := by rw [if_neg (show ¬ (false = true) by decide)] at H; exact H
        clear H
        have H := H1
        clear H1
        obtain ⟨ji12, hji12⟩ : ∃ j_ : Int, (IntKind.u64.wrap (wrap64 (7 * x5_1))) = j_ := ⟨_, rfl⟩
        replace H : (if 0 ≤ (ji12) then (if t103 < 128 then (if t103 = 0 then (if x5_1 > 0 then ((mooringref05_wrong.f s0_0 t105 t106 5 s0_1).bind fun bt111 => (some (0, bt111.1, bt111.2))) else (some (Go.bits .or .u64 x4_1 (shl .u64 (IntKind.u64.wrap (Int.tmod t103 128)) (ji12)), t105, t106))) else (some (Go.bits .or .u64 x4_1 (shl .u64 (IntKind.u64.wrap (Int.tmod t103 128)) (ji12)), t105, t106))) else (mooringref05_ReadUvarint.l0 kj5 s0_1 (Go.bits .or .u64 x4_1 (shl .u64 (IntKind.u64.wrap (Int.tmod t103 128)) (ji12))) (wrap64 (x5_1 + 1)) s0_0 t105 t106)) else (none)) = some (r1, r2, r3) := by first | (rw [hji12] at H; exact H) | (simp only [hji12] at H ⊢; exact H)
        by_cases c13 : 0 ≤ (ji12)
        ·rw [if_pos c13] at H
         have c13b0 := eq_true c13
         have c13b1 : decide (0 ≤ (ji12)) = true := decide_eq_true c13
         clear c13
         obtain ⟨ji14, hji14⟩ : ∃ j_ : Int, (shl .u64 (IntKind.u64.wrap (Int.tmod t103 128)) (ji12)) = j_ := ⟨_, rfl⟩
         replace H : (if t103 < 128 then (if t103 = 0 then (if x5_1 > 0 then ((mooringref05_wrong.f s0_0 t105 t106 5 s0_1).bind fun bt111 => (some (0, bt111.1, bt111.2))) else (some (Go.bits .or .u64 x4_1 (ji14), t105, t106))) else (some (Go.bits .or .u64 x4_1 (ji14), t105, t106))) else (mooringref05_ReadUvarint.l0 kj5 s0_1 (Go.bits .or .u64 x4_1 (ji14)) (wrap64 (x5_1 + 1)) s0_0 t105 t106)) = some (r1, r2, r3) := by first | (rw [hji14] at H; exact H) | (simp only [hji14] at H ⊢; exact H)
         have hji14_ : (IntKind.u64.wrap ((IntKind.u64.wrap (Int.tmod t103 128)) * 2 ^ min (ji12).toNat 64)) = ji14 := hji14
         have hji14z : (ji12) ≤ 64 → (IntKind.u64.wrap ((IntKind.u64.wrap (Int.tmod t103 128)) * 2 ^ (ji12).toNat)) = ji14 := shl_small hji14
         by_cases c15 : t103 < 128
         ·rw [if_pos c15] at H
          have c15b0 : decide (t103 < 128) = true := decide_eq_true c15
          clear c15
          by_cases c16 : t103 = 0
          ·rw [if_pos c16] at H
           have c16b0 : (t103 == 0) = true := beq_iff_eq.mpr c16
           have c16b1 : (t103 != 0) = false := bne_eq_false_iff_eq.mpr c16
           clear c16
           by_cases c17 : x5_1 > 0
           ·rw [if_pos c17] at H
            have c17b0 : decide (0 < x5_1) = true := decide_eq_true c17
            clear c17
            replace H := Option.bind_eq_some_iff.mp H
            obtain ⟨⟨t111, t112⟩, A180, H⟩ := H
            replace H : (some (0, t111, t112)) = some (r1, r2, r3) := H
            have A18 := Aside0.mk A180
            clear A180
            simp only [Option.some.injEq, Prod.mk.injEq] at H
            obtain ⟨rfl, rfl, rfl⟩ := H
            go_wp2_with (first | ((with_reducible refine gate_callee (f := 62) rfl ?_); refine goesL_ (some 51) rfl rfl Tryz.func62 (by kernel_rfl) rfl #[.pointer (some ⟨g, 0, none⟩), .int .i64 5, .int .i64 s0_1] rfl (by (try simp only [List.map_toArray, List.map_cons, List.map_nil]); first | done | rfl | (simp only [List.length_drop, List.length_take]; rfl)) ?_; (with_reducible refine (mooringref05_wrong.calls g s0_0 t105 t106 5 s0_1 t111 t112 w0 _ ?side1 ?side2 A18.out).mono ?_); (case side1 => repeat (first | (with_reducible first | exact HI0.out | apply IsS79.alloc | apply IsS79.drewN | apply IsS79.drew | apply IsS79.set_1 | apply IsS79.set_2) | exact HI0.out)); (case side2 => repeat (first | (with_reducible first | exact HB.out | apply below_alloc | apply pw_below_drewN | apply below_drew1 | refine below_set ?_ (IsS79.ge HI0.out)) | exact HB.out)); rintro e w19 ⟨rfl, hi, hb, hk⟩; refine ⟨_, rfl, ?_⟩; have n0_ := Aside0.mk (KeepBut.trans (by repeat (first | (with_reducible first | exact HK.out | apply KeepBut.set_ | apply keep_drewN | apply keep_drew | apply keep_alloc) | exact HK.out)) hk (.inl rfl)); have n1_ := Aside0.mk (hb); have n2_ := Aside0.mk (hi); clear HK; clear HB; clear HI0; have HK := n0_; have HB := n1_; have HI0 := n2_; clear n0_ n1_ n2_; (try clear hb); (try clear hb2); (try clear hk); (try clear hi)))
            go_ret
            exact ⟨by first | rfl | (simp [errW_none, errW_some] <;> rfl) | (simp only [← hji12, ← hji14]; first | rfl | (simp [errW_none, errW_some] <;> rfl)) | (simp [*, errW_none, errW_some] <;> rfl), by repeat (first | (with_reducible first | exact HI0.out | apply IsS79.alloc | apply IsS79.drewN | apply IsS79.drew | apply IsS79.set_1 | apply IsS79.set_2) | exact HI0.out), by repeat (first | (with_reducible first | exact HB.out | apply below_alloc | apply pw_below_drewN | apply below_drew1 | refine below_set ?_ (IsS79.ge HI0.out)) | exact HB.out), by repeat (first | (with_reducible first | exact HK.out | apply KeepBut.set_ | apply keep_drewN | apply keep_drew | apply keep_alloc) | exact HK.out)⟩
           ·rw [if_neg c17] at H
            have c17b0 : decide (0 < x5_1) = false := decide_eq_false c17
            clear c17
            simp only [Option.some.injEq, Prod.mk.injEq] at H
            obtain ⟨rfl, rfl, rfl⟩ := H
            go_wp2
            go_ret
            exact ⟨by first | rfl | (simp [errW_none, errW_some] <;> rfl) | (simp only [← hji12, ← hji14]; first | rfl | (simp [errW_none, errW_some] <;> rfl)) | (simp [*, errW_none, errW_some] <;> rfl), by repeat (first | (with_reducible first | exact HI0.out | apply IsS79.alloc | apply IsS79.drewN | apply IsS79.drew | apply IsS79.set_1 | apply IsS79.set_2) | exact HI0.out), by repeat (first | (with_reducible first | exact HB.out | apply below_alloc | apply pw_below_drewN | apply below_drew1 | refine below_set ?_ (IsS79.ge HI0.out)) | exact HB.out), by repeat (first | (with_reducible first | exact HK.out | apply KeepBut.set_ | apply keep_drewN | apply keep_drew | apply keep_alloc) | exact HK.out)⟩
          ·rw [if_neg c16] at H
           have c16b0 : (t103 == 0) = false := beq_eq_false_iff_ne.mpr c16
           have c16b1 : (t103 != 0) = true := bne_iff_ne.mpr c16
           simp only [Option.some.injEq, Prod.mk.injEq] at H
           obtain ⟨rfl, rfl, rfl⟩ := H
           go_wp2
           go_ret
           exact ⟨by first | rfl | (simp [errW_none, errW_some] <;> rfl) | (simp only [← hji12, ← hji14]; first | rfl | (simp [errW_none, errW_some] <;> rfl)) | (simp [*, errW_none, errW_some] <;> rfl), by repeat (first | (with_reducible first | exact HI0.out | apply IsS79.alloc | apply IsS79.drewN | apply IsS79.drew | apply IsS79.set_1 | apply IsS79.set_2) | exact HI0.out), by repeat (first | (with_reducible first | exact HB.out | apply below_alloc | apply pw_below_drewN | apply below_drew1 | refine below_set ?_ (IsS79.ge HI0.out)) | exact HB.out), by repeat (first | (with_reducible first | exact HK.out | apply KeepBut.set_ | apply keep_drewN | apply keep_drew | apply keep_alloc) | exact HK.out)⟩
         ·rw [if_neg c15] at H
          have c15b0 : decide (t103 < 128) = false := decide_eq_false c15
          clear c15
          have H' := Aside0.mk H
          clear H
          go_wp2
          go_roundg kj5
          case measure => have := HK1.out; have := HJ5.out; omega
          case rel => exact ⟨(Go.bits .or .u64 x4_1 (ji14)), (wrap64 (x5_1 + 1)), (t105), (t106), (by first | rfl | (simp; done) | (simp only [← hji14] <;> (first | rfl | simp)) | (simp [*]; done)), (by first | rfl | (simp; done) | (simp [*]; done)), (by first | exact H' | (simp only [hji12, hji14]; exact H')), ⟨by have := HK1.out; have := HJ5.out; omega⟩, ⟨by repeat (first | (with_reducible first | exact HI0.out | apply IsS79.alloc | apply IsS79.drewN | apply IsS79.drew | apply IsS79.set_1 | apply IsS79.set_2) | exact HI0.out)⟩, ⟨by repeat (first | (with_reducible first | exact HK.out | apply KeepBut.set_ | apply keep_drewN | apply keep_drew | apply keep_alloc) | exact HK.out)⟩, ⟨by repeat (first | (with_reducible first | exact HB.out | apply below_alloc | apply pw_below_drewN | apply below_drew1 | refine below_set ?_ (IsS79.ge HI0.out)) | exact HB.out)⟩⟩
        ·rw [if_neg c13] at H
         exact absurd H (by simp)
    ·replace c5 := Bool.eq_false_iff.mpr c5
     subst c5
     have H1 : ((mooringref05_wrong.f s0_0 t105 t106 5 s0_1).bind fun bt107 => (some (0, bt107.1, bt107.2))) = some (r1, r2, r3) := by rw [if_neg (show ¬ (false = true) by decide)] at H; exact H
     clear H
     have H := H1
     clear H1
     replace H := Option.bind_eq_some_iff.mp H
     obtain ⟨⟨t107, t108⟩, A200, H⟩ := H
     replace H : (some (0, t107, t108)) = some (r1, r2, r3) := H
     have A20 := Aside0.mk A200
     clear A200
     simp only [Option.some.injEq, Prod.mk.injEq] at H
     obtain ⟨rfl, rfl, rfl⟩ := H
     go_wp2_with (first | ((with_reducible refine gate_callee (f := 80) rfl ?_); refine goesL_ (some 19) rfl rfl Tryz.func80 (by kernel_rfl) rfl #[.pointer (some ⟨g, 0, none⟩)] rfl (by (try simp only [List.map_toArray, List.map_cons, List.map_nil]); first | done | rfl | (simp only [List.length_drop, List.length_take]; rfl)) ?_; (with_reducible refine (mooringref05_next.calls g s0_0 x1001_1 x1002_1 t103 false t105 t106 w0 _ ?side1 ?side2 A4.out).mono ?_); (case side1 => repeat (first | (with_reducible first | exact HI0.out | apply IsS79.alloc | apply IsS79.drewN | apply IsS79.drew | apply IsS79.set_1 | apply IsS79.set_2) | exact HI0.out)); (case side2 => repeat (first | (with_reducible first | exact HB.out | apply below_alloc | apply pw_below_drewN | apply below_drew1 | refine below_set ?_ (IsS79.ge HI0.out)) | exact HB.out)); rintro e w21 ⟨rfl, hi, hb, hk⟩; refine ⟨_, rfl, ?_⟩; have n0_ := Aside0.mk (KeepBut.trans (by repeat (first | (with_reducible first | exact HK.out | apply KeepBut.set_ | apply keep_drewN | apply keep_drew | apply keep_alloc) | exact HK.out)) hk (.inl rfl)); have n1_ := Aside0.mk (hb); have n2_ := Aside0.mk (hi); clear HK; clear HB; clear HI0; have HK := n0_; have HB := n1_; have HI0 := n2_; clear n0_ n1_ n2_; (try clear hb); (try clear hb2); (try clear hk); (try clear hi)) | ((with_reducible refine gate_callee (f := 62) rfl ?_); refine goesL_ (some 51) rfl rfl Tryz.func62 (by kernel_rfl) rfl #[.pointer (some ⟨g, 0, none⟩), .int .i64 5, .int .i64 s0_1] rfl (by (try simp only [List.map_toArray, List.map_cons, List.map_nil]); first | done | rfl | (simp only [List.length_drop, List.length_take]; rfl)) ?_; (with_reducible refine (mooringref05_wrong.calls g s0_0 t105 t106 5 s0_1 t107 t108 w0 _ ?side1 ?side2 A20.out).mono ?_); (case side1 => repeat (first | (with_reducible first | exact HI0.out | apply IsS79.alloc | apply IsS79.drewN | apply IsS79.drew | apply IsS79.set_1 | apply IsS79.set_2) | exact HI0.out)); (case side2 => repeat (first | (with_reducible first | exact HB.out | apply below_alloc | apply pw_below_drewN | apply below_drew1 | refine below_set ?_ (IsS79.ge HI0.out)) | exact HB.out)); rintro e w22 ⟨rfl, hi, hb, hk⟩; refine ⟨_, rfl, ?_⟩; have n0_ := Aside0.mk (KeepBut.trans (by repeat (first | (with_reducible first | exact HK.out | apply KeepBut.set_ | apply keep_drewN | apply keep_drew | apply keep_alloc) | exact HK.out)) hk (.inl rfl)); have n1_ := Aside0.mk (hb); have n2_ := Aside0.mk (hi); clear HK; clear HB; clear HI0; have HK := n0_; have HB := n1_; have HI0 := n2_; clear n0_ n1_ n2_; (try clear hb); (try clear hb2); (try clear hk); (try clear hi)))
     go_ret
     exact ⟨by first | rfl | (simp [errW_none, errW_some] <;> rfl) | (simp [*, errW_none, errW_some] <;> rfl), by repeat (first | (with_reducible first | exact HI0.out | apply IsS79.alloc | apply IsS79.drewN | apply IsS79.drew | apply IsS79.set_1 | apply IsS79.set_2) | exact HI0.out), by repeat (first | (with_reducible first | exact HB.out | apply below_alloc | apply pw_below_drewN | apply below_drew1 | refine below_set ?_ (IsS79.ge HI0.out)) | exact HB.out), by repeat (first | (with_reducible first | exact HK.out | apply KeepBut.set_ | apply keep_drewN | apply keep_drew | apply keep_alloc) | exact HK.out)⟩
   ·rw [if_neg c3] at H
    have c3b0 : decide (x5_1 < 10) = false := decide_eq_false c3
    clear c3
    replace H := Option.bind_eq_some_iff.mp H
    obtain ⟨⟨t101, t102⟩, A230, H⟩ := H
    replace H : (some (0, t101, t102)) = some (r1, r2, r3) := H
    have A23 := Aside0.mk A230
    clear A230
    simp only [Option.some.injEq, Prod.mk.injEq] at H
    obtain ⟨rfl, rfl, rfl⟩ := H
    go_wp2_with (first | ((with_reducible refine gate_callee (f := 62) rfl ?_); refine goesL_ (some 51) rfl rfl Tryz.func62 (by kernel_rfl) rfl #[.pointer (some ⟨g, 0, none⟩), .int .i64 5, .int .i64 s0_1] rfl (by (try simp only [List.map_toArray, List.map_cons, List.map_nil]); first | done | rfl | (simp only [List.length_drop, List.length_take]; rfl)) ?_; (with_reducible refine (mooringref05_wrong.calls g s0_0 x1001_1 x1002_1 5 s0_1 t101 t102 w0 _ ?side1 ?side2 A23.out).mono ?_); (case side1 => repeat (first | (with_reducible first | exact HI0.out | apply IsS79.alloc | apply IsS79.drewN | apply IsS79.drew | apply IsS79.set_1 | apply IsS79.set_2) | exact HI0.out)); (case side2 => repeat (first | (with_reducible first | exact HB.out | apply below_alloc | apply pw_below_drewN | apply below_drew1 | refine below_set ?_ (IsS79.ge HI0.out)) | exact HB.out)); rintro e w24 ⟨rfl, hi, hb, hk⟩; refine ⟨_, rfl, ?_⟩; have n0_ := Aside0.mk (KeepBut.trans (by repeat (first | (with_reducible first | exact HK.out | apply KeepBut.set_ | apply keep_drewN | apply keep_drew | apply keep_alloc) | exact HK.out)) hk (.inl rfl)); have n1_ := Aside0.mk (hb); have n2_ := Aside0.mk (hi); clear HK; clear HB; clear HI0; have HK := n0_; have HB := n1_; have HI0 := n2_; clear n0_ n1_ n2_; (try clear hb); (try clear hb2); (try clear hk); (try clear hi)))
    go_ret
    exact ⟨by first | rfl | (simp [errW_none, errW_some] <;> rfl) | (simp [*, errW_none, errW_some] <;> rfl), by repeat (first | (with_reducible first | exact HI0.out | apply IsS79.alloc | apply IsS79.drewN | apply IsS79.drew | apply IsS79.set_1 | apply IsS79.set_2) | exact HI0.out), by repeat (first | (with_reducible first | exact HB.out | apply below_alloc | apply pw_below_drewN | apply below_drew1 | refine below_set ?_ (IsS79.ge HI0.out)) | exact HB.out), by repeat (first | (with_reducible first | exact HK.out | apply KeepBut.set_ | apply keep_drewN | apply keep_drew | apply keep_alloc) | exact HK.out)⟩
end Go.Proofs.YtmajfcdfafhkfaaGreatDoor.P
namespace Go.Proofs.YtmajfcdfafhkfaaGreatDoor.P
open Go.Proofs.YtmajfcdfafhkfaaGreatDoor.Leaf
open Go.RowKit Go.Proofs.YtmajfcdfafhkfaaGreatDoorW.PrintWords Go.Proofs.YtmajfcdfafhkfaaGreatDoorW.PrintLast Go.Proofs.YtmajfcdfafhkfaaGreatDoorW.PrintMore
attribute [local go_sem] max2_int min2_int max_two min_two max_three min_three max_four min_four   -- for this text's walks alone
set_option linter.unusedVariables false
set_option linter.unusedSimpArgs false
def mooringref05_ReadNumber.f (k : Nat) (s0_0 : List Int) (s0_1 : Int) (s0_2 : Int) (a1 : Int) : Option (Int × Int × Int) := (mooringref05_ReadUvarint.f k s0_0 s0_1 s0_2).bind fun bt101 => (if bt101.2.2 = 0 then (if a1 < 0 then ((mooringref05_wrong.f s0_0 bt101.2.1 bt101.2.2 3 s0_1).bind fun bt104 => (some (0, bt104.1, bt104.2))) else (if bt101.1 > (IntKind.u64.wrap (a1)) then ((mooringref05_wrong.f s0_0 bt101.2.1 bt101.2.2 3 s0_1).bind fun bt106 => (some (0, bt106.1, bt106.2))) else (some (wrap64 (bt101.1), bt101.2.1, bt101.2.2)))) else (some (0, bt101.2.1, bt101.2.2)))
theorem mooringref05_ReadNumber.mono : ∀ a0 a1 a2 a3 k, LeO (mooringref05_ReadNumber.f k a0 a1 a2 a3) (mooringref05_ReadNumber.f (k + 1) a0 a1 a2 a3) := by
 intro a0 a1 a2 a3 k
 unfold mooringref05_ReadNumber.f
 repeat' first
   | (with_reducible exact mooringref05_ReadUvarint.mono _ _ _ _)
   | (with_reducible exact LeO.refl _)
   | (with_reducible exact LeO.none _)
   | (with_reducible refine LeO.ite ?_ ?_)
   | (with_reducible refine LeO.bind ?_ (fun _ => ?_))
   | exact mooringref05_ReadUvarint.mono _ _ _ _
   | exact LeO.none _
   | refine LeO.ite ?_ ?_
   | refine LeO.bind ?_ (fun _ => ?_)
set_option maxHeartbeats 8000000 in
set_option maxRecDepth 100000 in
theorem mooringref05_ReadNumber.calls (k : Nat) (g : Nat) (s0_0 : List Int) (s0_1 : Int) (s0_2 : Int) (a1 : Int) (r1 : Int) (r2 : Int) (r3 : Int) (w0 w : World) (hI : IsS79 w0 w g s0_0 s0_1 s0_2) (hB : Below w0.heap.size w0 w) (h : mooringref05_ReadNumber.f k s0_0 s0_1 s0_2 a1 = some (r1, r2, r3)) :
  Calls Tryz.prog 39 #[.pointer (some ⟨g, 0, none⟩), .int .i64 a1] w fun e w' => e = .returned (.int .i64 r1) ∧ IsS79 w0 w' g s0_0 r2 r3 ∧ Below w0.heap.size w0 w' ∧ KeepBut w w' g none := by
 have HI0 := Aside0.mk hI
 have HK := Aside0.mk (KeepBut.refl w g none)
 have HL := Aside0.mk hB.size
 clear hI
 have HW0 := Aside0.mk hB.size
 have HB := Aside0.mk hB
 clear hB
 have H : ((mooringref05_ReadUvarint.f k s0_0 s0_1 s0_2).bind fun bt101 => (if bt101.2.2 = 0 then (if a1 < 0 then ((mooringref05_wrong.f s0_0 bt101.2.1 bt101.2.2 3 s0_1).bind fun bt104 => (some (0, bt104.1, bt104.2))) else (if bt101.1 > (IntKind.u64.wrap (a1)) then ((mooringref05_wrong.f s0_0 bt101.2.1 bt101.2.2 3 s0_1).bind fun bt106 => (some (0, bt106.1, bt106.2))) else (some (wrap64 (bt101.1), bt101.2.1, bt101.2.2)))) else (some (0, bt101.2.1, bt101.2.2)))) = some (r1, r2, r3) := h
 clear h
 replace H := Option.bind_eq_some_iff.mp H
 obtain ⟨⟨t101, t102, t103⟩, A30, H⟩ := H
 replace H : (if t103 = 0 then (if a1 < 0 then ((mooringref05_wrong.f s0_0 t102 t103 3 s0_1).bind fun bt104 => (some (0, bt104.1, bt104.2))) else (if t101 > (IntKind.u64.wrap (a1)) then ((mooringref05_wrong.f s0_0 t102 t103 3 s0_1).bind fun bt106 => (some (0, bt106.1, bt106.2))) else (some (wrap64 (t101), t102, t103)))) else (some (0, t102, t103))) = some (r1, r2, r3) := H
 have A3 := Aside0.mk A30
 clear A30
 by_cases c4 : t103 = 0
 ·rw [if_pos c4] at H
  have c4b0 : (t103 == 0) = true := beq_iff_eq.mpr c4
  have c4b1 : (t103 != 0) = false := bne_eq_false_iff_eq.mpr c4
  clear c4
  by_cases c5 : a1 < 0
  ·rw [if_pos c5] at H
   have c5b0 : decide (a1 < 0) = true := decide_eq_true c5
   clear c5
   replace H := Option.bind_eq_some_iff.mp H
   obtain ⟨⟨t104, t105⟩, A60, H⟩ := H
   replace H : (some (0, t104, t105)) = some (r1, r2, r3) := H
   have A6 := Aside0.mk A60
   clear A60
   simp only [Option.some.injEq, Prod.mk.injEq] at H
   obtain ⟨rfl, rfl, rfl⟩ := H
   obtain ⟨ASz7_0, cSz7_0, HGz7, hgz7, HSz7_0, _⟩ := HI0.out
   have hcz7_0 := cellS79_0 HGz7
   have hcz7_1 := cellS79_1 HGz7
   have hcz7_2 := cellS79_2 HGz7
   have hfz7_1 := blk_frozen HGz7 1
   have hfz7_2 := blk_frozen HGz7 2
   clear HGz7 hgz7
   go_enter Tryz.func39, Tryz.ntmps39
   go_wp2_with (first | ((with_reducible refine gate_callee (f := 61) rfl ?_); refine goesL_ (some 12) rfl rfl Tryz.func61 (by kernel_rfl) rfl #[.pointer (some ⟨g, 0, none⟩)] rfl (by (try simp only [List.map_toArray, List.map_cons, List.map_nil]); first | done | rfl | (simp only [List.length_drop, List.length_take]; rfl)) ?_; (with_reducible refine (mooringref05_ReadUvarint.calls k g s0_0 s0_1 s0_2 t101 t102 t103 w0 _ ?side1 ?side2 A3.out).mono ?_); (case side1 => repeat (first | (with_reducible first | exact HI0.out | apply IsS79.alloc | apply IsS79.drewN | apply IsS79.drew | apply IsS79.set_1 | apply IsS79.set_2) | exact HI0.out)); (case side2 => repeat (first | (with_reducible first | exact HB.out | apply below_alloc | apply pw_below_drewN | apply below_drew1 | refine below_set ?_ (IsS79.ge HI0.out)) | exact HB.out)); rintro e w8 ⟨rfl, hi, hb, hk⟩; refine ⟨_, rfl, ?_⟩; have n0_ := Aside0.mk (KeepBut.trans (by repeat (first | (with_reducible first | exact HK.out | apply KeepBut.set_ | apply keep_drewN | apply keep_drew | apply keep_alloc) | exact HK.out)) hk (.inl rfl)); have n1_ := Aside0.mk (hb); have n2_ := Aside0.mk (hi); clear HK; clear HB; clear HI0; have HK := n0_; have HB := n1_; have HI0 := n2_; clear n0_ n1_ n2_; (try clear hb); (try clear hb2); (try clear hk); (try clear hi); obtain ⟨ASz9_0, cSz9_0, HGz9, hgz9, HSz9_0, _⟩ := HI0.out; have hcz9_0 := cellS79_0 HGz9; have hcz9_1 := cellS79_1 HGz9; have hcz9_2 := cellS79_2 HGz9; have hfz9_1 := blk_frozen HGz9 1; have hfz9_2 := blk_frozen HGz9 2; clear HGz9 hgz9) | ((with_reducible refine gate_callee (f := 62) rfl ?_); refine goesL_ (some 28) rfl rfl Tryz.func62 (by kernel_rfl) rfl #[.pointer (some ⟨g, 0, none⟩), .int .i64 3, .int .i64 s0_1] rfl (by (try simp only [List.map_toArray, List.map_cons, List.map_nil]); first | done | rfl | (simp only [List.length_drop, List.length_take]; rfl)) ?_; (with_reducible refine (mooringref05_wrong.calls g s0_0 t102 t103 3 s0_1 t104 t105 w0 _ ?side1 ?side2 A6.out).mono ?_); (case side1 => repeat (first | (with_reducible first | exact HI0.out | apply IsS79.alloc | apply IsS79.drewN | apply IsS79.drew | apply IsS79.set_1 | apply IsS79.set_2) | exact HI0.out)); (case side2 => repeat (first | (with_reducible first | exact HB.out | apply below_alloc | apply pw_below_drewN | apply below_drew1 | refine below_set ?_ (IsS79.ge HI0.out)) | exact HB.out)); rintro e w10 ⟨rfl, hi, hb, hk⟩; refine ⟨_, rfl, ?_⟩; have n0_ := Aside0.mk (KeepBut.trans (by repeat (first | (with_reducible first | exact HK.out | apply KeepBut.set_ | apply keep_drewN | apply keep_drew | apply keep_alloc) | exact HK.out)) hk (.inl rfl)); have n1_ := Aside0.mk (hb); have n2_ := Aside0.mk (hi); clear HK; clear HB; clear HI0; have HK := n0_; have HB := n1_; have HI0 := n2_; clear n0_ n1_ n2_; (try clear hb); (try clear hb2); (try clear hk); (try clear hi)))
   go_ret
   exact ⟨by first | rfl | (simp [errW_none, errW_some] <;> rfl) | (simp [*, errW_none, errW_some] <;> rfl), by repeat (first | (with_reducible first | exact HI0.out | apply IsS79.alloc | apply IsS79.drewN | apply IsS79.drew | apply IsS79.set_1 | apply IsS79.set_2) | exact HI0.out), by repeat (first | (with_reducible first | exact HB.out | apply below_alloc | apply pw_below_drewN | apply below_drew1 | refine below_set ?_ (IsS79.ge HI0.out)) | exact HB.out), by repeat (first | (with_reducible first | exact HK.out | apply KeepBut.set_ | apply keep_drewN | apply keep_drew | apply keep_alloc) | exact HK.out)⟩
  ·rw [if_neg c5] at H
   have c5b0 : decide (a1 < 0) = false := decide_eq_false c5
   clear c5
   by_cases c11 : t101 > (IntKind.u64.wrap (a1))
   ·rw [if_pos c11] at H
    have c11b0 : decide ((IntKind.u64.wrap (a1)) < t101) = true := decide_eq_true c11
    clear c11
    replace H := Option.bind_eq_some_iff.mp H
    obtain ⟨⟨t106, t107⟩, A120, H⟩ := H
    replace H : (some (0, t106, t107)) = some (r1, r2, r3) := H
    have A12 := Aside0.mk A120
    clear A120
    simp only [Option.some.injEq, Prod.mk.injEq] at H
    obtain ⟨rfl, rfl, rfl⟩ := H
    obtain ⟨ASz13_0, cSz13_0, HGz13, hgz13, HSz13_0, _⟩ := HI0.out
    have hcz13_0 := cellS79_0 HGz13
    have hcz13_1 := cellS79_1 HGz13
    have hcz13_2 := cellS79_2 HGz13
    have hfz13_1 := blk_frozen HGz13 1
    have hfz13_2 := blk_frozen HGz13 2
    clear HGz13 hgz13
    go_enter Tryz.func39, Tryz.ntmps39
    go_wp2_with (first | ((with_reducible refine gate_callee (f := 61) rfl ?_); refine goesL_ (some 12) rfl rfl Tryz.func61 (by kernel_rfl) rfl #[.pointer (some ⟨g, 0, none⟩)] rfl (by (try simp only [List.map_toArray, List.map_cons, List.map_nil]); first | done | rfl | (simp only [List.length_drop, List.length_take]; rfl)) ?_; (with_reducible refine (mooringref05_ReadUvarint.calls k g s0_0 s0_1 s0_2 t101 t102 t103 w0 _ ?side1 ?side2 A3.out).mono ?_); (case side1 => repeat (first | (with_reducible first | exact HI0.out | apply IsS79.alloc | apply IsS79.drewN | apply IsS79.drew | apply IsS79.set_1 | apply IsS79.set_2) | exact HI0.out)); (case side2 => repeat (first | (with_reducible first | exact HB.out | apply below_alloc | apply pw_below_drewN | apply below_drew1 | refine below_set ?_ (IsS79.ge HI0.out)) | exact HB.out)); rintro e w14 ⟨rfl, hi, hb, hk⟩; refine ⟨_, rfl, ?_⟩; have n0_ := Aside0.mk (KeepBut.trans (by repeat (first | (with_reducible first | exact HK.out | apply KeepBut.set_ | apply keep_drewN | apply keep_drew | apply keep_alloc) | exact HK.out)) hk (.inl rfl)); have n1_ := Aside0.mk (hb); have n2_ := Aside0.mk (hi); clear HK; clear HB; clear HI0; have HK := n0_; have HB := n1_; have HI0 := n2_; clear n0_ n1_ n2_; (try clear hb); (try clear hb2); (try clear hk); (try clear hi); obtain ⟨ASz15_0, cSz15_0, HGz15, hgz15, HSz15_0, _⟩ := HI0.out; have hcz15_0 := cellS79_0 HGz15; have hcz15_1 := cellS79_1 HGz15; have hcz15_2 := cellS79_2 HGz15; have hfz15_1 := blk_frozen HGz15 1; have hfz15_2 := blk_frozen HGz15 2; clear HGz15 hgz15) | ((with_reducible refine gate_callee (f := 62) rfl ?_); refine goesL_ (some 28) rfl rfl Tryz.func62 (by kernel_rfl) rfl #[.pointer (some ⟨g, 0, none⟩), .int .i64 3, .int .i64 s0_1] rfl (by (try simp only [List.map_toArray, List.map_cons, List.map_nil]); first | done | rfl | (simp only [List.length_drop, List.length_take]; rfl)) ?_; (with_reducible refine (mooringref05_wrong.calls g s0_0 t102 t103 3 s0_1 t106 t107 w0 _ ?side1 ?side2 A12.out).mono ?_); (case side1 => repeat (first | (with_reducible first | exact HI0.out | apply IsS79.alloc | apply IsS79.drewN | apply IsS79.drew | apply IsS79.set_1 | apply IsS79.set_2) | exact HI0.out)); (case side2 => repeat (first | (with_reducible first | exact HB.out | apply below_alloc | apply pw_below_drewN | apply below_drew1 | refine below_set ?_ (IsS79.ge HI0.out)) | exact HB.out)); rintro e w16 ⟨rfl, hi, hb, hk⟩; refine ⟨_, rfl, ?_⟩; have n0_ := Aside0.mk (KeepBut.trans (by repeat (first | (with_reducible first | exact HK.out | apply KeepBut.set_ | apply keep_drewN | apply keep_drew | apply keep_alloc) | exact HK.out)) hk (.inl rfl)); have n1_ := Aside0.mk (hb); have n2_ := Aside0.mk (hi); clear HK; clear HB; clear HI0; have HK := n0_; have HB := n1_; have HI0 := n2_; clear n0_ n1_ n2_; (try clear hb); (try clear hb2); (try clear hk); (try clear hi)))
    go_ret
    exact ⟨by first | rfl | (simp [errW_none, errW_some] <;> rfl) | (simp [*, errW_none, errW_some] <;> rfl), by repeat (first | (with_reducible first | exact HI0.out | apply IsS79.alloc | apply IsS79.drewN | apply IsS79.drew | apply IsS79.set_1 | apply IsS79.set_2) | exact HI0.out), by repeat (first | (with_reducible first | exact HB.out | apply below_alloc | apply pw_below_drewN | apply below_drew1 | refine below_set ?_ (IsS79.ge HI0.out)) | exact HB.out), by repeat (first | (with_reducible first | exact HK.out | apply KeepBut.set_ | apply keep_drewN | apply keep_drew | apply keep_alloc) | exact HK.out)⟩
   ·rw [if_neg c11] at H
    have c11b0 : decide ((IntKind.u64.wrap (a1)) < t101) = false := decide_eq_false c11
    clear c11
    simp only [Option.some.injEq, Prod.mk.injEq] at H
    obtain ⟨rfl, rfl, rfl⟩ := H
    obtain ⟨ASz17_0, cSz17_0, HGz17, hgz17, HSz17_0, _⟩ := HI0.out
    have hcz17_0 := cellS79_0 HGz17
    have hcz17_1 := cellS79_1 HGz17
    have hcz17_2 := cellS79_2 HGz17
    have hfz17_1 := blk_frozen HGz17 1
    have hfz17_2 := blk_frozen HGz17 2
    clear HGz17 hgz17
    go_enter Tryz.func39, Tryz.ntmps39
    go_wp2_with (first | ((with_reducible refine gate_callee (f := 61) rfl ?_); refine goesL_ (some 12) rfl rfl Tryz.func61 (by kernel_rfl) rfl #[.pointer (some ⟨g, 0, none⟩)] rfl (by (try simp only [List.map_toArray, List.map_cons, List.map_nil]); first | done | rfl | (simp only [List.length_drop, List.length_take]; rfl)) ?_; (with_reducible refine (mooringref05_ReadUvarint.calls k g s0_0 s0_1 s0_2 t101 t102 t103 w0 _ ?side1 ?side2 A3.out).mono ?_); (case side1 => repeat (first | (with_reducible first | exact HI0.out | apply IsS79.alloc | apply IsS79.drewN | apply IsS79.drew | apply IsS79.set_1 | apply IsS79.set_2) | exact HI0.out)); (case side2 => repeat (first | (with_reducible first | exact HB.out | apply below_alloc | apply pw_below_drewN | apply below_drew1 | refine below_set ?_ (IsS79.ge HI0.out)) | exact HB.out)); rintro e w18 ⟨rfl, hi, hb, hk⟩; refine ⟨_, rfl, ?_⟩; have n0_ := Aside0.mk (KeepBut.trans (by repeat (first | (with_reducible first | exact HK.out | apply KeepBut.set_ | apply keep_drewN | apply keep_drew | apply keep_alloc) | exact HK.out)) hk (.inl rfl)); have n1_ := Aside0.mk (hb); have n2_ := Aside0.mk (hi); clear HK; clear HB; clear HI0; have HK := n0_; have HB := n1_; have HI0 := n2_; clear n0_ n1_ n2_; (try clear hb); (try clear hb2); (try clear hk); (try clear hi); obtain ⟨ASz19_0, cSz19_0, HGz19, hgz19, HSz19_0, _⟩ := HI0.out; have hcz19_0 := cellS79_0 HGz19; have hcz19_1 := cellS79_1 HGz19; have hcz19_2 := cellS79_2 HGz19; have hfz19_1 := blk_frozen HGz19 1; have hfz19_2 := blk_frozen HGz19 2; clear HGz19 hgz19))
    go_ret
    exact ⟨by first | rfl | (simp [errW_none, errW_some] <;> rfl) | (simp [*, errW_none, errW_some] <;> rfl), by repeat (first | (with_reducible first | exact HI0.out | apply IsS79.alloc | apply IsS79.drewN | apply IsS79.drew | apply IsS79.set_1 | apply IsS79.set_2) | exact HI0.out), by repeat (first | (with_reducible first | exact HB.out | apply below_alloc | apply pw_below_drewN | apply below_drew1 | refine below_set ?_ (IsS79.ge HI0.out)) | exact HB.out), by repeat (first | (with_reducible first | exact HK.out | apply KeepBut.set_ | apply keep_drewN | apply keep_drew | apply keep_alloc) | exact HK.out)⟩
 ·rw [if_neg c4] at H
  have c4b0 : (t103 == 0) = false := beq_eq_false_iff_ne.mpr c4
  have c4b1 : (t103 != 0) = true := bne_iff_ne.mpr c4
  simp only [Option.some.injEq, Prod.mk.injEq] at H
  obtain ⟨rfl, rfl, rfl⟩ := H
  obtain ⟨ASz20_0, cSz20_0, HGz20, hgz20, HSz20_0, _⟩ := HI0.out
  have hcz20_0 := cellS79_0 HGz20
  have hcz20_1 := cellS79_1 HGz20
  have hcz20_2 := cellS79_2 HGz20
  have hfz20_1 := blk_frozen HGz20 1
  have hfz20_2 := blk_frozen HGz20 2
  clear HGz20 hgz20
  go_enter Tryz.func39, Tryz.ntmps39
  go_wp2_with (first | ((with_reducible refine gate_callee (f := 61) rfl ?_); refine goesL_ (some 12) rfl rfl Tryz.func61 (by kernel_rfl) rfl #[.pointer (some ⟨g, 0, none⟩)] rfl (by (try simp only [List.map_toArray, List.map_cons, List.map_nil]); first | done | rfl | (simp only [List.length_drop, List.length_take]; rfl)) ?_; (with_reducible refine (mooringref05_ReadUvarint.calls k g s0_0 s0_1 s0_2 t101 t102 t103 w0 _ ?side1 ?side2 A3.out).mono ?_); (case side1 => repeat (first | (with_reducible first | exact HI0.out | apply IsS79.alloc | apply IsS79.drewN | apply IsS79.drew | apply IsS79.set_1 | apply IsS79.set_2) | exact HI0.out)); (case side2 => repeat (first | (with_reducible first | exact HB.out | apply below_alloc | apply pw_below_drewN | apply below_drew1 | refine below_set ?_ (IsS79.ge HI0.out)) | exact HB.out)); rintro e w21 ⟨rfl, hi, hb, hk⟩; refine ⟨_, rfl, ?_⟩; have n0_ := Aside0.mk (KeepBut.trans (by repeat (first | (with_reducible first | exact HK.out | apply KeepBut.set_ | apply keep_drewN | apply keep_drew | apply keep_alloc) | exact HK.out)) hk (.inl rfl)); have n1_ := Aside0.mk (hb); have n2_ := Aside0.mk (hi); clear HK; clear HB; clear HI0; have HK := n0_; have HB := n1_; have HI0 := n2_; clear n0_ n1_ n2_; (try clear hb); (try clear hb2); (try clear hk); (try clear hi); obtain ⟨ASz22_0, cSz22_0, HGz22, hgz22, HSz22_0, _⟩ := HI0.out; have hcz22_0 := cellS79_0 HGz22; have hcz22_1 := cellS79_1 HGz22; have hcz22_2 := cellS79_2 HGz22; have hfz22_1 := blk_frozen HGz22 1; have hfz22_2 := blk_frozen HGz22 2; clear HGz22 hgz22))
  go_ret
  exact ⟨by first | rfl | (simp [errW_none, errW_some] <;> rfl) | (simp [*, errW_none, errW_some] <;> rfl), by repeat (first | (with_reducible first | exact HI0.out | apply IsS79.alloc | apply IsS79.drewN | apply IsS79.drew | apply IsS79.set_1 | apply IsS79.set_2) | exact HI0.out), by repeat (first | (with_reducible first | exact HB.out | apply below_alloc | apply pw_below_drewN | apply below_drew1 | refine below_set ?_ (IsS79.ge HI0.out)) | exact HB.out), by repeat (first | (with_reducible first | exact HK.out | apply KeepBut.set_ | apply keep_drewN | apply keep_drew | apply keep_alloc) | exact HK.out)⟩
end Go.Proofs.YtmajfcdfafhkfaaGreatDoor.P
namespace Go.Proofs.YtmajfcdfafhkfaaGreatDoor.H
open Go.RowKit Go.Proofs.YtmajfcdfafhkfaaGreatDoorW.PrintWords Go.Proofs.YtmajfcdfafhkfaaGreatDoorW.PrintLast Go.Proofs.YtmajfcdfafhkfaaGreatDoor.Leaf Go.Proofs.YtmajfcdfafhkfaaGreatDoor.P
set_option linter.unusedVariables false
set_option linter.unusedSimpArgs false
set_option maxRecDepth 100000
theorem w64 (n : Int) (h0 : -9223372036854775808 ≤ n) (h1 : n < 9223372036854775808) : wrap64 n = n := by
  unfold wrap64
  omega
theorem next_in (b : List Int) (q : Nat) (hq : q < b.length) (hl : b.length < 1000000000) : mooringref05_next.f b q 0 = some (b[q], true, ((q + 1 : Nat) : Int), 0) := by
  unfold mooringref05_next.f
  rw [if_pos rfl, if_neg (by omega)]
  rw [w64 ((q : Int) + 1) (by omega) (by omega), w64 ((q : Int) + 1 - 1) (by omega) (by omega), if_pos (by omega), if_pos (by omega)]
  have e : rd b ((q : Int) + 1 - 1) = b[q] := by
    rw [show (q : Int) + 1 - 1 = (q : Int) by omega]
    unfold rd
    rw [Int.toNat_natCast, List.getD_eq_getElem?_getD, List.getElem?_eq_getElem hq]
    rfl
  rw [e]
  rfl
theorem next_out (b : List Int) (q : Nat) (hq : b.length ≤ q) : mooringref05_next.f b q 0 = some (0, false, (q : Int), 0) := by
  unfold mooringref05_next.f
  rw [if_pos rfl, if_pos (by omega)]
theorem next_bad (b : List Int) (q e : Int) (he : e ≠ 0) : mooringref05_next.f b q e = some (0, false, q, e) := by
  unfold mooringref05_next.f
  rw [if_neg he]
theorem wrong_ok (b : List Int) (q a p : Int) : mooringref05_wrong.f b q 0 a p = some (p, a) := by
  unfold mooringref05_wrong.f
  rw [if_pos rfl]
theorem wrong_bad (b : List Int) (q e a p : Int) (he : e ≠ 0) : mooringref05_wrong.f b q e a p = some (q, e) := by
  unfold mooringref05_wrong.f
  rw [if_neg he]
theorem ru_end (k : Nat) (p acc q : Int) (b : List Int) : mooringref05_ReadUvarint.l0 (k + 1) p acc 10 b q 0 = some (0, p, 5) := by
  unfold mooringref05_ReadUvarint.l0
  rw [if_neg (by omega), wrong_ok]
  rfl
theorem ru_bad (k : Nat) (p q e : Int) (b : List Int) (he : e ≠ 0) : mooringref05_ReadUvarint.l0 (k + 1) p 0 0 b q e = some (0, q, e) := by
  unfold mooringref05_ReadUvarint.l0
  rw [if_pos (by omega), next_bad b q e he]
  simp only [Option.bind_some]
  rw [if_neg (by simp), wrong_bad _ _ _ _ _ he]
  rfl
theorem j1_stop (k : Nat) (p acc i c x : Int) (q : Int) (b : List Int) : mooringref05_ReadUvarint.j1 (k + 1) p acc i c x true b q 0 = some (0, p, 5) := by
  unfold mooringref05_ReadUvarint.j1
  rw [if_pos rfl, wrong_ok]
  rfl
theorem j1_go (k : Nat) (p : Int) (acc i cn : Nat) (q : Int) (b : List Int) (hi : i ≤ 9) (ha : acc < 128 ^ i) (hb : ¬ (i = 9 ∧ 1 < cn % 128)) : mooringref05_ReadUvarint.j1 (k + 1) p (acc : Int) (i : Int) (cn : Int) ((cn % 128 : Nat) : Int) false b q 0 =
    if cn < 128 then (if cn = 0 ∧ 0 < i then some (0, p, 5) else some (((acc + cn % 128 * 128 ^ i : Nat) : Int), q, 0)) else mooringref05_ReadUvarint.l0 k p ((acc + cn % 128 * 128 ^ i : Nat) : Int) ((i + 1 : Nat) : Int) b q 0 := by
  have hsh : IntKind.u64.wrap (wrap64 (7 * (i : Int))) = ((7 * i : Nat) : Int) := by
    rw [w64 _ (by omega) (by omega)]
    show (7 * (i : Int)) % 18446744073709551616 = _
    omega
  have hor : Go.bits .or .u64 (acc : Int) (shl .u64 ((cn % 128 : Nat) : Int) ((7 * i : Nat) : Int)) = ((acc + cn % 128 * 128 ^ i : Nat) : Int) := by
    have e1 : shl .u64 ((cn % 128 : Nat) : Int) ((7 * i : Nat) : Int) = IntKind.u64.wrap (((cn % 128 : Nat) : Int) * 2 ^ (7 * i)) := by
      unfold shl
      rw [Int.toNat_natCast, show min (7 * i) IntKind.u64.bits = 7 * i from Nat.min_eq_left (by show 7 * i ≤ 64; omega)]
    rw [e1]
    have hlt : acc + cn % 128 * 128 ^ i < 18446744073709551616 := by
      rcases (by omega : i ≤ 8 ∨ i = 9) with h | rfl
      · have h1 : 128 ^ i ≤ 128 ^ 8 := Nat.pow_le_pow_right (by decide) h
        have h2 : cn % 128 * 128 ^ i ≤ 127 * 128 ^ i := Nat.mul_le_mul_right _ (by omega)
        have h3 : (128 : Nat) ^ 8 = 72057594037927936 := by decide
        omega
      · have h1 : cn % 128 ≤ 1 := by omega
        have h3 : (128 : Nat) ^ 9 = 9223372036854775808 := by decide
        have h2 : cn % 128 * 128 ^ 9 ≤ 1 * 128 ^ 9 := Nat.mul_le_mul_right _ h1
        omega
    have e2 : ((cn % 128 : Nat) : Int) * 2 ^ (7 * i) = ((cn % 128 * 128 ^ i : Nat) : Int) := by
      rw [show (128 : Nat) ^ i = 2 ^ (7 * i) by rw [Nat.pow_mul, show (2 : Nat) ^ 7 = 128 from rfl]]
      push_cast
      rfl
    rw [e2, show IntKind.u64.wrap ((cn % 128 * 128 ^ i : Nat) : Int) = ((cn % 128 * 128 ^ i : Nat) : Int) by show ((cn % 128 * 128 ^ i : Nat) : Int) % 18446744073709551616 = _; omega]
    exact or_shl acc (cn % 128) i ha hlt
  unfold mooringref05_ReadUvarint.j1
  rw [if_neg (by simp), hsh, hor, if_pos (by omega), w64 ((i : Int) + 1) (by omega) (by omega), wrong_ok]
  by_cases h1 : cn < 128
  · rw [if_pos h1, if_pos (by omega)]
    by_cases h2 : cn = 0
    · rw [if_pos (by omega)]
      by_cases h3 : 0 < i
      · rw [if_pos (by omega), if_pos ⟨h2, h3⟩]; rfl
      · rw [if_neg (by omega), if_neg (fun h => h3 h.2)]
    · rw [if_neg (by omega), if_neg (fun h => h2 h.1)]
  · rw [if_neg h1, if_neg (by omega)]
    rfl
/-- What the reference's reading of a number comes to. -/
def ruR (p q acc i : Nat) (o : Option (Nat × Nat)) : Option (Int × Int × Int) :=
  match o with
  | none => some (0, (p : Int), 5)
  | some (n, j) => some (((acc + n * 128 ^ i : Nat) : Int), ((q + j : Nat) : Int), 0)
theorem ru_on (b : List Int) (hby : Wr.Byte b) (hl : b.length < 1000000000) (p : Nat) : ∀ (d i acc q k : Nat), i + d = 10 → acc < 128 ^ i → q ≤ b.length → 2 * d + 1 ≤ k → 0 < d →
    mooringref05_ReadUvarint.l0 k (p : Int) (acc : Int) (i : Int) b (q : Int) 0 = ruR p q acc i (Wr.peekN (b.drop q) i)
  | 0, i, acc, q, k, h, _, _, _, h0 => by omega
  | d + 1, i, acc, q, k, h, ha, hq, hk, _ => by
    obtain ⟨k, rfl⟩ : ∃ k', k = k' + 2 := ⟨k - 2, by omega⟩
    unfold mooringref05_ReadUvarint.l0
    rw [if_pos (by omega)]
    by_cases hlt : q < b.length
    · rw [next_in b q hlt hl]
      simp only [Option.bind_some, if_pos]
      obtain ⟨cn, hcn⟩ : ∃ cn : Nat, b[q] = (cn : Int) := ⟨b[q].toNat, by have := hby _ (List.getElem_mem hlt); omega⟩
      have hc256 : cn < 256 := by have := hby _ (List.getElem_mem hlt); omega
      have hdr : b.drop q = (cn : Int) :: b.drop (q + 1) := by rw [← hcn]; exact List.drop_eq_getElem_cons hlt
      rw [hcn, hdr]
      have htm : IntKind.u64.wrap (Int.tmod (cn : Int) 128) = ((cn % 128 : Nat) : Int) := by
        rw [Int.tmod_eq_emod_of_nonneg (by omega)]
        show ((cn : Int) % 128) % 18446744073709551616 = _
        omega
      rw [htm]
      unfold Wr.peekN
      have hc0 : ((cn : Int) = 0) ↔ cn = 0 := by omega
      by_cases h9 : i = 9
      · subst h9
        rw [if_pos (by omega)]
        by_cases hx : 1 < cn % 128
        · rw [show decide (((cn % 128 : Nat) : Int) > 1) = true from decide_eq_true (by omega), j1_stop]
          rw [if_pos (by omega)]
          rfl
        · rw [show decide (((cn % 128 : Nat) : Int) > 1) = false from decide_eq_false (by omega), j1_go k p acc 9 cn _ b (by omega) ha (by omega)]
          by_cases h1 : cn < 128
          · rw [if_pos h1]
            by_cases h2 : cn = 0
            · rw [if_pos ⟨h2, by omega⟩, if_pos (by omega)]; rfl
            · rw [if_neg (fun h => h2 h.1), if_neg (by omega), if_pos (by omega)]
              simp only [ruR, Int.toNat_natCast, Nat.mod_eq_of_lt h1]
          · rw [if_neg h1, if_pos (by omega)]
            obtain ⟨k', rfl⟩ : ∃ k', k = k' + 1 := ⟨k - 1, by omega⟩
            exact ru_end k' _ _ _ _
      · rw [if_neg (by omega), j1_go k p acc i cn _ b (by omega) ha (by omega)]
        by_cases h1 : cn < 128
        · rw [if_pos h1]
          by_cases h2 : cn = 0 ∧ 0 < i
          · rw [if_pos h2, if_pos (by omega)]; rfl
          · rw [if_neg h2, if_neg (by omega), if_pos (by omega)]
            simp only [ruR, Int.toNat_natCast, Nat.mod_eq_of_lt h1]
        · rw [if_neg h1, if_neg (by omega), if_neg (by omega)]
          have ha' : acc + cn % 128 * 128 ^ i < 128 ^ (i + 1) := by
            have h2 : cn % 128 * 128 ^ i ≤ 127 * 128 ^ i := Nat.mul_le_mul_right _ (by omega)
            rw [Nat.pow_succ]
            omega
          rw [ru_on b hby hl p d (i + 1) (acc + cn % 128 * 128 ^ i) (q + 1) k (by omega) ha' (by omega) (by omega) (by omega)]
          cases Wr.peekN (b.drop (q + 1)) (i + 1) with
          | none => rfl
          | some r =>
            obtain ⟨n, j⟩ := r
            simp only [ruR, Option.map_some, Int.toNat_natCast, Option.some.injEq, Prod.mk.injEq, and_true]
            have e : cn % 128 = cn - 128 := by omega
            refine ⟨?_, by omega⟩
            rw [e, Nat.pow_succ, Nat.add_mul]
            have : 128 * n * 128 ^ i = n * (128 ^ i * 128) := by
              rw [Nat.mul_comm 128 n, Nat.mul_assoc, Nat.mul_comm 128]
            omega
    · rw [next_out b q (by omega)]
      simp only [Option.bind_some]
      rw [if_neg (by simp), wrong_ok, List.drop_eq_nil_of_le (by omega)]
      rfl
end Go.Proofs.YtmajfcdfafhkfaaGreatDoor.H
namespace Go.Proofs.YtmajfcdfafhkfaaGreatDoor.H
open Go.RowKit Go.Proofs.YtmajfcdfafhkfaaGreatDoorW.PrintWords Go.Proofs.YtmajfcdfafhkfaaGreatDoorW.PrintLast Go.Proofs.YtmajfcdfafhkfaaGreatDoor.Leaf Go.Proofs.YtmajfcdfafhkfaaGreatDoor.P
set_option linter.unusedVariables false
set_option linter.unusedSimpArgs false
set_option maxHeartbeats 4000000
set_option maxRecDepth 100000
theorem ru_f (b : List Int) (hby : Wr.Byte b) (hl : b.length < 1000000000) (p : Nat) (hp : p ≤ b.length) : mooringref05_ReadUvarint.f 100 b (p : Int) 0 = ruR p p 0 0 (Wr.peekN (b.drop p) 0) := by
  unfold mooringref05_ReadUvarint.f
  exact ru_on b hby hl p 10 0 0 p 100 (by omega) (by decide) hp (by omega) (by omega)
/-- What reading a number comes to. -/
theorem rn (b : List Int) (hby : Wr.Byte b) (hl : b.length < 1000000000) (p : Nat) (hp : p ≤ b.length) (e : Int) (m : Nat) (hm : m < 2147483648) :
    ∃ (n p' : Nat) (e' : Int), mooringref05_ReadNumber.f 100 b (p : Int) e (m : Int) = some ((n : Int), (p' : Int), e') ∧ n ≤ m ∧ p' ≤ b.length ∧ ∀ n0 r, e = 0 → Wr.num m (b.drop p) = some (n0, r) → n = n0 ∧ e' = 0 ∧ r = b.drop p' := by
  by_cases he : e = 0
  · subst he
    unfold mooringref05_ReadNumber.f
    rw [ru_f b hby hl p hp]
    cases hpk : Wr.peekN (b.drop p) 0 with
    | none =>
      refine ⟨0, p, 5, rfl, Nat.zero_le _, hp, fun n0 r _ h => ?_⟩
      unfold Wr.num at h
      rw [hpk] at h
      cases h
    | some q =>
      obtain ⟨n, k⟩ := q
      have hk := (Wr.peekN_le _ _ _ _ hpk).1
      rw [List.length_drop] at hk
      simp only [ruR, Option.bind_some]
      rw [if_pos trivial, if_neg (by omega)]
      have hw : IntKind.u64.wrap (m : Int) = (m : Int) := by show (m : Int) % 18446744073709551616 = _; omega
      rw [hw]
      by_cases hle : n ≤ m
      · rw [if_neg (by omega), w64 _ (by omega) (by omega)]
        refine ⟨n, p + k, 0, by simp, hle, by omega, fun n0 r _ h => ?_⟩
        unfold Wr.num at h
        rw [hpk] at h
        simp only [Option.bind_some] at h
        rw [if_pos hle] at h
        cases h
        exact ⟨rfl, rfl, by rw [List.drop_drop]⟩
      · rw [if_pos (by omega), wrong_ok]
        refine ⟨0, p, 3, rfl, Nat.zero_le _, hp, fun n0 r _ h => ?_⟩
        unfold Wr.num at h
        rw [hpk] at h
        simp only [Option.bind_some] at h
        rw [if_neg hle] at h
        cases h
  · refine ⟨0, p, e, ?_, Nat.zero_le _, hp, fun n0 r h _ => absurd h he⟩
    unfold mooringref05_ReadNumber.f mooringref05_ReadUvarint.f
    rw [ru_bad 99 _ _ _ _ he]
    simp only [Option.bind_some]
    rw [if_neg he]
    rfl
theorem ref_ReadBytes (b : List Int) (p : Nat) (e : Int) (m : Nat) (hm : m < 2147483648) (hby : Wr.Byte b) (hl : b.length < 1000000000) (hp : p ≤ b.length) :
    ∃ (x : List Int) (p' : Nat) (e' : Int), Wr.Byte x ∧ x.length ≤ b.length ∧ p' ≤ b.length ∧ (∀ x0 r, e = 0 → Wr.bts m (b.drop p) = some (x0, r) → x = x0 ∧ e' = 0 ∧ r = b.drop p') ∧
      ∀ (w0 w : World) (g : Nat), IsS79 w0 w g b (p : Int) e → Below w0.heap.size w0 w → Calls Tryz.prog 40 #[.pointer (some ⟨g, 0, none⟩), .int .i64 (m : Int)] w fun r w' => ∃ v, r = .returned v ∧ Kd.R (Kd.int .u8) 5 w' w.heap.size (fun k => w.heap.size ≤ k) v x ∧ IsS79 w0 w' g b ((p' : Nat) : Int) e' ∧ Below w0.heap.size w0 w' ∧ KeepBut w w' g none := by
  obtain ⟨n, p1, e1, hf, hnm, hp1, himp⟩ := rn b hby hl p hp e m hm
  have HIM := Aside0.mk himp
  have HFX := Aside0.mk (And.intro hby (And.intro hl (And.intro hp1 hnm)))
  by_cases he : e1 = 0
  · subst he
    by_cases hle : n ≤ b.length - p1
    · have hw1 : IntKind.i64.wrap ((b.length : Int) - (p1 : Int)) = (b.length : Int) - (p1 : Int) := by rw [IntWalk.i64_in _ (by omega)]
      have hgt : ¬ (n : Int) > (b.length : Int) - (p1 : Int) := by omega
      have hw2 : IntKind.i64.wrap ((p1 : Int) + (n : Int)) = ((p1 + n : Nat) : Int) := by rw [IntWalk.i64_in _ (by omega)]; omega
      have HLE := Aside0.mk (show p1 + n ≤ b.length by omega)
      have hbt : ∀ x0 r, e = 0 → Wr.bts m (b.drop p) = some (x0, r) → (b.drop p1).take n = x0 ∧ r = b.drop (p1 + n) := by
        intro x0 r h0 h
        unfold Wr.bts at h
        cases hn : Wr.num m (b.drop p) with
        | none => rw [hn] at h; cases h
        | some q =>
          rw [hn] at h
          obtain ⟨e1, e2, e3⟩ := himp q.1 q.2 h0 hn
          simp only [Option.bind_some] at h
          rw [e3, ← e1] at h
          rw [if_pos (by rw [List.length_drop]; omega)] at h
          cases h
          exact ⟨rfl, by rw [List.drop_drop]⟩
      have HBT := Aside0.mk hbt
      obtain ⟨i0, hi, hz⟩ := Option.map_eq_some_iff.1 P.info5
      simp only [Prod.mk.injEq] at hz
      have HII := Aside0.mk (And.intro hi hz.2.1)
      refine ⟨(b.drop p1).take n, p1 + n, 0, (hby.drop _).take _, by rw [List.length_take, List.length_drop]; omega, HLE.out, fun x0 r h0 h => ⟨(HBT.out x0 r h0 h).1, rfl, (HBT.out x0 r h0 h).2⟩, fun w0 w g hI hB => ?_⟩
      have HN := Aside0.mk (mooringref05_ReadNumber.calls 100 g b p e m n p1 0 w0 w hI hB hf)
      obtain ⟨A0, c0, hblk, _, _, _⟩ := id hI
      have t1 := cell_of_block (k := 1) hblk rfl
      clear hf himp hI hB hblk hle hbt hi hz
      go_enter Tryz.func40, Tryz.ntmps40
      go_upto_region 5 with (first | (go_at_call 39; refine HN.out.mono ?_; rintro e w1 ⟨rfl, hI, hB, hK⟩; obtain ⟨A1, c1, hblk, _, hC1, hc1⟩ := id hI; have z0 : w1.cell? ⟨g, 0, none⟩ = some (.slice A1 b.length c1) := cell_of_block (k := 0) hblk rfl; have z1 : w1.cell? ⟨g, 1, none⟩ = some (.int .i64 (p1 : Int)) := cell_of_block (k := 1) hblk rfl; have z2 : w1.cell? ⟨g, 2, none⟩ = some (.int .i64 0) := cell_of_block (k := 2) hblk rfl; have HI := Aside0.mk hI; have HB := Aside0.mk (And.intro hB hK); have HC1 := Aside0.mk (And.intro (Kd.C_below hC1 hB) hc1); clear hI hB hK hblk hC1 hc1))
      go_region
      have y0 : w1.drew.cell? ⟨g, 0, none⟩ = some (.slice A1 b.length c1) := z0
      have y1 : w1.drew.cell? ⟨g, 1, none⟩ = some (.int .i64 (p1 : Int)) := z1
      have HI2 : Aside0 (IsS79 w0 w1.drew g b (p1 : Int) 0) := ⟨HI.out⟩
      have HB2 : Aside0 (Below w0.heap.size w0 w1.drew ∧ KeepBut w w1.drew g none) := ⟨⟨HB.out.1.drew, HB.out.2⟩⟩
      have HC2 : Aside0 (Kd.C (Kd.int .u8) w1.drew A1 b.length b ∧ b.length ≤ c1) := ⟨⟨Kd.C_drewN HC1.out.1 1, HC1.out.2⟩⟩
      clear z0 z1 z2 HI HB HC1 hw1
      generalize w1.drew = w2 at *
      go_upto_region 9 with (fail)
      have hcut := cut_mid (P := Tryz.prog) 23 5 .i64 .i64 Tryz.underlying23 HII.out.1 1 HII.out.2 A1 b.length c1 (p1 : Int) ((p1 : Int) + (n : Int)) (by omega) (by omega) (by have := HLE.out; omega) HC2.out.2
      rw [show ((p1 : Int) + (n : Int)).toNat = p1 + n by omega, Int.toNat_natCast, show p1 + n - p1 = n by omega] at hcut
      have HCM : Aside0 (Kd.C (Kd.int .u8) w2 (if c1 = p1 then A1 else A1.map (·.add (p1 * 1))) n ((b.drop p1).take n)) := ⟨by
        have h := Kd.C_mid (c := c1) (lo := p1) (hi := p1 + n) HC2.out.1 (by omega) HLE.out HC2.out.2
        rw [List.drop_take, show p1 + n - p1 = n by omega, show ((b.drop p1).take n).length = n by rw [List.length_take, List.length_drop]; have := HLE.out; omega] at h
        exact h⟩
      have hw2' : IntKind.i64.wrap ((p1 : Int) + (n : Int)) = (p1 : Int) + (n : Int) := by rw [hw2]; omega
      generalize (if c1 = p1 then A1 else A1.map (·.add (p1 * 1))) = A2 at hcut HCM
      clear hw2 hgt
      go_region_law (first | (refine Kd.R_append_rows_step (Kd.int .u8) (Rr := fun (x : Int) cs => cs = [Value.int .u8 x]) (w0 := w2) w2.heap.size rfl (.tmp 35) (.tmp 50) 23 5 (.int .u8 0) 1 rfl Tryz.underlying23 P.info5 rfl (by decide) (by decide) (.slice none 0 0) [] ((b.drop p1).take n) A2 n (c1 - p1) (fun k => w2.heap.size ≤ k) (fun _ => False) rfl rfl ?aO ?aR (fun _ _ h => h) (fun _ h => h.elim) ?aF ?aB ?aS ?aL ?_; (case aO => exact Kd.R_nil _ _ _ _ _); (case aR => exact Kd.C_drewN HCM.out 1); (case aF => exact fun k hk => hk); (case aB => exact Below.drew (Below.refl _ _)); (case aS => exact Nat.le_refl _); (case aL => have := HLE.out; have := HFX.out.2.1; show (0 + n) * 1 ≤ _; omega); intro v3 w3 ho hb hgr hat; have HO3 := Aside0.mk ho; have HB3 := Aside0.mk hb; have HI4 := Aside0.mk (IsS79.below HI2.out hb); clear ho hb hgr hat))
      all_goals
        have q1 : w3.cell? ⟨g, 1, none⟩ = some (.int .i64 (p1 : Int)) := by
          obtain ⟨A4, c4, hblk, _, _, _⟩ := HI4.out
          exact cell_of_block (k := 1) hblk rfl
        have qf : w3.frozen? ⟨g, 1, none⟩ = false := by
          obtain ⟨A4, c4, hblk, _, _, _⟩ := HI4.out
          exact blk_frozen hblk 1
        go_wp2_with fail
        go_ret
        refine ⟨_, rfl, ?_, ?_, ?_, ?_⟩
        · exact Kd.R_mono (Kd.R_lower (Kd.R_far HO3.out (p := ⟨g, 1, none⟩) (fun k hk => by have := HI2.out.lt; show k ≠ g; omega) _) HB2.out.2.1) (fun k hk => Nat.le_trans HB2.out.2.1 hk)
        · first
            | exact HI4.out.set_1 _
            | (have h := HI4.out.set_1 ((p1 + n : Nat) : Int); simpa using h)
        · exact (below_step HB2.out.1 HB3.out).setCell (p := ⟨g, 1, none⟩) (by obtain ⟨_, _, _, h, _⟩ := HI2.out; exact h) _
        · exact KeepBut.trans HB2.out.2 (KeepBut.set_ (KeepBut.of_below HB3.out g none) 1 _) (Or.inl rfl)
    · have hw1 : IntKind.i64.wrap ((b.length : Int) - (p1 : Int)) = (b.length : Int) - (p1 : Int) := by rw [IntWalk.i64_in _ (by omega)]
      have hgt : (n : Int) > (b.length : Int) - (p1 : Int) := by omega
      have HNL := Aside0.mk hle
      refine ⟨[], p, 5, (fun c hc => by cases hc), Nat.zero_le _, hp, fun x0 r h0 h => ?_, fun w0 w g hI hB => ?_⟩
      · unfold Wr.bts at h
        cases hn : Wr.num m (b.drop p) with
        | none => rw [hn] at h; cases h
        | some q =>
          rw [hn] at h
          obtain ⟨e1, e2, e3⟩ := HIM.out q.1 q.2 h0 hn
          simp only [Option.bind_some] at h
          rw [e3, ← e1, if_neg (by rw [List.length_drop]; exact HNL.out)] at h
          cases h
      have HN := Aside0.mk (mooringref05_ReadNumber.calls 100 g b p e m n p1 0 w0 w hI hB hf)
      obtain ⟨A0, c0, hblk, _, _, _⟩ := id hI
      have t1 := cell_of_block (k := 1) hblk rfl
      clear hf himp hI hB hblk hle
      go_enter Tryz.func40, Tryz.ntmps40
      go_upto_region 5 with (first | (go_at_call 39; refine HN.out.mono ?_; rintro e w1 ⟨rfl, hI, hB, hK⟩; obtain ⟨A1, c1, hblk, _, hC1, hc1⟩ := id hI; have z0 : w1.cell? ⟨g, 0, none⟩ = some (.slice A1 b.length c1) := cell_of_block (k := 0) hblk rfl; have z1 : w1.cell? ⟨g, 1, none⟩ = some (.int .i64 (p1 : Int)) := cell_of_block (k := 1) hblk rfl; have z2 : w1.cell? ⟨g, 2, none⟩ = some (.int .i64 0) := cell_of_block (k := 2) hblk rfl; have HI := Aside0.mk hI; have HB := Aside0.mk (And.intro hB hK); have HC1 := Aside0.mk (And.intro (Kd.C_below hC1 hB) hc1); clear hI hB hK hblk hC1 hc1))
      go_region
      have HI2 : Aside0 (IsS79 w0 w1.drew g b (p1 : Int) 0) := ⟨HI.out⟩
      have HB2 : Aside0 (Below w0.heap.size w0 w1.drew ∧ KeepBut w w1.drew g none) := ⟨⟨HB.out.1.drew, HB.out.2⟩⟩
      clear z0 z1 z2 HI HB HC1 hw1
      generalize w1.drew = w2 at *
      have HWR := Aside0.mk (mooringref05_wrong.calls g b p1 0 5 p p 5 w0 w2 HI2.out HB2.out.1 (wrong_ok _ _ _ _))
      go_wp2_with (first | (go_at_call 62; refine HWR.out.mono ?_; rintro e w3 ⟨rfl, hI, hB, hK⟩; have HI3 := Aside0.mk hI; have HB3 := Aside0.mk (And.intro hB (KeepBut.trans HB2.out.2 hK (Or.inl rfl))); clear hI hB hK))
      go_ret
      exact ⟨_, rfl, Kd.R_nil _ _ _ _ _, HI3.out, HB3.out.1, HB3.out.2⟩
  · have hez : (e1 != 0) = true := by simpa using he
    have HE := Aside0.mk he
    refine ⟨[], p1, e1, (fun c hc => by cases hc), Nat.zero_le _, HFX.out.2.2.1, fun x0 r h0 h => ?_, fun w0 w g hI hB => ?_⟩
    · unfold Wr.bts at h
      cases hn : Wr.num m (b.drop p) with
      | none => rw [hn] at h; cases h
      | some q => exact absurd (HIM.out q.1 q.2 h0 hn).2.1 HE.out
    have HN := Aside0.mk (mooringref05_ReadNumber.calls 100 g b p e m n p1 e1 w0 w hI hB hf)
    obtain ⟨A0, c0, hblk, _, _, _⟩ := id hI
    have t1 := cell_of_block (k := 1) hblk rfl
    clear hf himp hI hB he hblk
    go_enter Tryz.func40, Tryz.ntmps40
    go_wp2_with (first | (go_at_call 39; refine HN.out.mono ?_; rintro e w1 ⟨rfl, hI, hB, hK⟩; obtain ⟨A1, c1, hblk, _, _, _⟩ := id hI; have z2 := cell_of_block (k := 2) hblk rfl; have HI := Aside0.mk hI; have HB := Aside0.mk (And.intro hB hK); clear hI hB hK hblk))
    go_ret
    exact ⟨_, rfl, Kd.R_nil _ _ _ _ _, HI.out, HB.out.1, HB.out.2⟩
/-- Reading a number: what it comes to, and the call. -/
theorem ref_ReadNumber (b : List Int) (p : Nat) (e : Int) (m : Nat) (hm : m < 2147483648) (hby : Wr.Byte b) (hl : b.length < 1000000000) (hp : p ≤ b.length) :
    ∃ (n p' : Nat) (e' : Int), n ≤ m ∧ p' ≤ b.length ∧ (∀ n0 r, e = 0 → Wr.num m (b.drop p) = some (n0, r) → n = n0 ∧ e' = 0 ∧ r = b.drop p') ∧
      ∀ (w0 w : World) (g : Nat), IsS79 w0 w g b (p : Int) e → Below w0.heap.size w0 w → Calls Tryz.prog 39 #[.pointer (some ⟨g, 0, none⟩), .int .i64 (m : Int)] w fun r w' => r = .returned (.int .i64 (n : Int)) ∧ IsS79 w0 w' g b ((p' : Nat) : Int) e' ∧ Below w0.heap.size w0 w' ∧ KeepBut w w' g none := by
  obtain ⟨n, p1, e1, hf, hnm, hp1, himp⟩ := rn b hby hl p hp e m hm
  exact ⟨n, p1, e1, hnm, hp1, himp, fun w0 w g hI hB => mooringref05_ReadNumber.calls 100 g b p e m n p1 e1 w0 w hI hB hf⟩
end Go.Proofs.YtmajfcdfafhkfaaGreatDoor.H
namespace Go.Proofs.YtmajfcdfafhkfaaGreatDoor.P
open Go.Proofs.YtmajfcdfafhkfaaGreatDoor.Leaf
open Go.RowKit Go.Proofs.YtmajfcdfafhkfaaGreatDoorW.PrintWords Go.Proofs.YtmajfcdfafhkfaaGreatDoorW.PrintLast Go.Proofs.YtmajfcdfafhkfaaGreatDoorW.PrintMore
attribute [local go_sem] max2_int min2_int max_two min_two max_three min_three max_four min_four   -- for this text's walks alone
set_option linter.unusedVariables false
set_option linter.unusedSimpArgs false
def mooringref09_may.f (a0_0 : ByteArray) (a0_1 : Bool) (l0_2 : List Int) : Option (Bool) := if (a0_0.size : Int) ≥ 1 then (if (a0_0.size : Int) ≤ 64 then (if (l0_2.length : Int) ≤ 4096 then (if a0_1 = true then (some true) else (some ((l0_2.length : Int) == 0))) else (some false)) else (some false)) else (some false)
set_option maxHeartbeats 8000000 in
set_option maxRecDepth 100000 in
theorem mooringref09_may.calls (a0_0 : ByteArray) (a0_1 : Bool) (A0_2 : Option Addr) (c0_2 : Nat) (l0_2 : List Int) (r : Bool) (w : World) (hr0_2 : Kd.C (Kd.int .u8) w A0_2 l0_2.length l0_2) (hc0_2 : l0_2.length ≤ c0_2) (h : mooringref09_may.f a0_0 a0_1 l0_2 = some r) :
  Calls Tryz.prog 30 #[.agg #[.string a0_0, .bool a0_1, .slice A0_2 l0_2.length c0_2]] w fun e w' => e = .returned (.bool r) ∧ Below w.heap.size w w' := by
 have hu62 := Tryz.underlying62
 have HR0_2 := Aside0.mk hr0_2
 have HC0_2 := Aside0.mk hc0_2
 clear hr0_2 hc0_2
 have HB := Aside0.mk (Below.refl w.heap.size w)
 have H : (if (a0_0.size : Int) ≥ 1 then (if (a0_0.size : Int) ≤ 64 then (if (l0_2.length : Int) ≤ 4096 then (if a0_1 = true then (some true) else (some ((l0_2.length : Int) == 0))) else (some false)) else (some false)) else (some false)) = some r := h
 clear h
 by_cases c2 : (a0_0.size : Int) ≥ 1
 ·rw [if_pos c2] at H
  have c2b0 : decide (1 ≤ (a0_0.size : Int)) = true := decide_eq_true c2
  have c2b1 : decide (1 ≤ a0_0.size) = true := decide_eq_true (by omega)
  clear c2
  by_cases c3 : (a0_0.size : Int) ≤ 64
  ·rw [if_pos c3] at H
   have c3b0 : decide ((a0_0.size : Int) ≤ 64) = true := decide_eq_true c3
   have c3b1 : decide (a0_0.size ≤ 64) = true := decide_eq_true (by omega)
   clear c3
   by_cases c4 : (l0_2.length : Int) ≤ 4096
   ·rw [if_pos c4] at H
    have c4b0 : decide ((l0_2.length : Int) ≤ 4096) = true := decide_eq_true c4
    have c4b1 : decide (l0_2.length ≤ 4096) = true := decide_eq_true (by omega)
    clear c4
    by_cases c5 : a0_1 = true
    ·subst c5
     have H1 : (some true) = some r := by rw [if_pos rfl] at H; exact H
     clear H
     have H := H1
     clear H1
     obtain rfl := Option.some.inj H
     go_enter Tryz.func30, Tryz.ntmps30
     go_wp2_with (first | ((with_reducible refine gate_dst (N := 1) rfl ?_); (try (refine gate_guard (by rfl) ?_; dsimp only)); refine box_event ?hg (N := 1) ?hd (cs := #[.string a0_0, .bool true, .slice A0_2 l0_2.length c0_2]) (t := 62) ?hr ?_; (case hd => rfl); (case hg => rfl); (case hr => first | (go_simp; done) | (go_simp; rfl)); intro gb101 hg w6 hbox hb; have n0_ := Aside0.mk (below_step (by repeat (first | (with_reducible first | exact HB.out | apply below_alloc | apply pw_below_drewN | apply below_drew1) | exact HB.out)) hb); have n1_ := Aside0.mk (hbox); have n2_ := Aside0.mk ((by rw [hg]; exact (below_size (by repeat (first | (with_reducible first | exact HB.out | apply below_alloc | apply pw_below_drewN | apply below_drew1) | exact HB.out))) : w.heap.size ≤ gb101)); have n3_ := Aside0.mk ((by rw [hg]; exact (below_size (by repeat (first | (with_reducible first | exact HB.out | apply below_alloc | apply pw_below_drewN | apply below_drew1) | exact HB.out))) : w.heap.size ≤ gb101)); clear HB; have HB := n0_; have BK101 := n1_; have GW101 := n2_; have GE101 := n3_; clear n0_ n1_ n2_ n3_; clear hb hbox hg; have hcz7_0 : w6.cell? ⟨gb101, 0, none⟩ = some (.string a0_0) := (blk_cell BK101.out 0).trans rfl; have hcz7_1 : w6.cell? ⟨gb101, 1, none⟩ = some (.bool true) := (blk_cell BK101.out 1).trans rfl; have hcz7_2 : w6.cell? ⟨gb101, 2, none⟩ = some (.slice A0_2 l0_2.length c0_2) := (blk_cell BK101.out 2).trans rfl; have hfz7_0 := blk_frozen BK101.out 0; have hfz7_1 := blk_frozen BK101.out 1; have hfz7_2 := blk_frozen BK101.out 2))
     go_ret
     exact ⟨by first | rfl | (simp [errW_none, errW_some] <;> rfl) | (simp [*, errW_none, errW_some] <;> rfl), by repeat (first | (with_reducible first | exact HB.out | apply below_alloc | apply pw_below_drewN | apply below_drew1 | refine below_set ?_ GE101.out) | exact HB.out)⟩
    ·replace c5 := Bool.eq_false_iff.mpr c5
     subst c5
     have H1 : (some ((l0_2.length : Int) == 0)) = some r := by rw [if_neg (show ¬ (false = true) by decide)] at H; exact H
     clear H
     have H := H1
     clear H1
     obtain rfl := Option.some.inj H
     go_enter Tryz.func30, Tryz.ntmps30
     go_wp2_with (first | ((with_reducible refine gate_dst (N := 1) rfl ?_); (try (refine gate_guard (by rfl) ?_; dsimp only)); refine box_event ?hg (N := 1) ?hd (cs := #[.string a0_0, .bool false, .slice A0_2 l0_2.length c0_2]) (t := 62) ?hr ?_; (case hd => rfl); (case hg => rfl); (case hr => first | (go_simp; done) | (go_simp; rfl)); intro gb101 hg w8 hbox hb; have n0_ := Aside0.mk (below_step (by repeat (first | (with_reducible first | exact HB.out | apply below_alloc | apply pw_below_drewN | apply below_drew1) | exact HB.out)) hb); have n1_ := Aside0.mk (hbox); have n2_ := Aside0.mk ((by rw [hg]; exact (below_size (by repeat (first | (with_reducible first | exact HB.out | apply below_alloc | apply pw_below_drewN | apply below_drew1) | exact HB.out))) : w.heap.size ≤ gb101)); have n3_ := Aside0.mk ((by rw [hg]; exact (below_size (by repeat (first | (with_reducible first | exact HB.out | apply below_alloc | apply pw_below_drewN | apply below_drew1) | exact HB.out))) : w.heap.size ≤ gb101)); clear HB; have HB := n0_; have BK101 := n1_; have GW101 := n2_; have GE101 := n3_; clear n0_ n1_ n2_ n3_; clear hb hbox hg; have hcz9_0 : w8.cell? ⟨gb101, 0, none⟩ = some (.string a0_0) := (blk_cell BK101.out 0).trans rfl; have hcz9_1 : w8.cell? ⟨gb101, 1, none⟩ = some (.bool false) := (blk_cell BK101.out 1).trans rfl; have hcz9_2 : w8.cell? ⟨gb101, 2, none⟩ = some (.slice A0_2 l0_2.length c0_2) := (blk_cell BK101.out 2).trans rfl; have hfz9_0 := blk_frozen BK101.out 0; have hfz9_1 := blk_frozen BK101.out 1; have hfz9_2 := blk_frozen BK101.out 2))
     go_ret
     exact ⟨by first | rfl | (simp [errW_none, errW_some] <;> rfl) | (simp [*, errW_none, errW_some] <;> rfl), by repeat (first | (with_reducible first | exact HB.out | apply below_alloc | apply pw_below_drewN | apply below_drew1 | refine below_set ?_ GE101.out) | exact HB.out)⟩
   ·rw [if_neg c4] at H
    have c4b0 : decide ((l0_2.length : Int) ≤ 4096) = false := decide_eq_false c4
    have c4b1 : decide (l0_2.length ≤ 4096) = false := decide_eq_false (by omega)
    clear c4
    obtain rfl := Option.some.inj H
    go_enter Tryz.func30, Tryz.ntmps30
    go_wp2_with (first | ((with_reducible refine gate_dst (N := 1) rfl ?_); (try (refine gate_guard (by rfl) ?_; dsimp only)); refine box_event ?hg (N := 1) ?hd (cs := #[.string a0_0, .bool a0_1, .slice A0_2 l0_2.length c0_2]) (t := 62) ?hr ?_; (case hd => rfl); (case hg => rfl); (case hr => first | (go_simp; done) | (go_simp; rfl)); intro gb101 hg w10 hbox hb; have n0_ := Aside0.mk (below_step (by repeat (first | (with_reducible first | exact HB.out | apply below_alloc | apply pw_below_drewN | apply below_drew1) | exact HB.out)) hb); have n1_ := Aside0.mk (hbox); have n2_ := Aside0.mk ((by rw [hg]; exact (below_size (by repeat (first | (with_reducible first | exact HB.out | apply below_alloc | apply pw_below_drewN | apply below_drew1) | exact HB.out))) : w.heap.size ≤ gb101)); have n3_ := Aside0.mk ((by rw [hg]; exact (below_size (by repeat (first | (with_reducible first | exact HB.out | apply below_alloc | apply pw_below_drewN | apply below_drew1) | exact HB.out))) : w.heap.size ≤ gb101)); clear HB; have HB := n0_; have BK101 := n1_; have GW101 := n2_; have GE101 := n3_; clear n0_ n1_ n2_ n3_; clear hb hbox hg; have hcz11_0 : w10.cell? ⟨gb101, 0, none⟩ = some (.string a0_0) := (blk_cell BK101.out 0).trans rfl; have hcz11_1 : w10.cell? ⟨gb101, 1, none⟩ = some (.bool a0_1) := (blk_cell BK101.out 1).trans rfl; have hcz11_2 : w10.cell? ⟨gb101, 2, none⟩ = some (.slice A0_2 l0_2.length c0_2) := (blk_cell BK101.out 2).trans rfl; have hfz11_0 := blk_frozen BK101.out 0; have hfz11_1 := blk_frozen BK101.out 1; have hfz11_2 := blk_frozen BK101.out 2))
    go_ret
    exact ⟨by first | rfl | (simp [errW_none, errW_some] <;> rfl) | (simp [*, errW_none, errW_some] <;> rfl), by repeat (first | (with_reducible first | exact HB.out | apply below_alloc | apply pw_below_drewN | apply below_drew1 | refine below_set ?_ GE101.out) | exact HB.out)⟩
  ·rw [if_neg c3] at H
   have c3b0 : decide ((a0_0.size : Int) ≤ 64) = false := decide_eq_false c3
   have c3b1 : decide (a0_0.size ≤ 64) = false := decide_eq_false (by omega)
   clear c3
   obtain rfl := Option.some.inj H
   go_enter Tryz.func30, Tryz.ntmps30
   go_wp2_with (first | ((with_reducible refine gate_dst (N := 1) rfl ?_); (try (refine gate_guard (by rfl) ?_; dsimp only)); refine box_event ?hg (N := 1) ?hd (cs := #[.string a0_0, .bool a0_1, .slice A0_2 l0_2.length c0_2]) (t := 62) ?hr ?_; (case hd => rfl); (case hg => rfl); (case hr => first | (go_simp; done) | (go_simp; rfl)); intro gb101 hg w12 hbox hb; have n0_ := Aside0.mk (below_step (by repeat (first | (with_reducible first | exact HB.out | apply below_alloc | apply pw_below_drewN | apply below_drew1) | exact HB.out)) hb); have n1_ := Aside0.mk (hbox); have n2_ := Aside0.mk ((by rw [hg]; exact (below_size (by repeat (first | (with_reducible first | exact HB.out | apply below_alloc | apply pw_below_drewN | apply below_drew1) | exact HB.out))) : w.heap.size ≤ gb101)); have n3_ := Aside0.mk ((by rw [hg]; exact (below_size (by repeat (first | (with_reducible first | exact HB.out | apply below_alloc | apply pw_below_drewN | apply below_drew1) | exact HB.out))) : w.heap.size ≤ gb101)); clear HB; have HB := n0_; have BK101 := n1_; have GW101 := n2_; have GE101 := n3_; clear n0_ n1_ n2_ n3_; clear hb hbox hg; have hcz13_0 : w12.cell? ⟨gb101, 0, none⟩ = some (.string a0_0) := (blk_cell BK101.out 0).trans rfl; have hcz13_1 : w12.cell? ⟨gb101, 1, none⟩ = some (.bool a0_1) := (blk_cell BK101.out 1).trans rfl; have hcz13_2 : w12.cell? ⟨gb101, 2, none⟩ = some (.slice A0_2 l0_2.length c0_2) := (blk_cell BK101.out 2).trans rfl; have hfz13_0 := blk_frozen BK101.out 0; have hfz13_1 := blk_frozen BK101.out 1; have hfz13_2 := blk_frozen BK101.out 2))
   go_ret
   exact ⟨by first | rfl | (simp [errW_none, errW_some] <;> rfl) | (simp [*, errW_none, errW_some] <;> rfl), by repeat (first | (with_reducible first | exact HB.out | apply below_alloc | apply pw_below_drewN | apply below_drew1 | refine below_set ?_ GE101.out) | exact HB.out)⟩
 ·rw [if_neg c2] at H
  have c2b0 : decide (1 ≤ (a0_0.size : Int)) = false := decide_eq_false c2
  have c2b1 : decide (1 ≤ a0_0.size) = false := decide_eq_false (by omega)
  clear c2
  obtain rfl := Option.some.inj H
  go_enter Tryz.func30, Tryz.ntmps30
  go_wp2_with (first | ((with_reducible refine gate_dst (N := 1) rfl ?_); (try (refine gate_guard (by rfl) ?_; dsimp only)); refine box_event ?hg (N := 1) ?hd (cs := #[.string a0_0, .bool a0_1, .slice A0_2 l0_2.length c0_2]) (t := 62) ?hr ?_; (case hd => rfl); (case hg => rfl); (case hr => first | (go_simp; done) | (go_simp; rfl)); intro gb101 hg w14 hbox hb; have n0_ := Aside0.mk (below_step (by repeat (first | (with_reducible first | exact HB.out | apply below_alloc | apply pw_below_drewN | apply below_drew1) | exact HB.out)) hb); have n1_ := Aside0.mk (hbox); have n2_ := Aside0.mk ((by rw [hg]; exact (below_size (by repeat (first | (with_reducible first | exact HB.out | apply below_alloc | apply pw_below_drewN | apply below_drew1) | exact HB.out))) : w.heap.size ≤ gb101)); have n3_ := Aside0.mk ((by rw [hg]; exact (below_size (by repeat (first | (with_reducible first | exact HB.out | apply below_alloc | apply pw_below_drewN | apply below_drew1) | exact HB.out))) : w.heap.size ≤ gb101)); clear HB; have HB := n0_; have BK101 := n1_; have GW101 := n2_; have GE101 := n3_; clear n0_ n1_ n2_ n3_; clear hb hbox hg; have hcz15_0 : w14.cell? ⟨gb101, 0, none⟩ = some (.string a0_0) := (blk_cell BK101.out 0).trans rfl; have hcz15_1 : w14.cell? ⟨gb101, 1, none⟩ = some (.bool a0_1) := (blk_cell BK101.out 1).trans rfl; have hcz15_2 : w14.cell? ⟨gb101, 2, none⟩ = some (.slice A0_2 l0_2.length c0_2) := (blk_cell BK101.out 2).trans rfl; have hfz15_0 := blk_frozen BK101.out 0; have hfz15_1 := blk_frozen BK101.out 1; have hfz15_2 := blk_frozen BK101.out 2))
  go_ret
  exact ⟨by first | rfl | (simp [errW_none, errW_some] <;> rfl) | (simp [*, errW_none, errW_some] <;> rfl), by repeat (first | (with_reducible first | exact HB.out | apply below_alloc | apply pw_below_drewN | apply below_drew1 | refine below_set ?_ GE101.out) | exact HB.out)⟩
end Go.Proofs.YtmajfcdfafhkfaaGreatDoor.P
namespace Go.Proofs.YtmajfcdfafhkfaaGreatDoor.H
open Go.RowKit Go.Proofs.YtmajfcdfafhkfaaGreatDoorW.PrintWords Go.Proofs.YtmajfcdfafhkfaaGreatDoorW.PrintLast Go.Proofs.YtmajfcdfafhkfaaGreatDoor.Leaf Go.Proofs.YtmajfcdfafhkfaaGreatDoor.P
set_option linter.unusedVariables false
set_option linter.unusedSimpArgs false
set_option maxHeartbeats 2000000
set_option maxRecDepth 100000
theorem ref_Uvarint (W : World) (x : Nat) (hx : x < 18446744073709551616) :
    Calls Tryz.prog 31 #[.int .u64 (x : Int)] W fun e w' => ∃ v, e = .returned v ∧ Kd.R (Kd.int .u8) 5 w' W.heap.size (fun k => W.heap.size ≤ k) v (Wr.uv x) ∧ Below W.heap.size W w' := by
  go_enter Tryz.func31, Tryz.ntmps31
  go_wp2_with fail
  go_loopg [0, 3] x (fun gg s0 s3 wr => ∃ (m : Nat) (pre : List Int), s0 = .int .u64 (m : Int) ∧ m ≤ gg ∧ m ≤ x ∧ Wr.uv x = pre ++ Wr.uv m ∧ Aside0 (Below W.heap.size W wr) ∧ Aside0 (Kd.R (Kd.int .u8) 5 wr W.heap.size (fun k => W.heap.size ≤ k) s3 pre))
  case atStart => exact ⟨x, [], rfl, Nat.le_refl _, Nat.le_refl _, rfl, ⟨Below.refl _ _⟩, ⟨Kd.R_nil _ _ _ _ _⟩⟩
  case round =>
    obtain ⟨m, pre, rfl, hg, hmx, hpre, HB, HR⟩ := hrel
    have HLU : Aside0 (pre.length < 100) := ⟨by
      have h1 := congrArg List.length hpre
      have h2 := uv_len x hx
      rw [List.length_append] at h1
      omega⟩
    by_cases hge : 128 ≤ m
    · have hgez : ((m : Int) ≥ 128) := by omega
      have HU : Aside0 (Wr.uv m = [(m : Int) % 128 + 128] ++ Wr.uv (m / 128)) := ⟨by rw [uv_step hge, show ((m % 128 + 128 : Nat) : Int) = (m : Int) % 128 + 128 by omega]; rfl⟩
      go_wp2_with (first | ((with_reducible refine gate_builtin (b := .append) (xs := #[.tmp 6, .tmp 11]) rfl ?_); at_builtin; refine Kd.R_append_rows (Kd.int .u8) (Rr := fun (x : Int) cs => cs = [Value.int .u8 x]) (w0 := W) W.heap.size rfl (.tmp 6) (.tmp 11) 23 5 (.int .u8 0) 1 rfl Tryz.underlying23 P.info5 rfl (by decide) (by decide) u3 pre [(m : Int) % 128 + 128] _ 1 1 (fun k => W.heap.size ≤ k) (fun _ => False) rfl rfl ?aO ?aR (fun _ _ h => h) (fun _ h => h.elim) ?aF ?aB ?aS ?aL ?_; (case aO => exact Kd.R_alloc HR.out _); (case aR => exact lit1 (heap_top _ _)); (case aF => exact fun k hk => Nat.le_trans (below_step HB.out (below_alloc (Below.refl _ _) _)).size hk); (case aB => exact below_alloc HB.out _); (case aS => exact (below_step HB.out (below_alloc (Below.refl _ _) _)).size); (case aL => have := HLU.out; show (pre.length + 1) * 1 ≤ _; omega); intro v1 w1 ho hb hgr hat; have HO1 := Aside0.mk ho; have HB1 := Aside0.mk hb; clear ho hb hgr hat))
      go_roundg (m / 128)
      case measure => omega
      case rel => exact ⟨m / 128, pre ++ [(m : Int) % 128 + 128], by go_num, by omega, by omega, by rw [hpre, HU.out, List.append_assoc], HB1, HO1⟩
    · have hgez : ¬ ((m : Int) ≥ 128) := by omega
      go_wp2_with (first | ((with_reducible refine gate_builtin (b := .append) (xs := #[.tmp 15, .tmp 18]) rfl ?_); at_builtin; refine Kd.R_append_rows (Kd.int .u8) (Rr := fun (x : Int) cs => cs = [Value.int .u8 x]) (w0 := W) W.heap.size rfl (.tmp 15) (.tmp 18) 23 5 (.int .u8 0) 1 rfl Tryz.underlying23 P.info5 rfl (by decide) (by decide) u3 pre [(m : Int)] _ 1 1 (fun k => W.heap.size ≤ k) (fun _ => False) rfl rfl ?aO ?aR (fun _ _ h => h) (fun _ h => h.elim) ?aF ?aB ?aS ?aL ?_; (case aO => exact Kd.R_alloc HR.out _); (case aR => exact lit1 (heap_top _ _)); (case aF => exact fun k hk => Nat.le_trans (below_step HB.out (below_alloc (Below.refl _ _) _)).size hk); (case aB => exact below_alloc HB.out _); (case aS => exact (below_step HB.out (below_alloc (Below.refl _ _) _)).size); (case aL => have := HLU.out; show (pre.length + 1) * 1 ≤ _; omega); intro v1 w1 ho hb hgr hat; have HO1 := Aside0.mk ho; have HB1 := Aside0.mk hb; clear ho hb hgr hat))
      go_ret
      exact ⟨_, rfl, by rw [uv_last (by omega)]; exact HO1.out, HB1.out⟩
theorem ref_Bytes (W : World) (X : Option Addr) (m cx : Nat) (s : List Int) (hm : m < 9000000000000) (hX : Kd.C (Kd.int .u8) W X m s) :
    Calls Tryz.prog 32 #[.slice X m cx] W fun e w' => ∃ v, e = .returned v ∧ Kd.R (Kd.int .u8) 5 w' W.heap.size (fun k => W.heap.size ≤ k) v (Wr.uv m ++ s) ∧ Below W.heap.size W w' := by
  have HU := Aside0.mk (ref_Uvarint W m (by omega))
  have HX := Aside0.mk hX
  have hw : IntKind.u64.wrap (m : Int) = (m : Int) := by show (m : Int) % 18446744073709551616 = _; omega
  have HL : Aside0 ((Wr.uv m).length + m < 140000000000000) := ⟨by
    have := uv_len m (by omega)
    omega⟩
  clear hX
  go_enter Tryz.func32, Tryz.ntmps32
  go_wp2_with (first | (go_at_call 31; refine HU.out.mono ?_; rintro e w1 ⟨v, rfl, hR, hb⟩; have HR := Aside0.mk hR; have HB := Aside0.mk hb; have HX1 := Aside0.mk (Kd.C_below HX.out hb); clear hR hb) | ((with_reducible refine gate_builtin (b := .append) (xs := #[.tmp 6, .tmp 7]) rfl ?_); at_builtin; refine Kd.R_append_rows (Kd.int .u8) (Rr := fun (x : Int) cs => cs = [Value.int .u8 x]) (w0 := W) W.heap.size rfl (.tmp 6) (.tmp 7) 23 5 (.int .u8 0) 1 rfl Tryz.underlying23 P.info5 rfl (by decide) (by decide) v (Wr.uv m) s X m cx (fun k => W.heap.size ≤ k) (fun _ => False) rfl rfl ?aO ?aR (fun _ _ h => h) (fun _ h => h.elim) ?aF ?aB ?aS ?aL ?_; (case aO => exact HR.out); (case aR => exact HX1.out); (case aF => exact fun k hk => Nat.le_trans HB.out.size hk); (case aB => exact HB.out); (case aS => exact HB.out.size); (case aL => have := HL.out; show ((Wr.uv m).length + m) * 1 ≤ _; omega); intro v1 w2 ho hb hgr hat; have HO1 := Aside0.mk ho; have HB1 := Aside0.mk hb; clear ho hb hgr hat))
  go_ret
  exact ⟨_, rfl, HO1.out, HB1.out⟩
theorem ref_may_f (a : S62) : mooringref09_may.f a.f0 a.f1 a.f2 = some (decide (Wr.may (toA a))) := by
  have h : mooringref09_may.f a.f0 a.f1 a.f2 = store_may.f a.f0 a.f1 a.f2 := by
    unfold mooringref09_may.f store_may.f
    rfl
  rw [h, may_f]
end Go.Proofs.YtmajfcdfafhkfaaGreatDoor.H
namespace Go.Proofs.YtmajfcdfafhkfaaGreatDoor.H
open Go.RowKit Go.Proofs.YtmajfcdfafhkfaaGreatDoorW.PrintWords Go.Proofs.YtmajfcdfafhkfaaGreatDoorW.PrintLast Go.Proofs.YtmajfcdfafhkfaaGreatDoor.Leaf Go.Proofs.YtmajfcdfafhkfaaGreatDoor.P
set_option linter.unusedVariables false
set_option linter.unusedSimpArgs false
set_option maxHeartbeats 4000000
set_option maxRecDepth 100000
theorem ref_may (a : S62) (A : Option Addr) (c : Nat) (w : World) (hC : Kd.C (Kd.int .u8) w A a.f2.length a.f2) (hc : a.f2.length ≤ c) :
    Calls Tryz.prog 30 #[.agg #[.string a.f0, .bool a.f1, .slice A a.f2.length c]] w fun e w' => e = .returned (.bool (decide (Wr.may (toA a)))) ∧ Below w.heap.size w w' :=
  mooringref09_may.calls a.f0 a.f1 A c a.f2 _ w hC hc (ref_may_f a)
theorem ref_Encode (W : World) (A : Option Addr) (n c : Nat) (l : List S62) (hC : Kd.C k62 W A n l) (hn : n ≤ 9223372036854775807) :
    Calls Tryz.prog 8 #[.slice A n c] W fun e w' => EncR W w' e l ∧ Below W.heap.size W w' := by
  have HC := Aside0.mk hC
  have HL := Aside0.mk hC.1
  clear hC
  by_cases h256 : n ≤ 256
  · have h256z : ¬ (n : Int) > 256 := by omega
    have hw : IntKind.u64.wrap (n : Int) = (n : Int) := by show (n : Int) % 18446744073709551616 = _; omega
    go_enter Tryz.func8, Tryz.ntmps8
    go_wp2_with fail
    go_loopg [4] n (fun gg s4 wr => ∃ i : Nat, i ≤ n ∧ n - i ≤ gg ∧ s4 = .int .i64 (i : Int) ∧ Aside0 (Below W.heap.size W wr) ∧ Aside0 (∀ j, j < i → Wr.may (toA (rd_T62 l j))))
    case atStart => exact ⟨0, Nat.zero_le _, by omega, rfl, ⟨Below.refl _ _⟩, ⟨fun j hj => absurd hj (Nat.not_lt_zero _)⟩⟩
    case round =>
      obtain ⟨i, hi, hg, rfl, HB, HM0⟩ := hrel
      by_cases hlt : i < n
      · have hltz : (i : Int) < (n : Int) := by omega
        have hw1 : IntKind.i64.wrap ((i : Int) + 1) = (i : Int) + 1 := IntWalk.i64_in _ (by omega)
        obtain ⟨ad, A2, c2, rfl, hx0, hx1, hx2, hl2, hC2⟩ := at_act (Kd.C_below HC.out HB.out) i hlt
        have hmem : rd_T62 l i ∈ l := rd_mem l i (by have := HL.out; omega)
        have HCM := Aside0.mk (ref_may (rd_T62 l i) A2 c2 wr hC2 hl2)
        by_cases hm : Wr.may (toA (rd_T62 l i))
        · rw [decide_eq_true hm] at HCM
          have HMM := Aside0.mk hm
          clear hm hmem hC2 hl2
          go_wp2_with (first | (go_at_call 30; refine HCM.out.mono ?_; rintro e w' ⟨rfl, hb⟩; have HB1 := Aside0.mk (below_step HB.out hb); clear hb))
          go_roundg (n - (i + 1))
          case measure => omega
          case rel =>
            refine ⟨i + 1, by omega, by omega, by go_num, HB1, ⟨fun j hj => ?_⟩⟩
            by_cases e : j = i
            · subst e
              exact HMM.out
            · exact HM0.out j (by omega)
        · rw [decide_eq_false hm] at HCM
          have HMM := Aside0.mk (And.intro hm hmem)
          clear hm hmem hC2 hl2
          go_wp2_with (first | (go_at_call 30; refine HCM.out.mono ?_; rintro e w' ⟨rfl, hb⟩; have HB1 := Aside0.mk (below_step HB.out hb); clear hb))
          go_ret2
          exact ⟨Or.inr (Or.inl ⟨fun h => HMM.out.1 (h.2 _ HMM.out.2), rfl⟩), HB1.out⟩
      · have hltz : ¬ (i : Int) < (n : Int) := by omega
        obtain rfl : i = n := by omega
        have HM : Aside0 (∀ a ∈ l, Wr.may (toA a)) := ⟨fun a ha => by
          obtain ⟨j, hj, hja⟩ := List.getElem_of_mem ha
          have hjm := HM0.out j (by have := HL.out; omega)
          rwa [rd_get l j hj, hja] at hjm⟩
        clear HM0
        go_wp2_with (first | (go_at_call 31; refine (ref_Uvarint wr i (by omega)).mono ?_; rintro e w2 ⟨v, rfl, hR, hb⟩; have HB2 := Aside0.mk (below_step HB.out hb); have HR2 := Aside0.mk (Kd.R_mono (Kd.R_lower hR HB.out.size) (fun k hk => Nat.le_trans HB.out.size hk)); clear hR hb))
        go_loopg [5, 6] i (fun gg s5 s6 wr => ∃ j : Nat, j ≤ i ∧ i - j ≤ gg ∧ s6 = .int .i64 (j : Int) ∧ Aside0 (Below W.heap.size W wr) ∧ Aside0 (Kd.R (Kd.int .u8) 5 wr W.heap.size (fun k => W.heap.size ≤ k) s5 (Wr.uv i ++ ((l.map toA).take j).flatMap Wr.enc1)) ∧ Aside0 ((Wr.uv i ++ ((l.map toA).take j).flatMap Wr.enc1).length ≤ 10 + j * 5000))
        case atStart => exact ⟨0, Nat.zero_le _, by omega, rfl, HB2, ⟨by simpa using HR2.out⟩, ⟨by have := uv_len i (by omega); simpa using this⟩⟩
        case round =>
          clear HB HB2 HR2
          obtain ⟨j, hj, hgg, rfl, HB, HR, HZ⟩ := hrel
          by_cases hltj : j < i
          · have hltjz : (j : Int) < (i : Int) := by omega
            have hw1 : IntKind.i64.wrap ((j : Int) + 1) = (j : Int) + 1 := IntWalk.i64_in _ (by omega)
            obtain ⟨ad, A2, c2, rfl, hx0, hx1, hx2, hl2, hC2⟩ := at_act HC.out j hltj
            have HTK := Aside0.mk (take_acts l j (by have := HL.out; omega))
            have HMA := Aside0.mk (HM.out _ (rd_mem l j (by have := HL.out; omega)))
            generalize rd_T62 l j = a at *
            have HX := Aside0.mk (And.intro hx1 (And.intro hx2 (And.intro hl2 hC2)))
            have y0 := pw_cell_below HB.out hx0
            have hcv := fun W => str_bytes W a.f0
            have HBB := Aside0.mk (bytes_below (Below.refl wr.heap.size wr) (Nat.le_refl _) 5 a.f0)
            have HBW := Aside0.mk (below_step HB.out HBB.out)
            have HKL : Aside0 (a.f0.size ≤ 64) := ⟨by have := HMA.out.2.1; rwa [show (toA a).1 = kb a.f0 from rfl, kb_length] at this⟩
            have HDL : Aside0 (a.f2.length ≤ 4096) := ⟨HMA.out.2.2.1⟩
            have HBY := Aside0.mk (ref_Bytes (Lib.bytesWorld wr 5 a.f0) (some ⟨wr.heap.size, 0, none⟩) a.f0.size (grownCap wr a.f0.size 0 5) (kb a.f0) (by have := HKL.out; omega) (C_bytesWorld wr a.f0 (by have := HKL.out; omega)))
            generalize hpre : Wr.uv i ++ ((l.map toA).take j).flatMap Wr.enc1 = pre at *
            have HPR := Aside0.mk hpre
            have HKB : Aside0 ((Wr.uv a.f0.size ++ kb a.f0).length ≤ 80) := ⟨by
              have h2 := uv_len a.f0.size (by have := HKL.out; omega)
              have h3 := HKL.out
              rw [List.length_append, kb_length]; omega⟩
            have HL1 : Aside0 (pre.length + (Wr.uv a.f0.size ++ kb a.f0).length < 100000000000) := ⟨by have := HZ.out; have := HKB.out; omega⟩
            have HLen2 : Aside0 ((pre ++ (Wr.uv a.f0.size ++ kb a.f0)).length ≤ 10 + j * 5000 + 80) := ⟨by
              have h1 := HZ.out
              have h2 := HKB.out
              rw [List.length_append]; omega⟩
            generalize hkk : Wr.uv a.f0.size ++ kb a.f0 = kk at *
            have HKK := Aside0.mk hkk
            clear hpre hx0 hx1 hx2 hl2 hC2 hkk
            by_cases hs : a.f1 = true
            · rw [hs] at HX
              have HS := Aside0.mk hs
              clear hs
              go_upto_region 14 with (first | (go_at_call 32; refine HBY.out.mono ?_; rintro e w1 ⟨vk, rfl, hR, hb⟩; obtain ⟨Ak, ck, rfl, _, _, hCk⟩ := R_own hR; have HCK := Aside0.mk hCk; have HB1 := Aside0.mk (below_step HBW.out hb); have HR1 := Aside0.mk (Kd.R_below (Kd.R_below HR.out HBB.out) hb); clear hR hb hCk) | ((with_reducible refine gate_builtin (b := .append) (xs := #[.tmp 32, .tmp 39]) rfl ?_); at_builtin; refine Kd.R_append_rows (Kd.int .u8) (Rr := fun (x : Int) cs => cs = [Value.int .u8 x]) (w0 := W) W.heap.size rfl (.tmp 32) (.tmp 39) 23 5 (.int .u8 0) 1 rfl Tryz.underlying23 P.info5 rfl (by decide) (by decide) u5 pre kk Ak kk.length ck (fun k => W.heap.size ≤ k) (fun _ => False) rfl rfl ?aO ?aR (fun _ _ h => h) (fun _ h => h.elim) ?aF ?aB ?aS ?aL ?_; (case aO => exact HR1.out); (case aR => exact HCK.out); (case aF => exact fun k hk => Nat.le_trans (HB1.out).size hk); (case aB => exact HB1.out); (case aS => exact (HB1.out).size); (case aL => have := HL1.out; show ((pre).length + kk.length) * 1 ≤ _; omega); intro vw2 w2 ho hb hgr hat; have HO1 := Aside0.mk ho; have HB2 := Aside0.mk hb; clear ho hb hgr hat; have z1 := pw_cell_below HB2.out HX.out.1; have z2 := pw_cell_below HB2.out HX.out.2.1))
              have HKK2 : Aside0 (∃ kk2, Wr.uv a.f2.length ++ a.f2 = kk2) := ⟨⟨_, rfl⟩⟩
              obtain ⟨kk2, hkk2⟩ := HKK2.out
              clear HKK2
              have HKK2 := Aside0.mk hkk2
              clear hkk2
              have HL3 : Aside0 ((pre ++ kk ++ [1]).length + kk2.length ≤ 10 + j * 5000 + 4900) := ⟨by
                have h1 := HLen2.out
                have h2 := uv_len a.f2.length (by have := HDL.out; omega)
                have h3 := HDL.out
                have e5 : (Wr.uv a.f2.length ++ a.f2).length = (Wr.uv a.f2.length).length + a.f2.length := List.length_append
                have e6 : (pre ++ kk ++ [1]).length = (pre ++ kk).length + 1 := List.length_append
                rw [← HKK2.out]
                omega⟩
              have z2' : ∀ o, (w2.alloc o).cell? ⟨(ad.add (j * 3)).block, (ad.add (j * 3)).off + 2, none⟩ = some (.slice A2 a.f2.length c2) := fun o => pw_cell_below (below_alloc HB2.out o) HX.out.2.1
              go_region_law (first | (go_simp; go_at_call 32; refine HBY2.out.mono ?_; rintro e w4 ⟨v4, rfl, hR, hb⟩; obtain ⟨A4, c4, rfl, _, _, hC4⟩ := R_own hR; have HC4 := Aside0.mk hC4; have HB4 := Aside0.mk (below_step HB3.out hb); have HO4 := Aside0.mk (Kd.R_below HO3.out hb); clear hR hb hC4) | (refine Kd.R_append_rows_step (Kd.int .u8) (Rr := fun (x : Int) cs => cs = [Value.int .u8 x]) (w0 := W) W.heap.size rfl (.tmp 46) (.tmp 47) 23 5 (.int .u8 0) 1 rfl Tryz.underlying23 P.info5 rfl (by decide) (by decide) vw2 (pre ++ kk) [1] _ 1 1 (fun k => W.heap.size ≤ k) (fun _ => False) rfl rfl ?aO ?aR (fun _ _ h => h) (fun _ h => h.elim) ?aF ?aB ?aS ?aL ?_; (case aO => exact Kd.R_alloc (Kd.R_drewN HO1.out 1) _); (case aR => exact lit1 (heap_top _ _)); (case aF => exact fun k hk => Nat.le_trans (below_alloc (Below.drew HB2.out) _).size hk); (case aB => exact below_alloc (Below.drew HB2.out) _); (case aS => exact (below_alloc (Below.drew HB2.out) _).size); (case aL => have := HLen2.out; show (((pre ++ kk)).length + 1) * 1 ≤ _; omega); intro vw3 w3 ho hb hgr hat; have HO3 := Aside0.mk ho; have HB3 := Aside0.mk hb; have m2 := pw_cell_below HB3.out HX.out.2.1; have HBY2 := Aside0.mk (ref_Bytes w3 A2 a.f2.length c2 a.f2 (by have := HDL.out; omega) (Kd.C_below HX.out.2.2.2 HB3.out)); rw [HKK2.out] at HBY2; clear ho hb hgr hat) | (refine Kd.R_append_rows_step (Kd.int .u8) (Rr := fun (x : Int) cs => cs = [Value.int .u8 x]) (w0 := W) W.heap.size rfl (.tmp 48) (.tmp 54) 23 5 (.int .u8 0) 1 rfl Tryz.underlying23 P.info5 rfl (by decide) (by decide) vw3 (pre ++ kk ++ [1]) kk2 A4 kk2.length c4 (fun k => W.heap.size ≤ k) (fun _ => False) rfl rfl ?aO ?aR (fun _ _ h => h) (fun _ h => h.elim) ?aF ?aB ?aS ?aL ?_; (case aO => exact HO4.out); (case aR => exact HC4.out); (case aF => exact fun k hk => Nat.le_trans (HB4.out).size hk); (case aB => exact HB4.out); (case aS => exact (HB4.out).size); (case aL => have := HL3.out; show (((pre ++ kk ++ [1])).length + kk2.length) * 1 ≤ _; omega); intro vw5 w5 ho hb hgr hat; have HO5 := Aside0.mk ho; have HB5 := Aside0.mk hb; clear ho hb hgr hat))
              all_goals
                go_wp2_with fail
                go_roundg (i - (j + 1))
                case measure => omega
                case rel =>
                  have e1 : Wr.uv i ++ ((l.map toA).take (j + 1)).flatMap Wr.enc1 = pre ++ kk ++ [1] ++ kk2 := by
                    rw [← HKK.out, ← HKK2.out, HTK.out, List.flatMap_append, ← List.append_assoc, HPR.out]
                    simp [Wr.enc1, toA, HS.out, kb_length]
                  exact ⟨j + 1, by omega, by omega, by go_num, HB5, ⟨by rw [e1]; exact HO5.out⟩, ⟨by
                    rw [e1, List.length_append]
                    have := HL3.out
                    omega⟩⟩
            · have hs' : a.f1 = false := by cases h : a.f1 <;> simp_all
              rw [hs'] at HX
              have HS := Aside0.mk hs'
              clear hs hs'
              go_wp2_with (first | (go_at_call 32; refine HBY.out.mono ?_; rintro e w1 ⟨vk, rfl, hR, hb⟩; obtain ⟨Ak, ck, rfl, _, _, hCk⟩ := R_own hR; have HCK := Aside0.mk hCk; have HB1 := Aside0.mk (below_step HBW.out hb); have HR1 := Aside0.mk (Kd.R_below (Kd.R_below HR.out HBB.out) hb); clear hR hb hCk) | ((with_reducible refine gate_builtin (b := .append) (xs := #[.tmp 32, .tmp 39]) rfl ?_); at_builtin; refine Kd.R_append_rows (Kd.int .u8) (Rr := fun (x : Int) cs => cs = [Value.int .u8 x]) (w0 := W) W.heap.size rfl (.tmp 32) (.tmp 39) 23 5 (.int .u8 0) 1 rfl Tryz.underlying23 P.info5 rfl (by decide) (by decide) u5 pre kk Ak kk.length ck (fun k => W.heap.size ≤ k) (fun _ => False) rfl rfl ?aO ?aR (fun _ _ h => h) (fun _ h => h.elim) ?aF ?aB ?aS ?aL ?_; (case aO => exact HR1.out); (case aR => exact HCK.out); (case aF => exact fun k hk => Nat.le_trans (HB1.out).size hk); (case aB => exact HB1.out); (case aS => exact (HB1.out).size); (case aL => have := HL1.out; show ((pre).length + kk.length) * 1 ≤ _; omega); intro vw2 w2 ho hb hgr hat; have HO1 := Aside0.mk ho; have HB2 := Aside0.mk hb; clear ho hb hgr hat; have z1 := pw_cell_below HB2.out HX.out.1; have z2 := pw_cell_below HB2.out HX.out.2.1) | ((with_reducible refine gate_builtin (b := .append) (xs := #[.tmp 56, .tmp 57]) rfl ?_); at_builtin; refine Kd.R_append_rows (Kd.int .u8) (Rr := fun (x : Int) cs => cs = [Value.int .u8 x]) (w0 := W) W.heap.size rfl (.tmp 56) (.tmp 57) 23 5 (.int .u8 0) 1 rfl Tryz.underlying23 P.info5 rfl (by decide) (by decide) vw2 (pre ++ kk) [0] _ 1 1 (fun k => W.heap.size ≤ k) (fun _ => False) rfl rfl ?aO ?aR (fun _ _ h => h) (fun _ h => h.elim) ?aF ?aB ?aS ?aL ?_; (case aO => exact Kd.R_alloc HO1.out _); (case aR => exact lit1 (heap_top _ _)); (case aF => exact fun k hk => Nat.le_trans (below_alloc HB2.out _).size hk); (case aB => exact below_alloc HB2.out _); (case aS => exact (below_alloc HB2.out _).size); (case aL => have := HLen2.out; show (((pre ++ kk)).length + 1) * 1 ≤ _; omega); intro vw3 w3 ho hb hgr hat; have HO3 := Aside0.mk ho; have HB3 := Aside0.mk hb; clear ho hb hgr hat))
              go_roundg (i - (j + 1))
              case measure => omega
              case rel =>
                have e1 : Wr.uv i ++ ((l.map toA).take (j + 1)).flatMap Wr.enc1 = pre ++ kk ++ [0] := by
                  rw [← HKK.out, HTK.out, List.flatMap_append, ← List.append_assoc, HPR.out, List.append_assoc, List.append_assoc]
                  congr 1
                  simp [Wr.enc1, toA, HS.out, kb_length]
                exact ⟨j + 1, by omega, by omega, by go_num, HB3, ⟨by rw [e1]; exact HO3.out⟩, ⟨by rw [e1, List.length_append]; have := HLen2.out; simp only [List.length_singleton]; omega⟩⟩
          · have hltjz : ¬ (j : Int) < (i : Int) := by omega
            obtain rfl : j = i := by omega
            have HE : Aside0 (Wr.uv j ++ ((l.map toA).take j).flatMap Wr.enc1 = Wr.encs (l.map toA)) := ⟨by
              unfold Wr.encs
              rw [List.take_of_length_le (by rw [List.length_map]; have := HL.out; omega), List.length_map, HL.out]⟩
            rw [HE.out] at HR
            have HE2 := Aside0.mk (And.intro (show l.length ≤ 256 by have := HL.out; omega) HM.out)
            clear HZ HE
            obtain ⟨A', c', hv', _, _, _⟩ := R_own HR.out
            generalize hb : Wr.encs (l.map toA) = b at *
            have HEB := Aside0.mk hb
            clear hb
            by_cases hbig : 13005 < b.length
            · have hbz : ((b.length : Nat) : Int) > 13005 := by omega
              subst hv'
              go_wp2_with fail
              go_ret2
              exact ⟨Or.inr (Or.inr ⟨HE2.out.1, HE2.out.2, by rw [HEB.out]; exact hbig, rfl⟩), HB.out⟩
            · have hbz : ¬ ((b.length : Nat) : Int) > 13005 := by omega
              subst hv'
              go_wp2_with fail
              go_ret2
              exact ⟨Or.inl ⟨HE2.out.1, HE2.out.2, by rw [HEB.out]; omega, _, rfl, by rw [HEB.out]; exact HR.out⟩, HB.out⟩
  · have h256z : (n : Int) > 256 := by omega
    go_enter Tryz.func8, Tryz.ntmps8
    go_wp2_with fail
    go_ret2
    exact ⟨Or.inr (Or.inl ⟨fun h => h256 (by have := HL.out; have := h.1; omega), rfl⟩), Below.refl _ _⟩
end Go.Proofs.YtmajfcdfafhkfaaGreatDoor.H
namespace Go.Proofs.YtmajfcdfafhkfaaGreatDoor.H
open Go.RowKit Go.Proofs.YtmajfcdfafhkfaaGreatDoorW.PrintWords Go.Proofs.YtmajfcdfafhkfaaGreatDoorW.PrintLast Go.Proofs.YtmajfcdfafhkfaaGreatDoor.Leaf Go.Proofs.YtmajfcdfafhkfaaGreatDoor.P
set_option linter.unusedVariables false
set_option linter.unusedSimpArgs false
set_option maxHeartbeats 4000000
set_option maxRecDepth 100000
section
variable {w : World} {g : Nat} {A : Option Addr} {c : Nat} {b : List Int} {p : Nat} {e : Int}
theorem Kp.drew1 (w : World) (g : Nat) : Kp w w.drew g g := (Kp.refl w g g).drew
theorem Rd.drew {w : World} {g : Nat} {A : Option Addr} {c : Nat} {b : List Int} {p : Nat} {e : Int} (h : Rd w g A c b p e) : Rd w.drew g A c b p e := h.drewN 1
theorem left_ (h : Rd w g A c b p e) : Calls Tryz.prog 60 #[.pointer (some ⟨g, 0, none⟩)] w fun r w' => r = .returned (.int .i64 ((b.drop p).length : Int)) ∧ Drawn0 w w' := by
  have h0 : w.cell? ⟨g, 0, none⟩ = some (.slice A b.length c) := cell_of_block (k := 0) h.blk rfl
  have h1 : w.cell? ⟨g, 1, none⟩ = some (.int .i64 (p : Int)) := cell_of_block (k := 1) h.blk rfl
  have hw : IntKind.i64.wrap ((b.length : Int) - (p : Int)) = ((b.drop p).length : Int) := by rw [IntWalk.i64_in _ (by have := h.hl; have := h.hp; omega), List.length_drop]; have := h.hp; omega
  clear h
  generalize (b.drop p).length = r at *
  go_enter Tryz.func60, Tryz.ntmps60
  go_upto_region 3 with (fail)
  go_region
  go_wp2_with fail
  go_ret
  exact ⟨rfl, 1, rfl⟩
theorem done_bad (h : Rd w g A c b p e) (he : e ≠ 0) : Calls Tryz.prog 38 #[.pointer (some ⟨g, 0, none⟩)] w fun r w' => r = .returned (.int .i64 e) ∧ w' = w := by
  have HE := Aside0.mk (err_ h)
  have hz : (e != 0) = true := by simpa using he
  clear h he
  go_enter Tryz.func38, Tryz.ntmps38
  go_wp2_with (first | (go_at_call 37; refine HE.out.mono ?_; rintro e w' ⟨rfl, hw_⟩; obtain rfl := hw_.symm))
  go_ret
  exact ⟨rfl, rfl⟩
theorem done_ok (h : Rd w g A c b p 0) : Calls Tryz.prog 38 #[.pointer (some ⟨g, 0, none⟩)] w fun r w' => r = .returned (.int .i64 (if b.drop p = [] then 0 else 5)) ∧ Drawn0 w w' := by
  have HE := Aside0.mk (err_ h)
  have HL := Aside0.mk (left_ h)
  clear h
  by_cases hd : b.drop p = []
  · rw [if_pos hd]
    rw [hd] at HL
    clear hd
    go_enter Tryz.func38, Tryz.ntmps38
    go_wp2_with (first | (go_at_call 37; refine HE.out.mono ?_; rintro e w' ⟨rfl, hw_⟩; obtain rfl := hw_.symm) | (go_at_call 60; refine HL.out.mono ?_; rintro e w' ⟨rfl, hd⟩; have HD := Aside0.mk hd; clear hd))
    go_ret
    exact ⟨rfl, HD.out⟩
  · rw [if_neg hd]
    have hz : ((b.drop p).length : Int) > 0 := by have := List.length_pos_iff.2 hd; omega
    clear hd
    generalize (b.drop p).length = r at *
    go_enter Tryz.func38, Tryz.ntmps38
    go_wp2_with (first | (go_at_call 37; refine HE.out.mono ?_; rintro e w' ⟨rfl, hw_⟩; obtain rfl := hw_.symm) | (go_at_call 60; refine HL.out.mono ?_; rintro e w' ⟨rfl, hd⟩; have HD := Aside0.mk hd; clear hd))
    go_ret
    exact ⟨rfl, HD.out⟩
theorem read_ (W : World) (A : Option Addr) (c : Nat) (b : List Int) (hC : Kd.C (Kd.int .u8) W A b.length b) (hc : b.length ≤ c) (hl : b.length < 1000000000) (hby : Wr.Byte b) :
    Calls Tryz.prog 34 #[.slice A b.length c] W fun e w' => ∃ g A' c', e = .returned (.pointer (some ⟨g, 0, none⟩)) ∧ Rd w' g A' c' b 0 0 ∧ W.heap.size ≤ g ∧ Below W.heap.size W w' := by
  have HCL := Aside0.mk (slices_Clone_byte_byte.calls A c b b W hC hc (by unfold slices_Clone_byte_byte.f; rw [if_pos (by omega)]))
  have HH := Aside0.mk (And.intro hl hby)
  clear hC hl hby hc
  go_enter Tryz.func34, Tryz.ntmps34
  go_wp2_with (first | (go_at_call 46; refine HCL.out.mono ?_; rintro e w1 ⟨v, rfl, hR, hb⟩; obtain ⟨A', c', rfl, hA', hc', hC'⟩ := R_own hR; have HB := Aside0.mk hb; have HC' := Aside0.mk (And.intro hc' hC'); have HO := Aside0.mk (fun ad (h : A' = some ad) => ((Kd.R_bound hR).1 ad.block (by rw [h]; rfl)).2.2.1); clear hb hR hc' hC' hA'))
  go_ret
  exact ⟨w1.heap.size, A', c', rfl, ⟨heap_top _ _, Kd.C_alloc HC'.out.2 _, HC'.out.1, Nat.zero_le _, HH.out.1, HH.out.2, fun ad h => HO.out ad h, fun ad h => by rw [World.size_alloc]; exact Nat.lt_succ_of_lt (HO.out ad h)⟩, HB.out.size, below_alloc HB.out _⟩
theorem take_ (h : Rd w g A c b p 0) (n : Nat) (hn : p + n ≤ b.length) :
    Calls Tryz.prog 59 #[.pointer (some ⟨g, 0, none⟩), .int .i64 (n : Int)] w fun e w' => ∃ A' c', e = .returned (.slice A' n c') ∧ Kd.C (Kd.int .u8) w' A' n ((b.drop p).take n) ∧ n ≤ c' ∧ Rd w' g A c b (p + n) 0 ∧ Kp w w' g g := by
  obtain ⟨i0, hi, hz⟩ := Option.map_eq_some_iff.1 P.info5
  simp only [Prod.mk.injEq] at hz
  have HI := Aside0.mk (And.intro hi hz.2.1)
  have HF := Aside0.mk (fine_ok h)
  have HH := Aside0.mk h
  have h0 : w.cell? ⟨g, 0, none⟩ = some (.slice A b.length c) := cell_of_block (k := 0) h.blk rfl
  have h1 : w.cell? ⟨g, 1, none⟩ = some (.int .i64 (p : Int)) := cell_of_block (k := 1) h.blk rfl
  have f1 := blk_frozen h.blk 1
  have hw : IntKind.i64.wrap ((b.length : Int) - (p : Int)) = (b.length : Int) - (p : Int) := by rw [IntWalk.i64_in _ (by have := h.hl; have := h.hp; omega)]
  have hw2 : IntKind.i64.wrap ((p : Int) + (n : Int)) = ((p + n : Nat) : Int) := by rw [IntWalk.i64_in _ (by have := h.hl; omega)]; omega
  have hw3 : IntKind.i64.wrap (((p + n : Nat) : Int) - (n : Int)) = (p : Int) := by rw [IntWalk.i64_in _ (by have := h.hl; omega)]; omega
  have hgt : ¬ (n : Int) > (b.length : Int) - (p : Int) := by omega
  have hcut := cut_mid (P := Tryz.prog) 23 5 .i64 .i64 Tryz.underlying23 HI.out.1 1 HI.out.2 A b.length c (p : Int) ((p + n : Nat) : Int) (by omega) (by omega) (by omega) h.hc
  have HN := Aside0.mk hn
  clear h hi hz hn
  go_enter Tryz.func59, Tryz.ntmps59
  go_upto_region 3 with (first | (go_at_call 78; refine HF.out.mono ?_; rintro e w' ⟨rfl, hw_⟩; obtain rfl := hw_.symm))
  go_region
  have g1 : w.drew.cell? ⟨g, 1, none⟩ = some (.int .i64 (p : Int)) := h1
  have g2 : w.drew.frozen? ⟨g, 1, none⟩ = false := f1
  have HKP : Aside0 (Kp w w.drew g g) := ⟨Kp.drew1 w g⟩
  have HR : Aside0 (Rd w.drew g A c b p 0) := ⟨HH.out.drew⟩
  clear h0 h1 f1 hw HH HF
  generalize w.drew = w1 at *
  go_upto_region 7 with (fail)
  rw [show ((p : Int) + (n : Int)) = ((p + n : Nat) : Int) by omega]
  have HR2 : Aside0 (Rd (w1.setCell ⟨g, 1, none⟩ (.int .i64 ((p + n : Nat) : Int))) g A c b (p + n) 0) := ⟨HR.out.at_ (p + n) HN.out⟩
  have HK2 : Aside0 (Kp w (w1.setCell ⟨g, 1, none⟩ (.int .i64 ((p + n : Nat) : Int))) g g) := ⟨HKP.out.set 1 _⟩
  rw [Int.toNat_natCast, Int.toNat_natCast, show p + n - p = n by omega] at hcut
  have HCM : Aside0 (Kd.C (Kd.int .u8) (w1.setCell ⟨g, 1, none⟩ (.int .i64 ((p + n : Nat) : Int))) (if c = p then A else A.map (·.add (p * 1))) n ((b.drop p).take n)) := ⟨by
    have h := Kd.C_mid (c := c) (lo := p) (hi := p + n) HR2.out.C (by omega) HN.out HR2.out.hc
    rw [List.drop_take, show p + n - p = n by omega, show ((b.drop p).take n).length = n by rw [List.length_take, List.length_drop]; have := HN.out; omega] at h
    exact h⟩
  have HCC : Aside0 (n ≤ c - p) := ⟨by have := HR2.out.hc; have := HN.out; omega⟩
  have q0 : (w1.setCell ⟨g, 1, none⟩ (.int .i64 ((p + n : Nat) : Int))).cell? ⟨g, 0, none⟩ = some (.slice A b.length c) := cell_of_block (k := 0) HR2.out.blk rfl
  have q1 : (w1.setCell ⟨g, 1, none⟩ (.int .i64 ((p + n : Nat) : Int))).cell? ⟨g, 1, none⟩ = some (.int .i64 ((p + n : Nat) : Int)) := cell_of_block (k := 1) HR2.out.blk rfl
  clear g1 g2 hw2 HR HKP hgt
  generalize (if c = p then A else A.map (·.add (p * 1))) = A1 at *
  generalize w1.setCell ⟨g, 1, none⟩ (.int .i64 ((p + n : Nat) : Int)) = w2 at *
  generalize hpn : p + n = pn at *
  have HPN := Aside0.mk hpn
  clear hpn
  go_region
  go_wp2_with fail
  go_ret
  exact ⟨_, _, rfl, Kd.C_drewN HCM.out 1, HCC.out, by rw [HPN.out]; exact HR2.out.drew, HK2.out.drew⟩
theorem Bytes_no1 (h : Rd w g A c b p 0) (m : Nat) (hm : m < 2147483648) (hn : Wr.num m (b.drop p) = none) :
    Calls Tryz.prog 36 #[.pointer (some ⟨g, 0, none⟩), .int .i64 (m : Int)] w fun e w' => e = .returned (.slice none 0 0) ∧ ∃ e', e' ≠ 0 ∧ Rd w' g A c b p e' ∧ Kp w w' g g := by
  have HN : Aside0 (Calls Tryz.prog 57 #[.pointer (some ⟨g, 0, none⟩), .int .i64 (m : Int)] w fun e w' => e = .returned (.tuple #[.int .i64 0, .int .i64 0]) ∧ ∃ e', e' ≠ 0 ∧ Rd w' g A c b p e' ∧ Kp w w' g g) := ⟨(number_ h m hm).mono (by
    rintro e w' (⟨n', k', h1, h2, h3, h4, h5⟩ | ⟨h1, h2, h3⟩)
    · unfold Wr.num at hn
      rw [h1] at hn
      simp only [Option.bind_some] at hn
      rw [if_pos h2] at hn
      cases hn
    · exact ⟨h2, h3⟩)⟩
  clear h hn
  go_enter Tryz.func36, Tryz.ntmps36
  go_wp2_with (first | (go_at_call 57; refine HN.out.mono ?_; rintro e w1 ⟨rfl, hE⟩; have HE := Aside0.mk hE; clear hE))
  go_ret
  exact ⟨rfl, HE.out⟩
theorem Bytes_ok (h : Rd w g A c b p 0) (m : Nat) (hm : m < 2147483648) (x r : List Int) (hn : Wr.bts m (b.drop p) = some (x, r)) :
    Calls Tryz.prog 36 #[.pointer (some ⟨g, 0, none⟩), .int .i64 (m : Int)] w fun e w' => ∃ v, e = .returned v ∧ Kd.R (Kd.int .u8) 5 w' w.heap.size (fun k => w.heap.size ≤ k) v x ∧ ∃ p', r = b.drop p' ∧ Rd w' g A c b p' 0 ∧ Kp w w' g g := by
  obtain ⟨n, r1, hnn, hle, hx, hr⟩ : ∃ n r1, Wr.num m (b.drop p) = some (n, r1) ∧ n ≤ r1.length ∧ x = r1.take n ∧ r = r1.drop n := by
    unfold Wr.bts at hn
    cases e : Wr.num m (b.drop p) with
    | none => rw [e] at hn; cases hn
    | some q =>
      rw [e] at hn
      simp only [Option.bind_some] at hn
      split at hn
      · rename_i hq
        cases hn
        exact ⟨q.1, q.2, rfl, hq, rfl, rfl⟩
      · cases hn
  obtain ⟨k, hpk, hnm, hr1, hpk2, hk0⟩ := num_peek h.hp hnn
  subst hr1
  rw [List.length_drop] at hle
  have HN : Aside0 (Calls Tryz.prog 57 #[.pointer (some ⟨g, 0, none⟩), .int .i64 (m : Int)] w fun e w' => e = .returned (.tuple #[.int .i64 (n : Int), .int .i64 (k : Int)]) ∧ Rd w' g A c b p 0 ∧ Kp w w' g g) := ⟨(number_ h m hm).mono (by
    rintro e w' (⟨n', k', h1, h2, h3, h4, h5⟩ | ⟨h1, _⟩)
    · rw [hpk] at h1
      cases h1
      exact ⟨h3, h4, h5⟩
    · rw [hnn] at h1
      cases h1)⟩
  have HX := Aside0.mk (And.intro hx (And.intro hr (And.intro hle hpk2)))
  have HL := Aside0.mk (And.intro h.hl h.hp)
  have hkz : ((k : Int) == 0) = false := by rw [beq_eq_false_iff_ne]; omega
  have hw1 : IntKind.i64.wrap ((b.length : Int) - (p : Int)) = (b.length : Int) - (p : Int) := by rw [IntWalk.i64_in _ (by have := h.hl; have := h.hp; omega)]
  have hw2 : IntKind.i64.wrap ((b.length : Int) - (p : Int) - (k : Int)) = (b.length : Int) - (p : Int) - (k : Int) := by rw [IntWalk.i64_in _ (by have := h.hl; have := h.hp; omega)]
  have hw3 : IntKind.i64.wrap ((p : Int) + (k : Int)) = (p : Int) + (k : Int) := by rw [IntWalk.i64_in _ (by have := h.hl; omega)]
  have hgt : ¬ (n : Int) > (b.length : Int) - (p : Int) - (k : Int) := by omega
  clear hpk hnm hr hx hn hnn hpk2 h hk0 hle
  go_enter Tryz.func36, Tryz.ntmps36
  go_upto_region 4 with (first | (go_at_call 57; refine HN.out.mono ?_; rintro e w1 ⟨rfl, hRd, hKp⟩; have HR := Aside0.mk hRd; have HKP := Aside0.mk hKp; have t0 : w1.cell? ⟨g, 0, none⟩ = some (.slice A b.length c) := cell_of_block (k := 0) hRd.blk rfl; have t1 : w1.cell? ⟨g, 1, none⟩ = some (.int .i64 (p : Int)) := cell_of_block (k := 1) hRd.blk rfl; clear hRd hKp))
  go_region
  have q1 : w1.drew.cell? ⟨g, 1, none⟩ = some (.int .i64 (p : Int)) := t1
  have f1 := blk_frozen HR.out.drew.blk 1
  have HR1 := Aside0.mk HR.out.drew
  have HK1 := Aside0.mk (HKP.out.drew)
  clear t0 t1 HR HKP hw1 hw2
  generalize w1.drew = w2 at *
  have HR3 : Aside0 (Rd (w2.setCell ⟨g, 1, none⟩ (.int .i64 ((p : Int) + (k : Int)))) g A c b (p + k) 0) := ⟨by
    have := HR1.out.at_ (p + k) HX.out.2.2.2
    rwa [show ((p + k : Nat) : Int) = (p : Int) + (k : Int) by omega] at this⟩
  have HK3 : Aside0 (Kp w (w2.setCell ⟨g, 1, none⟩ (.int .i64 ((p : Int) + (k : Int)))) g g) := ⟨HK1.out.set 1 _⟩
  have HT := Aside0.mk (take_ HR3.out n (by have := HX.out.2.2; omega))
  go_wp2_with (first | (go_at_call 59; refine HT.out.mono ?_; rintro e w3 ⟨A', c', rfl, hC, hc, hRd, hKp⟩; have hxl : (List.take n (List.drop (p + k) b)).length = n := hC.1; have HCL : Aside0 (Calls Tryz.prog 46 #[.slice A' n c'] w3 fun e w' => ∃ v0_ : Value, e = .returned (v0_) ∧ Kd.R (Kd.int .u8) 5 w' w3.heap.size (fun _ => True) v0_ (List.take n (List.drop (p + k) b)) ∧ Below w3.heap.size w3 w') := ⟨by have h9 := slices_Clone_byte_byte.calls A' c' (List.take n (List.drop (p + k) b)) (List.take n (List.drop (p + k) b)) w3 (by rw [hxl]; exact hC) (by rw [hxl]; exact hc) (by unfold slices_Clone_byte_byte.f; rw [if_pos (by rw [hxl]; have := HX.out.2.2; have := HL.out; omega)]); rw [hxl] at h9; exact h9⟩; have HR4 := Aside0.mk hRd; have HK4 := Aside0.mk (HK3.out.trans hKp); clear hC hc hRd hKp hxl) | (go_at_call 46; refine HCL.out.mono ?_; rintro e w4 ⟨v, rfl, hR, hb⟩; have HB := Aside0.mk hb; have HRV := Aside0.mk (Kd.R_bound hR); clear hR hb))
  go_ret
  exact ⟨_, rfl, by rw [HX.out.1]; exact Kd.R_mono (Kd.R_lower HRV.out HK4.out.1) (fun k hk => Nat.le_trans HK4.out.1 hk.2.1), p + k + n, by rw [HX.out.2.1, List.drop_drop], HR4.out.kept HB.out, HK4.out.trans (Kp.of_below HB.out)⟩
theorem Bytes_no2 (h : Rd w g A c b p 0) (m n : Nat) (hm : m < 2147483648) (r1 : List Int) (hnn : Wr.num m (b.drop p) = some (n, r1)) (hlt : r1.length < n) :
    Calls Tryz.prog 36 #[.pointer (some ⟨g, 0, none⟩), .int .i64 (m : Int)] w fun e w' => e = .returned (.slice none 0 0) ∧ ∃ e', e' ≠ 0 ∧ Rd w' g A c b p e' ∧ Kp w w' g g := by
  obtain ⟨k, hpk, hnm, hr1, hpk2, hk0⟩ := num_peek h.hp hnn
  subst hr1
  rw [List.length_drop] at hlt
  have HN : Aside0 (Calls Tryz.prog 57 #[.pointer (some ⟨g, 0, none⟩), .int .i64 (m : Int)] w fun e w' => e = .returned (.tuple #[.int .i64 (n : Int), .int .i64 (k : Int)]) ∧ Rd w' g A c b p 0 ∧ Kp w w' g g) := ⟨(number_ h m hm).mono (by
    rintro e w' (⟨n', k', h1, h2, h3, h4, h5⟩ | ⟨h1, _⟩)
    · rw [hpk] at h1
      cases h1
      exact ⟨h3, h4, h5⟩
    · rw [hnn] at h1
      cases h1)⟩
  have hkz : ((k : Int) == 0) = false := by rw [beq_eq_false_iff_ne]; omega
  have hw1 : IntKind.i64.wrap ((b.length : Int) - (p : Int)) = (b.length : Int) - (p : Int) := by rw [IntWalk.i64_in _ (by have := h.hl; have := h.hp; omega)]
  have hw2 : IntKind.i64.wrap ((b.length : Int) - (p : Int) - (k : Int)) = (b.length : Int) - (p : Int) - (k : Int) := by rw [IntWalk.i64_in _ (by have := h.hl; have := h.hp; omega)]
  have hgt : (n : Int) > (b.length : Int) - (p : Int) - (k : Int) := by omega
  clear hpk hnm hnn hpk2 h hk0 hlt
  go_enter Tryz.func36, Tryz.ntmps36
  go_upto_region 4 with (first | (go_at_call 57; refine HN.out.mono ?_; rintro e w1 ⟨rfl, hRd, hKp⟩; have HR := Aside0.mk hRd; have HKP := Aside0.mk hKp; have t0 : w1.cell? ⟨g, 0, none⟩ = some (.slice A b.length c) := cell_of_block (k := 0) hRd.blk rfl; have t1 : w1.cell? ⟨g, 1, none⟩ = some (.int .i64 (p : Int)) := cell_of_block (k := 1) hRd.blk rfl; clear hRd hKp))
  go_region
  have HR1 := Aside0.mk HR.out.drew
  have HK1 := Aside0.mk (HKP.out.drew)
  clear t0 t1 HR HKP hw1 hw2
  generalize w1.drew = w2 at *
  go_wp2_with (first | (go_at_call 58; refine (fail_ HR1.out 5).mono ?_; rintro e w' ⟨rfl, hw_⟩; obtain rfl := hw_.symm))
  go_ret
  exact ⟨rfl, 5, by decide, HR1.out.err 5, HK1.out.set 2 _⟩
end
end Go.Proofs.YtmajfcdfafhkfaaGreatDoor.H
