/- Words and walks that the claim StoreCodes leans on (what it does not use is left out). -/
import Derived.Test.YtmajfcdfafhkfaaGreatDoorMStoreCodes1
import Derived.Test.YtmajfcdfafhkfaaGreatDoorMStoreCodes3
import Derived.Test.YtmajfcdfafhkfaaGreatDoorMStoreCodes2
import Derived.Deep.Strs
import Derived.Deep.Slices
import Derived.ChangeSlices
import Derived.ChangeArms
namespace Go.Proofs.YtmajfcdfafhkfaaGreatDoor.P
open Go.Proofs.YtmajfcdfafhkfaaGreatDoor.Leaf
open Go.RowKit Go.Proofs.YtmajfcdfafhkfaaGreatDoorW.PrintWords Go.Proofs.YtmajfcdfafhkfaaGreatDoorW.PrintLast Go.Proofs.YtmajfcdfafhkfaaGreatDoorW.PrintMore
attribute [local go_sem] max2_int min2_int max_two min_two max_three min_three max_four min_four   -- for this text's walks alone
set_option linter.unusedVariables false
set_option linter.unusedSimpArgs false
def mooringref09_Same.l0 : Nat → List (S62) → List (S62) → Int → Option (Bool)
 | 0, _, _, _ => none
 | k + 1, x0, x1, x5 => if x5 < (x0.length : Int) then (if 0 ≤ x5 then (if x5 < (x1.length : Int) then (if ((rd_T62 x0 x5).f0).toList = ((rd_T62 x1 x5).f0).toList then (if (((rd_T62 x0 x5).f1) != ((rd_T62 x1 x5).f1)) = true then (some false) else (if (strOfNums ((rd_T62 x0 x5).f2)).toList = (strOfNums ((rd_T62 x1 x5).f2)).toList then (mooringref09_Same.l0 k x0 x1 (wrap64 (x5 + 1))) else (some false))) else (some false)) else (none)) else (none)) else (some true)
def mooringref09_Same.f (k : Nat) (l0 : List (S62)) (l1 : List (S62)) : Option (Bool) := if (l0.length : Int) = (l1.length : Int) then (mooringref09_Same.l0 k l0 l1 0) else (some false)
theorem mooringref09_Same.mono_l : ∀ k, (∀ y0 y1 y2, LeO (mooringref09_Same.l0 k y0 y1 y2) (mooringref09_Same.l0 (k + 1) y0 y1 y2))
 | 0 => fun _ _ _ r h => by simp [mooringref09_Same.l0] at h
 | k + 1 => by
  have ih0 := mooringref09_Same.mono_l k
  ·intro y0 y1 y2
   unfold mooringref09_Same.l0
   repeat' first
   | (with_reducible exact ih0 _ _ _)
   | (with_reducible exact LeO.refl _)
   | (with_reducible exact LeO.none _)
   | (with_reducible refine LeO.ite ?_ ?_)
   | (with_reducible refine LeO.bind ?_ (fun _ => ?_))
   | exact ih0 _ _ _
   | exact LeO.none _
   | refine LeO.ite ?_ ?_
   | refine LeO.bind ?_ (fun _ => ?_)
theorem mooringref09_Same.mono : ∀ a0 a1 k, LeO (mooringref09_Same.f k a0 a1) (mooringref09_Same.f (k + 1) a0 a1) := by
 intro a0 a1 k
 have ih0 := mooringref09_Same.mono_l k
 unfold mooringref09_Same.f
 repeat' first
   | (with_reducible exact ih0 _ _ _)
   | (with_reducible exact LeO.refl _)
   | (with_reducible exact LeO.none _)
   | (with_reducible refine LeO.ite ?_ ?_)
   | (with_reducible refine LeO.bind ?_ (fun _ => ?_))
   | exact ih0 _ _ _
   | exact LeO.none _
   | refine LeO.ite ?_ ?_
   | refine LeO.bind ?_ (fun _ => ?_)
set_option maxHeartbeats 8000000 in
set_option maxRecDepth 100000 in
theorem mooringref09_Same.calls (k : Nat) (A0 : Option Addr) (c0 : Nat) (l0 : List (S62)) (A1 : Option Addr) (c1 : Nat) (l1 : List (S62)) (r : Bool) (w : World) (hr0 : Kd.C k62 w A0 l0.length l0) (hc0 : l0.length ≤ c0) (hr1 : Kd.C k62 w A1 l1.length l1) (hc1 : l1.length ≤ c1) (h : mooringref09_Same.f k l0 l1 = some r) :
  Calls Tryz.prog 11 #[.slice A0 l0.length c0, .slice A1 l1.length c1] w fun e w' => e = .returned (.bool r) ∧ Drawn0 w w' := by
 have HR0 := Aside0.mk hr0
 have HC0 := Aside0.mk hc0
 clear hr0 hc0
 have HR1 := Aside0.mk hr1
 have HC1 := Aside0.mk hc1
 clear hr1 hc1
 have H : (if (l0.length : Int) = (l1.length : Int) then (mooringref09_Same.l0 k l0 l1 0) else (some false)) = some r := h
 clear h
 by_cases c3 : (l0.length : Int) = (l1.length : Int)
 ·rw [if_pos c3] at H
  have c3b0 : ((l0.length : Int) == (l1.length : Int)) = true := beq_iff_eq.mpr c3
  have c3b1 : ((l0.length : Int) != (l1.length : Int)) = false := bne_eq_false_iff_eq.mpr c3
  have c3b2 : (l0.length == l1.length) = true := by first | simpa using c3 | (simp at c3 ⊢; omega)
  clear c3
  have H' := Aside0.mk H
  clear H
  go_enter Tryz.func11, Tryz.ntmps11
  go_wp2
  repeat (go_quiet (fail); try go_wp2)
  go_loopg [5] k (fun kq v5 w' => ∃ (x5_1 : Int), v5 = .int .i64 x5_1 ∧ Aside0 (mooringref09_Same.l0 kq l0 l1 x5_1 = some r) ∧ Aside0 (kq ≤ k) ∧ Drawn0 w w')
  case atStart => exact ⟨(0), (by first | rfl | (simp; done) | (simp [*]; done)), H', ⟨Nat.le_refl _⟩, by repeat (first | exact Drawn0.refl _ | apply Drawn0.step)⟩
  case round =>
   clear H'
   try clear c1
   try clear p2
   try clear c3
   try clear c3b0
   try clear c3b1
   try clear c3b2
   obtain ⟨x5_1, rfl, HA, HK1, ⟨m1, rfl⟩⟩ := hrel
   cases gk with
   | zero => exact absurd HA.out (by simp [mooringref09_Same.l0])
   | succ k1 =>
    have H := HA.out
    clear HA
    simp only [mooringref09_Same.l0] at H
    by_cases c4 : x5_1 < (l0.length : Int)
    ·rw [if_pos c4] at H
     have c4b0 : decide (x5_1 < (l0.length : Int)) = true := decide_eq_true c4
     clear c4
     by_cases c5 : 0 ≤ x5_1
     ·rw [if_pos c5] at H
      have c5b0 : decide (0 ≤ x5_1) = true := decide_eq_true c5
      clear c5
      by_cases c6 : x5_1 < (l1.length : Int)
      ·rw [if_pos c6] at H
       have c6b0 : decide (x5_1 < (l1.length : Int)) = true := decide_eq_true c6
       clear c6
       by_cases c7 : ((rd_T62 l0 x5_1).f0).toList = ((rd_T62 l1 x5_1).f0).toList
       ·rw [if_pos c7] at H
        have c7b0 : (((rd_T62 l0 x5_1).f0).toList == ((rd_T62 l1 x5_1).f0).toList) = true := beq_iff_eq.mpr c7
        have c7b1 : (((rd_T62 l0 x5_1).f0).toList != ((rd_T62 l1 x5_1).f0).toList) = false := bne_eq_false_iff_eq.mpr c7
        clear c7
        by_cases c8 : (((rd_T62 l0 x5_1).f1) != ((rd_T62 l1 x5_1).f1)) = true
        ·rw [if_pos c8] at H
         have c8b0 : (((rd_T62 l0 x5_1).f1) != ((rd_T62 l1 x5_1).f1)) = true := c8
         (try (have c8b1 : decide (((rd_T62 l0 x5_1).f1) = ((rd_T62 l1 x5_1).f1)) = false := by simpa using c8))
         (try (have c8b2 : (((rd_T62 l0 x5_1).f1) == ((rd_T62 l1 x5_1).f1)) = false := by simpa using c8))
         (try (have c8b3 : ¬ (((rd_T62 l0 x5_1).f1) = ((rd_T62 l1 x5_1).f1)) := by simpa using c8))
         clear c8
         obtain rfl := Option.some.inj H
         have p101 : 0 ≤ (x5_1 : Int) := of_decide_eq_true (by first | (with_reducible assumption) | assumption)
         have q101 : x5_1 < (l0.length : Int) := of_decide_eq_true (by first | (with_reducible assumption) | assumption)
         obtain ⟨ad101, A101_2, c101_2, e101, hx101_0, hx101_1, hx101_2, hl101_2, hi101_2⟩ := at_T62 HR0.out x5_1 p101 q101
         cases e101
         have HR101_2 := Aside0.mk hi101_2
         have HC101_2 := Aside0.mk hl101_2
         clear hi101_2 hl101_2
         replace p101 := eq_true p101
         replace q101 := eq_true q101
         have p102 : 0 ≤ (x5_1 : Int) := of_decide_eq_true (by first | (with_reducible assumption) | assumption)
         have q102 : x5_1 < (l1.length : Int) := of_decide_eq_true (by first | (with_reducible assumption) | assumption)
         obtain ⟨ad102, A102_2, c102_2, e102, hx102_0, hx102_1, hx102_2, hl102_2, hi102_2⟩ := at_T62 HR1.out x5_1 p102 q102
         cases e102
         have HR102_2 := Aside0.mk hi102_2
         have HC102_2 := Aside0.mk hl102_2
         clear hi102_2 hl102_2
         replace p102 := eq_true p102
         replace q102 := eq_true q102
         have p103 : 0 ≤ (x5_1 : Int) := of_decide_eq_true (by first | (with_reducible assumption) | assumption)
         have q103 : x5_1 < (l0.length : Int) := of_decide_eq_true (by first | (with_reducible assumption) | assumption)
         obtain ⟨ad103, A103_2, c103_2, e103, hx103_0, hx103_1, hx103_2, hl103_2, hi103_2⟩ := at_T62 HR0.out x5_1 p103 q103
         obtain rfl : ad101 = ad103 := (by injection e103)
         have HR103_2 := Aside0.mk hi103_2
         have HC103_2 := Aside0.mk hl103_2
         clear hi103_2 hl103_2
         replace p103 := eq_true p103
         replace q103 := eq_true q103
         have ea_ := Option.some.inj (hx101_2.symm.trans hx103_2)
         injection ea_ with ea_ en_ ec_
         subst ea_
         subst ec_
         clear en_
         have p104 : 0 ≤ (x5_1 : Int) := of_decide_eq_true (by first | (with_reducible assumption) | assumption)
         have q104 : x5_1 < (l1.length : Int) := of_decide_eq_true (by first | (with_reducible assumption) | assumption)
         obtain ⟨ad104, A104_2, c104_2, e104, hx104_0, hx104_1, hx104_2, hl104_2, hi104_2⟩ := at_T62 HR1.out x5_1 p104 q104
         obtain rfl : ad102 = ad104 := (by injection e104)
         have HR104_2 := Aside0.mk hi104_2
         have HC104_2 := Aside0.mk hl104_2
         clear hi104_2 hl104_2
         replace p104 := eq_true p104
         replace q104 := eq_true q104
         have ea_ := Option.some.inj (hx102_2.symm.trans hx104_2)
         injection ea_ with ea_ en_ ec_
         subst ea_
         subst ec_
         clear en_
         go_wp2
         repeat (go_quiet (fail); try go_wp2)
         go_ret
         exact ⟨by first | rfl | (simp; done) | (simp [*]; done), by repeat (first | exact Drawn0.refl _ | apply Drawn0.step)⟩
        ·rw [if_neg c8] at H
         have c8b0 : (((rd_T62 l0 x5_1).f1) != ((rd_T62 l1 x5_1).f1)) = false := by simpa using c8
         (try (have c8b1 : decide (((rd_T62 l0 x5_1).f1) = ((rd_T62 l1 x5_1).f1)) = true := by simpa using c8))
         (try (have c8b2 : (((rd_T62 l0 x5_1).f1) == ((rd_T62 l1 x5_1).f1)) = true := by simpa using c8))
         clear c8
         by_cases c9 : (strOfNums ((rd_T62 l0 x5_1).f2)).toList = (strOfNums ((rd_T62 l1 x5_1).f2)).toList
         ·rw [if_pos c9] at H
          have c9b0 : ((strOfNums ((rd_T62 l0 x5_1).f2)).toList == (strOfNums ((rd_T62 l1 x5_1).f2)).toList) = true := beq_iff_eq.mpr c9
          have c9b1 : ((strOfNums ((rd_T62 l0 x5_1).f2)).toList != (strOfNums ((rd_T62 l1 x5_1).f2)).toList) = false := bne_eq_false_iff_eq.mpr c9
          clear c9
          have H' := Aside0.mk H
          clear H
          have p101 : 0 ≤ (x5_1 : Int) := of_decide_eq_true (by first | (with_reducible assumption) | assumption)
          have q101 : x5_1 < (l0.length : Int) := of_decide_eq_true (by first | (with_reducible assumption) | assumption)
          obtain ⟨ad101, A101_2, c101_2, e101, hx101_0, hx101_1, hx101_2, hl101_2, hi101_2⟩ := at_T62 HR0.out x5_1 p101 q101
          cases e101
          have HR101_2 := Aside0.mk hi101_2
          have HC101_2 := Aside0.mk hl101_2
          clear hi101_2 hl101_2
          replace p101 := eq_true p101
          replace q101 := eq_true q101
          have p102 : 0 ≤ (x5_1 : Int) := of_decide_eq_true (by first | (with_reducible assumption) | assumption)
          have q102 : x5_1 < (l1.length : Int) := of_decide_eq_true (by first | (with_reducible assumption) | assumption)
          obtain ⟨ad102, A102_2, c102_2, e102, hx102_0, hx102_1, hx102_2, hl102_2, hi102_2⟩ := at_T62 HR1.out x5_1 p102 q102
          cases e102
          have HR102_2 := Aside0.mk hi102_2
          have HC102_2 := Aside0.mk hl102_2
          clear hi102_2 hl102_2
          replace p102 := eq_true p102
          replace q102 := eq_true q102
          have p103 : 0 ≤ (x5_1 : Int) := of_decide_eq_true (by first | (with_reducible assumption) | assumption)
          have q103 : x5_1 < (l0.length : Int) := of_decide_eq_true (by first | (with_reducible assumption) | assumption)
          obtain ⟨ad103, A103_2, c103_2, e103, hx103_0, hx103_1, hx103_2, hl103_2, hi103_2⟩ := at_T62 HR0.out x5_1 p103 q103
          obtain rfl : ad101 = ad103 := (by injection e103)
          have HR103_2 := Aside0.mk hi103_2
          have HC103_2 := Aside0.mk hl103_2
          clear hi103_2 hl103_2
          replace p103 := eq_true p103
          replace q103 := eq_true q103
          have ea_ := Option.some.inj (hx101_2.symm.trans hx103_2)
          injection ea_ with ea_ en_ ec_
          subst ea_
          subst ec_
          clear en_
          have p104 : 0 ≤ (x5_1 : Int) := of_decide_eq_true (by first | (with_reducible assumption) | assumption)
          have q104 : x5_1 < (l1.length : Int) := of_decide_eq_true (by first | (with_reducible assumption) | assumption)
          obtain ⟨ad104, A104_2, c104_2, e104, hx104_0, hx104_1, hx104_2, hl104_2, hi104_2⟩ := at_T62 HR1.out x5_1 p104 q104
          obtain rfl : ad102 = ad104 := (by injection e104)
          have HR104_2 := Aside0.mk hi104_2
          have HC104_2 := Aside0.mk hl104_2
          clear hi104_2 hl104_2
          replace p104 := eq_true p104
          replace q104 := eq_true q104
          have ea_ := Option.some.inj (hx102_2.symm.trans hx104_2)
          injection ea_ with ea_ en_ ec_
          subst ea_
          subst ec_
          clear en_
          have p105 : 0 ≤ (x5_1 : Int) := of_decide_eq_true (by first | (with_reducible assumption) | assumption)
          have q105 : x5_1 < (l0.length : Int) := of_decide_eq_true (by first | (with_reducible assumption) | assumption)
          obtain ⟨ad105, A105_2, c105_2, e105, hx105_0, hx105_1, hx105_2, hl105_2, hi105_2⟩ := at_T62 HR0.out x5_1 p105 q105
          obtain rfl : ad101 = ad105 := (by injection e105)
          have HR105_2 := Aside0.mk hi105_2
          have HC105_2 := Aside0.mk hl105_2
          clear hi105_2 hl105_2
          replace p105 := eq_true p105
          replace q105 := eq_true q105
          have ea_ := Option.some.inj (hx101_2.symm.trans hx105_2)
          injection ea_ with ea_ en_ ec_
          subst ea_
          subst ec_
          clear en_
          have hcv10 := Kd.C_string (P := Tryz.prog) (A := A101_2) (c := c101_2) Tryz.underlying23 Tryz.underlying5 Tryz.underlying9 HR105_2.out
          have hcv10b := fun (n_ : Nat) => Kd.C_string (P := Tryz.prog) (A := A101_2) (c := c101_2) Tryz.underlying23 Tryz.underlying5 Tryz.underlying9 (Kd.C_drewN HR105_2.out n_)
          have p106 : 0 ≤ (x5_1 : Int) := of_decide_eq_true (by first | (with_reducible assumption) | assumption)
          have q106 : x5_1 < (l1.length : Int) := of_decide_eq_true (by first | (with_reducible assumption) | assumption)
          obtain ⟨ad106, A106_2, c106_2, e106, hx106_0, hx106_1, hx106_2, hl106_2, hi106_2⟩ := at_T62 HR1.out x5_1 p106 q106
          obtain rfl : ad102 = ad106 := (by injection e106)
          have HR106_2 := Aside0.mk hi106_2
          have HC106_2 := Aside0.mk hl106_2
          clear hi106_2 hl106_2
          replace p106 := eq_true p106
          replace q106 := eq_true q106
          have ea_ := Option.some.inj (hx102_2.symm.trans hx106_2)
          injection ea_ with ea_ en_ ec_
          subst ea_
          subst ec_
          clear en_
          have hcv11 := Kd.C_string (P := Tryz.prog) (A := A102_2) (c := c102_2) Tryz.underlying23 Tryz.underlying5 Tryz.underlying9 HR106_2.out
          have hcv11b := fun (n_ : Nat) => Kd.C_string (P := Tryz.prog) (A := A102_2) (c := c102_2) Tryz.underlying23 Tryz.underlying5 Tryz.underlying9 (Kd.C_drewN HR106_2.out n_)
          go_wp2
          repeat (go_quiet (fail); try go_wp2)
          go_roundg k1
          case measure => have := HK1.out; omega
          case rel => exact ⟨(wrap64 (x5_1 + 1)), (by first | rfl | (simp; done) | (simp [*]; done)), H', ⟨by have := HK1.out; omega⟩, by repeat (first | exact Drawn0.refl _ | apply Drawn0.step)⟩
         ·rw [if_neg c9] at H
          have c9b0 : ((strOfNums ((rd_T62 l0 x5_1).f2)).toList == (strOfNums ((rd_T62 l1 x5_1).f2)).toList) = false := beq_eq_false_iff_ne.mpr c9
          have c9b1 : ((strOfNums ((rd_T62 l0 x5_1).f2)).toList != (strOfNums ((rd_T62 l1 x5_1).f2)).toList) = true := bne_iff_ne.mpr c9
          obtain rfl := Option.some.inj H
          have p101 : 0 ≤ (x5_1 : Int) := of_decide_eq_true (by first | (with_reducible assumption) | assumption)
          have q101 : x5_1 < (l0.length : Int) := of_decide_eq_true (by first | (with_reducible assumption) | assumption)
          obtain ⟨ad101, A101_2, c101_2, e101, hx101_0, hx101_1, hx101_2, hl101_2, hi101_2⟩ := at_T62 HR0.out x5_1 p101 q101
          cases e101
          have HR101_2 := Aside0.mk hi101_2
          have HC101_2 := Aside0.mk hl101_2
          clear hi101_2 hl101_2
          replace p101 := eq_true p101
          replace q101 := eq_true q101
          have p102 : 0 ≤ (x5_1 : Int) := of_decide_eq_true (by first | (with_reducible assumption) | assumption)
          have q102 : x5_1 < (l1.length : Int) := of_decide_eq_true (by first | (with_reducible assumption) | assumption)
          obtain ⟨ad102, A102_2, c102_2, e102, hx102_0, hx102_1, hx102_2, hl102_2, hi102_2⟩ := at_T62 HR1.out x5_1 p102 q102
          cases e102
          have HR102_2 := Aside0.mk hi102_2
          have HC102_2 := Aside0.mk hl102_2
          clear hi102_2 hl102_2
          replace p102 := eq_true p102
          replace q102 := eq_true q102
          have p103 : 0 ≤ (x5_1 : Int) := of_decide_eq_true (by first | (with_reducible assumption) | assumption)
          have q103 : x5_1 < (l0.length : Int) := of_decide_eq_true (by first | (with_reducible assumption) | assumption)
          obtain ⟨ad103, A103_2, c103_2, e103, hx103_0, hx103_1, hx103_2, hl103_2, hi103_2⟩ := at_T62 HR0.out x5_1 p103 q103
          obtain rfl : ad101 = ad103 := (by injection e103)
          have HR103_2 := Aside0.mk hi103_2
          have HC103_2 := Aside0.mk hl103_2
          clear hi103_2 hl103_2
          replace p103 := eq_true p103
          replace q103 := eq_true q103
          have ea_ := Option.some.inj (hx101_2.symm.trans hx103_2)
          injection ea_ with ea_ en_ ec_
          subst ea_
          subst ec_
          clear en_
          have p104 : 0 ≤ (x5_1 : Int) := of_decide_eq_true (by first | (with_reducible assumption) | assumption)
          have q104 : x5_1 < (l1.length : Int) := of_decide_eq_true (by first | (with_reducible assumption) | assumption)
          obtain ⟨ad104, A104_2, c104_2, e104, hx104_0, hx104_1, hx104_2, hl104_2, hi104_2⟩ := at_T62 HR1.out x5_1 p104 q104
          obtain rfl : ad102 = ad104 := (by injection e104)
          have HR104_2 := Aside0.mk hi104_2
          have HC104_2 := Aside0.mk hl104_2
          clear hi104_2 hl104_2
          replace p104 := eq_true p104
          replace q104 := eq_true q104
          have ea_ := Option.some.inj (hx102_2.symm.trans hx104_2)
          injection ea_ with ea_ en_ ec_
          subst ea_
          subst ec_
          clear en_
          have p105 : 0 ≤ (x5_1 : Int) := of_decide_eq_true (by first | (with_reducible assumption) | assumption)
          have q105 : x5_1 < (l0.length : Int) := of_decide_eq_true (by first | (with_reducible assumption) | assumption)
          obtain ⟨ad105, A105_2, c105_2, e105, hx105_0, hx105_1, hx105_2, hl105_2, hi105_2⟩ := at_T62 HR0.out x5_1 p105 q105
          obtain rfl : ad101 = ad105 := (by injection e105)
          have HR105_2 := Aside0.mk hi105_2
          have HC105_2 := Aside0.mk hl105_2
          clear hi105_2 hl105_2
          replace p105 := eq_true p105
          replace q105 := eq_true q105
          have ea_ := Option.some.inj (hx101_2.symm.trans hx105_2)
          injection ea_ with ea_ en_ ec_
          subst ea_
          subst ec_
          clear en_
          have hcv12 := Kd.C_string (P := Tryz.prog) (A := A101_2) (c := c101_2) Tryz.underlying23 Tryz.underlying5 Tryz.underlying9 HR105_2.out
          have hcv12b := fun (n_ : Nat) => Kd.C_string (P := Tryz.prog) (A := A101_2) (c := c101_2) Tryz.underlying23 Tryz.underlying5 Tryz.underlying9 (Kd.C_drewN HR105_2.out n_)
          have p106 : 0 ≤ (x5_1 : Int) := of_decide_eq_true (by first | (with_reducible assumption) | assumption)
          have q106 : x5_1 < (l1.length : Int) := of_decide_eq_true (by first | (with_reducible assumption) | assumption)
          obtain ⟨ad106, A106_2, c106_2, e106, hx106_0, hx106_1, hx106_2, hl106_2, hi106_2⟩ := at_T62 HR1.out x5_1 p106 q106
          obtain rfl : ad102 = ad106 := (by injection e106)
          have HR106_2 := Aside0.mk hi106_2
          have HC106_2 := Aside0.mk hl106_2
          clear hi106_2 hl106_2
          replace p106 := eq_true p106
          replace q106 := eq_true q106
          have ea_ := Option.some.inj (hx102_2.symm.trans hx106_2)
          injection ea_ with ea_ en_ ec_
          subst ea_
          subst ec_
          clear en_
          have hcv13 := Kd.C_string (P := Tryz.prog) (A := A102_2) (c := c102_2) Tryz.underlying23 Tryz.underlying5 Tryz.underlying9 HR106_2.out
          have hcv13b := fun (n_ : Nat) => Kd.C_string (P := Tryz.prog) (A := A102_2) (c := c102_2) Tryz.underlying23 Tryz.underlying5 Tryz.underlying9 (Kd.C_drewN HR106_2.out n_)
          go_wp2
          repeat (go_quiet (fail); try go_wp2)
          go_ret
          exact ⟨by first | rfl | (simp; done) | (simp [*]; done), by repeat (first | exact Drawn0.refl _ | apply Drawn0.step)⟩
       ·rw [if_neg c7] at H
        have c7b0 : (((rd_T62 l0 x5_1).f0).toList == ((rd_T62 l1 x5_1).f0).toList) = false := beq_eq_false_iff_ne.mpr c7
        have c7b1 : (((rd_T62 l0 x5_1).f0).toList != ((rd_T62 l1 x5_1).f0).toList) = true := bne_iff_ne.mpr c7
        obtain rfl := Option.some.inj H
        have p101 : 0 ≤ (x5_1 : Int) := of_decide_eq_true (by first | (with_reducible assumption) | assumption)
        have q101 : x5_1 < (l0.length : Int) := of_decide_eq_true (by first | (with_reducible assumption) | assumption)
        obtain ⟨ad101, A101_2, c101_2, e101, hx101_0, hx101_1, hx101_2, hl101_2, hi101_2⟩ := at_T62 HR0.out x5_1 p101 q101
        cases e101
        have HR101_2 := Aside0.mk hi101_2
        have HC101_2 := Aside0.mk hl101_2
        clear hi101_2 hl101_2
        replace p101 := eq_true p101
        replace q101 := eq_true q101
        have p102 : 0 ≤ (x5_1 : Int) := of_decide_eq_true (by first | (with_reducible assumption) | assumption)
        have q102 : x5_1 < (l1.length : Int) := of_decide_eq_true (by first | (with_reducible assumption) | assumption)
        obtain ⟨ad102, A102_2, c102_2, e102, hx102_0, hx102_1, hx102_2, hl102_2, hi102_2⟩ := at_T62 HR1.out x5_1 p102 q102
        cases e102
        have HR102_2 := Aside0.mk hi102_2
        have HC102_2 := Aside0.mk hl102_2
        clear hi102_2 hl102_2
        replace p102 := eq_true p102
        replace q102 := eq_true q102
        go_wp2
        repeat (go_quiet (fail); try go_wp2)
        go_ret
        exact ⟨by first | rfl | (simp; done) | (simp [*]; done), by repeat (first | exact Drawn0.refl _ | apply Drawn0.step)⟩
      ·rw [if_neg c6] at H
       exact absurd H (by simp)
     ·rw [if_neg c5] at H
      exact absurd H (by simp)
    ·rw [if_neg c4] at H
     have c4b0 : decide (x5_1 < (l0.length : Int)) = false := decide_eq_false c4
     clear c4
     obtain rfl := Option.some.inj H
     go_wp2
     repeat (go_quiet (fail); try go_wp2)
     go_ret
     exact ⟨by first | rfl | (simp; done) | (simp [*]; done), by repeat (first | exact Drawn0.refl _ | apply Drawn0.step)⟩
 ·rw [if_neg c3] at H
  have c3b0 : ((l0.length : Int) == (l1.length : Int)) = false := beq_eq_false_iff_ne.mpr c3
  have c3b1 : ((l0.length : Int) != (l1.length : Int)) = true := bne_iff_ne.mpr c3
  have c3b2 : (l0.length == l1.length) = false := by first | simpa using c3 | (simp at c3 ⊢; omega)
  obtain rfl := Option.some.inj H
  go_enter Tryz.func11, Tryz.ntmps11
  go_wp2
  repeat (go_quiet (fail); try go_wp2)
  go_ret
  exact ⟨by first | rfl | (simp; done) | (simp [*]; done), by repeat (first | exact Drawn0.refl _ | apply Drawn0.step)⟩
end Go.Proofs.YtmajfcdfafhkfaaGreatDoor.P
namespace Go.Proofs.YtmajfcdfafhkfaaGreatDoor.H
open Go.RowKit Go.Proofs.YtmajfcdfafhkfaaGreatDoorW.PrintWords Go.Proofs.YtmajfcdfafhkfaaGreatDoorW.PrintLast Go.Proofs.YtmajfcdfafhkfaaGreatDoor.Leaf Go.Proofs.YtmajfcdfafhkfaaGreatDoor.P
set_option linter.unusedVariables false
set_option linter.unusedSimpArgs false
set_option maxHeartbeats 4000000
set_option maxRecDepth 100000
theorem toA_inj {a b : S62} (h : toA a = toA b) : a = b := by
  unfold toA at h
  simp only [Prod.mk.injEq] at h
  obtain ⟨h1, h2, h3⟩ := h
  obtain ⟨a0, a1, a2⟩ := a
  obtain ⟨b0, b1, b2⟩ := b
  simp only at h1 h2 h3
  rw [kb_inj _ _ h1, h2, h3]
theorem map_toA_inj : ∀ {l m : List S62}, l.map toA = m.map toA → l = m
  | [], [], _ => rfl
  | [], _ :: _, h => by cases h
  | _ :: _, [], h => by cases h
  | a :: l, b :: m, h => by
    simp only [List.map_cons, List.cons.injEq] at h
    rw [toA_inj h.1, map_toA_inj h.2]
theorem same_on (l : List S62) (hl : l.length < 1000000000) : ∀ (k i : Nat), l.length < i + k → i ≤ l.length → mooringref09_Same.l0 k l l (i : Int) = some true
  | 0, i, h, hi => by omega
  | k + 1, i, h, hi => by
    unfold mooringref09_Same.l0
    by_cases hlt : i < l.length
    · rw [if_pos (by omega), if_pos (by omega), if_pos (by omega), if_pos rfl, if_neg (by simp), if_pos rfl]
      rw [show wrap64 ((i : Int) + 1) = ((i + 1 : Nat) : Int) by unfold wrap64; omega]
      exact same_on l hl k (i + 1) (by omega) (by omega)
    · rw [if_neg (by omega)]
theorem same_self (l : List S62) (hl : l.length < 1000000000) : mooringref09_Same.f (l.length + 1) l l = some true := by
  unfold mooringref09_Same.f
  rw [if_pos rfl]
  exact same_on l hl (l.length + 1) 0 (by omega) (by omega)
theorem enc_ok {W w' : World} {e : Ending} {l : List S62} (h : EncR W w' e l) (h1 : l.length ≤ 256) (h2 : ∀ a ∈ l, Wr.may (toA a)) (h3 : (Wr.encs (l.map toA)).length ≤ 13005) :
    ∃ v, e = .returned (.tuple #[v, .int .i64 0]) ∧ Kd.R (Kd.int .u8) 5 w' W.heap.size (fun k => W.heap.size ≤ k) v (Wr.encs (l.map toA)) := by
  rcases h with ⟨_, _, _, h⟩ | ⟨h, _⟩ | ⟨_, _, h, _⟩
  · exact h
  · exact absurd ⟨h1, h2⟩ h
  · omega
theorem enc_arg {W w' : World} {e : Ending} {l : List S62} (h : EncR W w' e l) (h1 : ¬ (l.length ≤ 256 ∧ ∀ a ∈ l, Wr.may (toA a))) : e = .returned (.tuple #[.slice none 0 0, .int .i64 1]) := by
  rcases h with ⟨a, b, _⟩ | ⟨_, h⟩ | ⟨a, b, _⟩
  · exact absurd ⟨a, b⟩ h1
  · exact h
  · exact absurd ⟨a, b⟩ h1
theorem enc_long {W w' : World} {e : Ending} {l : List S62} (h : EncR W w' e l) (h1 : l.length ≤ 256) (h2 : ∀ a ∈ l, Wr.may (toA a)) (h3 : 13005 < (Wr.encs (l.map toA)).length) : e = .returned (.tuple #[.slice none 0 0, .int .i64 3]) := by
  rcases h with ⟨_, _, h, _⟩ | ⟨h, _⟩ | ⟨_, _, _, h⟩
  · omega
  · exact absurd ⟨h1, h2⟩ h
  · exact h
theorem enc1_byte (a : Wr.Act) (h1 : Wr.Byte a.1) (h2 : Wr.Byte a.2.2) : Wr.Byte (Wr.enc1 a) := by
  unfold Wr.enc1
  refine (Wr.uv_byte _).app (h1.app ?_)
  split
  · intro c hc
    rcases List.mem_cons.1 hc with rfl | hc
    · decide
    · exact ((Wr.uv_byte _).app h2) c hc
  · intro c hc
    rw [List.mem_singleton.1 hc]
    decide
theorem encs_byte (l : List S62) (h : ∀ x ∈ l, Wr.Byte x.f2) : Wr.Byte (Wr.encs (l.map toA)) := by
  unfold Wr.encs
  refine (Wr.uv_byte _).app (fun c hc => ?_)
  obtain ⟨a, ha, hca⟩ := List.mem_flatMap.1 hc
  obtain ⟨x, hx, rfl⟩ := List.mem_map.1 ha
  exact enc1_byte _ (kb_byte _) (h x hx) c hca
theorem dec_ok {W w' : World} {e : Ending} {b : List Int} {l : List S62} (h : DecR W w' e b) (hd : Wr.dec b = some (l.map toA)) (hb : b.length ≤ 13005) :
    ∃ v, e = .returned (.tuple #[v, .int .i64 0]) ∧ Kd.R k62 62 w' W.heap.size (fun k => W.heap.size ≤ k) v l := by
  rcases h with ⟨v, m, h1, h2, h3, h4⟩ | ⟨h1 | h1, _⟩
  · rw [hd] at h1
    have := map_toA_inj (Option.some.inj h1)
    subst this
    exact ⟨v, h3, h4⟩
  · rw [hd] at h1; cases h1
  · omega
theorem StoreCodes_calls (W : World) (A : Option Addr) (n c : Nat) (l : List S62) (hC : Kd.C k62 W A n l) (hn : n ≤ 9223372036854775807) (hc : n ≤ c) (hby : ∀ x ∈ l, Wr.Byte x.f2) :
    Calls Tryz.prog 3 #[.slice A n c] W fun e w' => e = .returned (.bool true) ∧ Below W.heap.size W w' := by
  have HC := Aside0.mk hC
  have HL := Aside0.mk hC.1
  have HE1 := Aside0.mk (store_Encode W A n c l hC hn)
  have HCV := Aside0.mk conv_nil
  by_cases hp : l.length ≤ 256 ∧ ∀ a ∈ l, Wr.may (toA a)
  · obtain ⟨p1, p2⟩ := hp
    by_cases hb : 13005 < (Wr.encs (l.map toA)).length
    · have HP := Aside0.mk (And.intro p1 (And.intro p2 hb))
      have hcv := conv_nil
      clear hC p1 p2 hb hby
      go_enter Tryz.func3, Tryz.ntmps3
      go_wp2_with (first | (go_at_call 7; refine HE1.out.mono ?_; rintro e w1 ⟨hE, hb⟩; have he := enc_long hE HP.out.1 HP.out.2.1 HP.out.2.2; subst he; have HB1 := Aside0.mk hb; have HE2 := Aside0.mk (ref_Encode w1 A n c l (Kd.C_below HC.out hb) hn); clear hE hb) | (go_at_call 8; refine HE2.out.mono ?_; rintro e w2 ⟨hE, hb⟩; have he := enc_long hE HP.out.1 HP.out.2.1 HP.out.2.2; subst he; have HB2 := Aside0.mk (below_step HB1.out hb); have HA := Aside0.mk (awake_ w2); clear hE hb) | (go_at_call 9; refine HA.out.mono ?_; rintro e w3 ⟨rfl, hb⟩; have HB3 := Aside0.mk (below_step HB2.out hb); clear hb))
      go_ret
      exact ⟨rfl, HB3.out⟩
    · have HP := Aside0.mk (And.intro p1 (And.intro p2 (show (Wr.encs (l.map toA)).length ≤ 13005 by omega)))
      have HDE : Aside0 (Wr.dec (Wr.encs (l.map toA)) = some (l.map toA)) := ⟨Wr.dec_enc _ (by rw [List.length_map]; exact p1) (fun a ha => by obtain ⟨x, hx, rfl⟩ := List.mem_map.1 ha; exact p2 x hx)⟩
      have HBY := Aside0.mk (encs_byte l hby)
      have HLL := Aside0.mk (show l.length < 1000000000 by omega)
      have hnl : n = l.length := HL.out.symm
      subst hnl
      generalize hbs : Wr.encs (l.map toA) = bs at *
      have HBS := Aside0.mk hbs
      clear hC p1 p2 hb hby hbs
      go_enter Tryz.func3, Tryz.ntmps3
      go_wp2_with (first | (go_at_call 7; refine HE1.out.mono ?_; rintro e w1 ⟨hE, hb⟩; obtain ⟨v1, he, hR1⟩ := enc_ok hE HP.out.1 HP.out.2.1 (by rw [HBS.out]; exact HP.out.2.2); subst he; rw [HBS.out] at hR1; obtain ⟨A1, c1, rfl, _, hc1, hC1⟩ := R_own hR1; have HV1 := Aside0.mk (And.intro hc1 hC1); have HB1 := Aside0.mk hb; have HE2 := Aside0.mk (ref_Encode w1 A l.length c l (Kd.C_below HC.out hb) hn); clear hE hb hR1 hc1 hC1) | (go_at_call 8; refine HE2.out.mono ?_; rintro e w2 ⟨hE, hb⟩; obtain ⟨v2, he, hR2⟩ := enc_ok hE HP.out.1 HP.out.2.1 (by rw [HBS.out]; exact HP.out.2.2); subst he; rw [HBS.out] at hR2; obtain ⟨A2, c2, rfl, _, hc2, hC2⟩ := R_own hR2; have HB2 := Aside0.mk (below_step HB1.out hb); have hcv1 := str_of w2 A1 c1 bs (Kd.C_below HV1.out.2 hb); have hcv2 := str_of w2 A2 c2 bs hC2; have HDC := Aside0.mk (store_Decode w2 A1 c1 bs (Kd.C_below HV1.out.2 hb) HV1.out.1 (by have := HP.out.2.2; omega) HBY.out); clear hE hb hR2 hc2 hC2) | (go_at_call 10; refine HDC.out.mono ?_; rintro e w3 ⟨hD, hb⟩; obtain ⟨v3, he, hR3⟩ := dec_ok hD HDE.out HP.out.2.2; subst he; obtain ⟨A3, c3, rfl⟩ := Kd.R_slice hR3; have HB3 := Aside0.mk (below_step HB2.out hb); have HSM := Aside0.mk (mooringref09_Same.calls (l.length + 1) A3 c3 l A c l true w3 (Kd.R_reads' hR3).2.2 (Kd.R_reads' hR3).2.1 (Kd.C_below HC.out HB3.out) hc (same_self l HLL.out)); clear hD hb hR3 hcv1 hcv2) | (go_at_call 11; refine HSM.out.mono ?_; rintro e w4 ⟨rfl, ⟨nd, rfl⟩⟩; have HB4 := Aside0.mk (pw_below_drewN HB3.out nd); have HA := Aside0.mk (awake_ (w3.drewN nd))) | (go_at_call 9; refine HA.out.mono ?_; rintro e w5 ⟨rfl, hb⟩; have HB5 := Aside0.mk (below_step HB4.out hb); clear hb))
      go_ret
      exact ⟨rfl, HB5.out⟩
  · have HP := Aside0.mk hp
    have hcv := conv_nil
    clear hC hp hby
    go_enter Tryz.func3, Tryz.ntmps3
    go_wp2_with (first | (go_at_call 7; refine HE1.out.mono ?_; rintro e w1 ⟨hE, hb⟩; have he := enc_arg hE HP.out; subst he; have HB1 := Aside0.mk hb; have HE2 := Aside0.mk (ref_Encode w1 A n c l (Kd.C_below HC.out hb) hn); clear hE hb) | (go_at_call 8; refine HE2.out.mono ?_; rintro e w2 ⟨hE, hb⟩; have he := enc_arg hE HP.out; subst he; have HB2 := Aside0.mk (below_step HB1.out hb); have HA := Aside0.mk (awake_ w2); clear hE hb) | (go_at_call 9; refine HA.out.mono ?_; rintro e w3 ⟨rfl, hb⟩; have HB3 := Aside0.mk (below_step HB2.out hb); clear hb))
    go_ret
    exact ⟨rfl, HB3.out⟩
end Go.Proofs.YtmajfcdfafhkfaaGreatDoor.H
namespace Go.Proofs.YtmajfcdfafhkfaaGreatDoor.H
open Go.RowKit Go.Deep Go.ChangeShapes Go.WideShapes Go.ChangeMaps Go.Proofs.YtmajfcdfafhkfaaGreatDoorW.PrintWords Go.Proofs.YtmajfcdfafhkfaaGreatDoorW.PrintLast Go.Proofs.YtmajfcdfafhkfaaGreatDoor.Leaf Go.Proofs.YtmajfcdfafhkfaaGreatDoor.P
set_option linter.unusedVariables false
set_option linter.unusedSimpArgs false
set_option maxHeartbeats 1000000
set_option maxRecDepth 100000
theorem bytes_wf {n : Int} (h : (Lit.int .u8 n).wf = true) : 0 ≤ n ∧ n < 256 := by
  have h2 : IntKind.u8.min ≤ n ∧ n ≤ IntKind.u8.max := by simpa [Lit.wf] using h
  have e1 : IntKind.u8.min = 0 := by decide
  have e2 : IntKind.u8.max = 255 := by decide
  omega
theorem row_of {w : World} {a : Addr} {len cap : Nat} {zs : List Int} (hl : len ≤ cap) (hm : cap ≤ maxLen) (hz : zs.length = cap) (hc : ∀ i, i < zs.length → w.cell? (a.add i) = some (.int .u8 (zs.getD i 0))) : Kd.C (Kd.int .u8) w (some a) (zs.take len).length (zs.take len) := by
  have hlen : (zs.take len).length = len := by rw [List.length_take]; omega
  refine ⟨rfl, by rw [hlen]; unfold maxLen at hm; omega, fun _ => ⟨_, rfl, fun j q hj => ?_⟩⟩
  refine ⟨[.int .u8 q], rfl, rfl, fun i u hu => ?_⟩
  have hi : i = 0 := by have := (List.getElem?_eq_some_iff.1 hu).1; simpa using this
  subst hi
  cases hu
  have hjl := (List.getElem?_eq_some_iff.1 hj).1
  rw [show j * (Kd.int .u8).sz + 0 = j by show j * 1 + 0 = j; omega, hc j (by omega)]
  rw [List.getElem?_take_of_lt (by omega)] at hj
  rw [List.getD_eq_getElem?_getD, hj]
  rfl
theorem act_arg {H : Type} {enc : TypeId × Value → H} {W : World} {fuel : Nat} {cs : List Value} {x : DataW H × List MemPlace} (h : DataW.trod enc Tryz.prog W 0 (fun _ => true) true fuel 62 cs = some x) : ∃ y : S62, k62.K W y cs ∧ Wr.Byte y.f2 := by
  obtain ⟨y0, y1, y2, n, _, hl, h0, h1, h2⟩ := trod_struct3 Tryz.underlying62 h
  have hc3 : Tryz.prog.cellsOf 62 = 3 := by kernel_rfl
  have c9 : Tryz.prog.cellsOf 9 = 1 := by kernel_rfl
  have c4 : Tryz.prog.cellsOf 4 = 1 := by kernel_rfl
  have c23 : Tryz.prog.cellsOf 23 = 1 := by kernel_rfl
  rw [hc3] at hl
  match cs, hl with
  | [v0, v1, v2], _ =>
    rw [show (Field.mk "Key" 9 0 false "" "" 0).type = 9 from rfl] at h0
    simp only [c9, c4, c23, List.drop_zero, List.drop_succ_cons, List.take_succ_cons, List.take_zero] at h0 h1 h2
    obtain ⟨s, hs, _, _⟩ := DataW.trod_string Tryz.underlying9 h0
    obtain ⟨b, hb, _⟩ := DataW.trod_bool Tryz.underlying4 h1
    cases hs
    cases hb
    rcases open_ints Tryz.underlying23 Tryz.underlying5 (by kernel_rfl) h2 with ⟨hcs, _⟩ | ⟨a, len, cap, zs, hcs, _, hlc, hm, hz, _, hcell, hwf⟩
    · cases hcs
      exact ⟨⟨s, b, []⟩, k62_mk W ⟨s, b, []⟩ (Nat.le_refl _) (Kd.C_nil _ _), fun c hc => by cases hc⟩
    · cases hcs
      have hz' : zs.length = cap := by simpa using hz
      have hlen : (zs.take len).length = len := by rw [List.length_take]; omega
      have hk := k62_mk W ⟨s, b, zs.take len⟩ (A2 := some a) (c2 := cap) (by show (zs.take len).length ≤ cap; omega) (row_of hlc hm hz' hcell)
      rw [show (⟨s, b, zs.take len⟩ : S62).f2.length = len from hlen] at hk
      exact ⟨⟨s, b, zs.take len⟩, hk, fun c hc => bytes_wf (hwf c (List.mem_of_mem_take hc))⟩
theorem acts_arg {H : Type} {enc : TypeId × Value → H} {W : World} {a : Option Addr} {len cap : Nat} {d : DataW H} {ps : List MemPlace} (h : DataW.Trod enc Tryz.prog W 0 (fun _ => true) true 22 (.slice a len cap) d ps) :
    ∃ l : List S62, len = l.length ∧ len ≤ cap ∧ Kd.C k62 W a len l ∧ len ≤ 9223372036854775807 ∧ ∀ x ∈ l, Wr.Byte x.f2 := by
  obtain ⟨fuel, hf⟩ := h
  rcases open_slice Tryz.underlying22 hf with ⟨hcs, _⟩ | ⟨a', len', cap', m, n, D, Pl, hcs, _, hl, hm, hmm, _, hx⟩
  · simp [Value.cells] at hcs
    obtain ⟨rfl, rfl, rfl⟩ := hcs
    exact ⟨[], rfl, Nat.le_refl _, Kd.C_nil _ _, by decide, fun x hx => by cases hx⟩
  · simp [Value.cells] at hcs
    obtain ⟨rfl, rfl, rfl⟩ := hcs
    have hc3 : Tryz.prog.cellsOf 62 = 3 := by kernel_rfl
    rw [hc3] at hx
    have hlen : len ≤ 9223372036854775807 := by unfold maxLen at hm; omega
    have hmc : len ≤ m := by rw [hmm]; simpa using hl
    haveI : Inhabited S62 := ⟨z62⟩
    obtain ⟨V, hV⟩ := choose_lt (α := S62) (n := len) (p := fun i y => ∃ cs', W.cells? 0 (a'.add (i * 3)) 3 = some cs' ∧ k62.K W y cs' ∧ Wr.Byte y.f2) (fun i hi => by
      obtain ⟨cs', h1, h2⟩ := hx i (by omega)
      obtain ⟨y, hy1, hy2⟩ := act_arg h2
      exact ⟨y, cs', h1, hy1, hy2⟩)
    have hll : ((List.range len).map V).length = len := by simp
    refine ⟨(List.range len).map V, hll.symm, hl, ⟨hll, hlen, fun _ => ⟨_, rfl, fun j q hj => ?_⟩⟩, hlen, fun x hx' => ?_⟩
    · have hjl : j < len := by have := (List.getElem?_eq_some_iff.1 hj).1; omega
      obtain ⟨cs', h1, h2, _⟩ := hV j hjl
      rw [List.getElem?_map, List.getElem?_range hjl] at hj
      cases hj
      obtain ⟨_, hcl, hcells⟩ := World.cells?_some h1
      refine ⟨cs', hcl, h2, fun i u hu => ?_⟩
      have hi : i < 3 := by have := (List.getElem?_eq_some_iff.1 hu).1; omega
      rw [← hu, ← hcells i hi]
      show W.cell? (a'.add (j * 3 + i)) = W.cell? ((a'.add (j * 3)).add i)
      rw [Go.Deep.add_add]
    · obtain ⟨j, hj, rfl⟩ := List.mem_map.1 hx'
      obtain ⟨_, _, _, h3⟩ := hV j (List.mem_range.1 hj)
      exact h3
end Go.Proofs.YtmajfcdfafhkfaaGreatDoor.H
