/- Words and walks that the claim RebuildChunks leans on (what it does not use is left out). -/
import Derived.Test.YtnfgiamdmfkcjaaDoorMRebuildChunks10
import Derived.Deep.RegionHeld3
import Derived.BigQuiet
import Derived.BigRegion
import Derived.Deep.CutRange
import Derived.StillTailTactics
import Derived.Deep.RegionWith
import Derived.Test.YtnfgiamdmfkcjaaDoorMRebuildChunks1
import Derived.Test.YtnfgiamdmfkcjaaDoorMRebuildChunks9
import Derived.Test.YtnfgiamdmfkcjaaDoorMRebuildChunks8
import Derived.Test.YtnfgiamdmfkcjaaDoorMRebuildChunks3
set_option linter.unusedSimpArgs false
set_option linter.unusedVariables false
namespace Go.Proofs.YtnfgiamdmfkcjaaDoor.H
open Go.RowKit Go.Proofs.YtnfgiamdmfkcjaaDoorW.PrintWords Go.Proofs.YtnfgiamdmfkcjaaDoorW.PrintLast Go.Proofs.YtnfgiamdmfkcjaaDoor.Leaf Go.Proofs.YtnfgiamdmfkcjaaDoor.Gf Go.Proofs.YtnfgiamdmfkcjaaDoor.Red
def red_T : Bool × List (List Nat × List Nat) := (true, [([], []), ([], []), ([], []), ([], []), ([2, 3], [2, 3]), ([4], [4]), ([], []), ([], []), ([6, 7], [6, 7]), ([8], [8]), ([], []), ([5, 9, 10], [5, 9, 10]), ([11], [11]), ([12], [12]), ([12], [12]), ([0, 1, 0, 1, 2, 3, 4, 5, 6, 7, 8, 9, 10, 11, 12, 13], [0, 1]), ([15, 13, 11, 0, 1, 2, 3, 4, 5, 6, 7, 8, 9, 10, 11, 12, 13], [13, 15])])
def red_B : List Nat := [0, 0, 0, 0, 12, 28, 0, 0, 192, 448, 0, 2044, 4092, 8188, 8188, 16383, 49151]
theorem red_tab25 : rtab .any (opsOf Tryd.f69 25) = red_T := by kernel_rfl
theorem red_tab26 : rtab .any (opsOf Tryd.f69 26) = red_T := by kernel_rfl
theorem red_bits25 : waitsOk red_T.2 red_B = true := by kernel_rfl
theorem red_bits26 : waitsOk red_T.2 red_B = true := by kernel_rfl
set_option maxHeartbeats 8000000 in
set_option maxRecDepth 100000 in
theorem reduce_calls (w : World) (base ga ca gb cb n m p : Nat) (A Z : Mat) (hS : St w base ga ca gb cb n m p A Z) (hn : 0 < n) (hm : 0 < m) (hp : 0 < p) (hpp : p ≤ 255) (hnm : n ≤ 255) (hmm : m ≤ 255) (hbase : base ≤ w.heap.size) :
 Calls Tryd.prog 69 #[.slice (some ⟨ga, 0, none⟩) n ca, .slice (some ⟨gb, 0, none⟩) n cb] w fun e w' => e = .returned (.int .i64 ((redF m 0 0 A Z).1 : Int)) ∧ St w' base ga ca gb cb n m p (redF m 0 0 A Z).2.1 (redF m 0 0 A Z).2.2 ∧ Below base w w' := by
 obtain ⟨b0, c0, hcell0, _, hrw0⟩ := hS.read 0 hn
 have HS := Aside0.mk hS
 clear hS
 have hn0 : (0 : Int) < (n : Int) := by omega
 go_enter Tryd.func69, Tryd.ntmps69
 go_wp2
 go_loopg [5, 19] m (fun g d k wr => ∃ dd kk A' Z', d = .int .i64 ((dd : Nat) : Int) ∧ k = .int .i64 ((kk : Nat) : Int) ∧ kk + g = m ∧ dd < n ∧ St wr base ga ca gb cb n m p A' Z' ∧ Below base w wr ∧ redF g kk dd A' Z' = redF m 0 0 A Z)
 case atStart => exact ⟨0, 0, A, Z, rfl, rfl, Nat.zero_add _, hn, HS.out, Below.refl _ _, rfl⟩
 case round =>

  obtain ⟨dd, kk, A', Z', rfl, rfl, hk, hd, hS, hB, hR⟩ := hrel
  by_cases hlt : kk < m
  ·have hlt' : (kk : Int) < (m : Int) := by omega
   have hcut := cut_run ga n ca dd hd hS.cap.1
   have hidx := Aside0.mk (fun q W (hq : W.cell? q = some (.int .i64 (kk : Int))) (hb : Below wr.heap.size wr W) => idx_calls hS hd hnm hlt hq hb)
   have HS := Aside0.mk hS
   have HB := Aside0.mk hB
   have hR2 : redF ((gk - 1) + 1) kk dd A' Z' = redF m 0 0 A Z := by rw [show (gk - 1) + 1 = gk by omega]; exact hR
   simp only [redF] at hR2
   clear hS hB
   by_cases hneg : pivot A' dd kk < 0
   ·rw [if_pos hneg] at hR2
    have hR3 := Aside0.mk hR2
    clear hR2 hR
    have hd1 : decide (pivot A' dd kk < 0) = true := decide_eq_true hneg
    generalize pivot A' dd kk = pv at *
    go_wp2_with (first | (go_at_call 91; refine (hidx.out _ _ (by simp) (by repeat (first | exact Below.refl _ _ | apply zC_ | apply below_drew))).mono ?_; rintro e w' ⟨rfl, hb⟩))
    go_roundg (gk - 1)
    case rel =>
     have hbb := zE_ (zC_ (Below.refl _ _) _) hb
     exact ⟨dd, kk + 1, A', Z', rfl, by first | rfl | go_num, by omega, hd, HS.out.below hbb, below_then HB.out (Nat.le_trans hbase HB.out.size) hbb, hR3.out⟩
    case measure => omega
   ·rw [if_neg hneg] at hR2
    have hd1 : decide (pivot A' dd kk < 0) = false := decide_eq_false hneg
    obtain ⟨t, ht, htn, htx, hnone⟩ := pivot_hit HS.out.reg.1 hneg
    have HX := Aside0.mk htx
    have hAl : Aside0 (A'.length = n) := ⟨HS.out.reg.1.1⟩
    clear htx hnone
    rw [ht] at hR2 hd1 hidx
    rw [show gk - 1 = m - (kk + 1) by omega, Int.toNat_natCast] at hR2
    have hR3 := Aside0.mk hR2
    clear hR2 hR
    have hadd : IntKind.i64.wrap ((t : Int) + (dd : Int)) = ((dd + t : Nat) : Int) := by rw [IntWalk.i64_in _ (by omega)]; omega
    go_upto_region 8 with (first | (go_at_call 91; refine (hidx.out _ _ (by simp) (by repeat (first | exact Below.refl _ _ | apply zC_ | apply below_drew))).mono ?_; rintro e w' ⟨rfl, hb⟩))
    have hbb := zE_ (zC_ (Below.refl _ _) _) hb
    have hS1 := HS.out.below hbb
    have hB1 := below_then HB.out (Nat.le_trans hbase HB.out.size) hbb
    have hC0 : Col (wr.alloc (Obj.cells #[Value.int IntKind.i64 ↑kk] 3)) wr.heap.size kk := ⟨⟨#[Value.int IntKind.i64 ↑kk], heap_alloc_last wr _⟩, by simp⟩
    have hC1 := hC0.below hb
    clear hC0 hbb hb hidx HS HB hcut hd1 ht hneg hadd
    generalize wr.heap.size = q at *
    clear wr
    have hi1 : (0 : Int) ≤ ((dd + t : Nat) : Int) := by omega
    have hi2 : ((dd + t : Nat) : Int) < (n : Int) := by omega
    have hi3 : (0 : Int) ≤ (dd : Int) := by omega
    have hi4 : (dd : Int) < (n : Int) := by omega
    obtain ⟨bt, ct, hct, hft, hrt⟩ := hS1.read (dd + t) htn
    obtain ⟨bd, cd, hcd, hfd, hrd⟩ := hS1.read dd hd
    clear hrt hrd
    have HS := Aside0.mk hS1
    have HB := Aside0.mk hB1
    have HC := Aside0.mk hC1
    clear hS1 hB1 hC1
    obtain ⟨v1, hv1⟩ := cell?_setCell_some (w := w') (p := ⟨ga, dd + t, none⟩) (x := .slice (some ⟨bd, 0, none⟩) m cd) (q := ⟨ga, dd, none⟩) (v := .slice (some ⟨bd, 0, none⟩) m cd) hcd
    have hv1f : (w'.setCell ⟨ga, dd + t, none⟩ (.slice (some ⟨bd, 0, none⟩) m cd)).frozen? ⟨ga, dd, none⟩ = false := by rw [World.frozen?_setCell]; exact hfd
    go_region
    obtain ⟨hS1, hB1, hC1⟩ := HS.out.exch HB.out HC.out htn hd hct hcd
    clear HS HB HC hv1 hv1f hct hft hcd hfd
    generalize ((w'.setCell ⟨ga, dd + t, none⟩ (.slice (some ⟨bd, 0, none⟩) m cd)).setCell ⟨ga, dd, none⟩ (.slice (some ⟨bt, 0, none⟩) m ct)).drew = w2 at *
    obtain ⟨bt, ct, hct, hft, hrt⟩ := hS1.symm.read (dd + t) htn
    obtain ⟨bd, cd, hcd, hfd, hrd⟩ := hS1.symm.read dd hd
    clear hrt hrd
    have HS := Aside0.mk hS1
    have HB := Aside0.mk hB1
    have HC := Aside0.mk hC1
    clear hS1 hB1 hC1
    obtain ⟨v1, hv1⟩ := cell?_setCell_some (w := w2) (p := ⟨gb, dd + t, none⟩) (x := .slice (some ⟨bd, 0, none⟩) p cd) (q := ⟨gb, dd, none⟩) (v := .slice (some ⟨bd, 0, none⟩) p cd) hcd
    have hv1f : (w2.setCell ⟨gb, dd + t, none⟩ (.slice (some ⟨bd, 0, none⟩) p cd)).frozen? ⟨gb, dd, none⟩ = false := by rw [World.frozen?_setCell]; exact hfd
    go_wp2
    go_region
    obtain ⟨hS1', hB1, hC1⟩ := HS.out.symm.exch HB.out HC.out htn hd hct hcd
    have hS1 := hS1'.symm
    clear HS HB HC hv1 hv1f hct hft hcd hfd hS1' hi1 hi2
    generalize ((w2.setCell ⟨gb, dd + t, none⟩ (.slice (some ⟨bd, 0, none⟩) p cd)).setCell ⟨gb, dd, none⟩ (.slice (some ⟨bt, 0, none⟩) p ct)).drew = w3 at *
    -- inv
    obtain ⟨bA, cA, hcA, hfA, hrA⟩ := hS1.read dd hd
    obtain ⟨bZ, cZ, hcZ, hfZ, hrZ⟩ := hS1.symm.read dd hd
    clear hrZ
    have hxc := (hrA.cell kk (by rw [zG_, hS1.reg.1.2 dd hd]; exact hlt)).1
    rw [rd_ofL] at hxc
    have hqc := hC1.2
    have HSc := Aside0.mk (Sc.mk hS1 hB1 hC1 hcA hcZ)
    clear hS1 hB1 hC1 hrA
    have hk0 : (0 : Int) ≤ (kk : Int) := by omega
    have hinv := fun W => gf_Inv.calls (ofB (at0 (row (swapM A' (dd + t) dd) dd) kk)) _ _ W (gfInv_eq _)
    generalize hxx : ofB (at0 (row (swapM A' (dd + t) dd) dd) kk) = x at hxc hinv
    generalize hiv : inv (at0 (row (swapM A' (dd + t) dd) dd) kk) = iv at hinv
    generalize decide (at0 (row (swapM A' (dd + t) dd) dd) kk ≠ 0#8) = bb at hinv
    have HXX := Aside0.mk hxx
    have HIV := Aside0.mk hiv
    have hInv : Aside0 (∀ W, (Below w3.heap.size w3 W ∧ W.cell? ⟨ga, dd, none⟩ = some (.slice (some ⟨bA, 0, none⟩) m cA) ∧ W.cell? ⟨q, 0, none⟩ = some (.int .i64 (kk : Int)) ∧ W.cell? ⟨bA, kk, none⟩ = some (.int .u8 x)) →
     Calls Tryd.prog 64 #[.int .u8 x] W fun e w' => e = .returned (.tuple #[.int .u8 (ofB iv), .bool bb]) ∧ (Below w3.heap.size w3 w' ∧ w'.cell? ⟨ga, dd, none⟩ = some (.slice (some ⟨bA, 0, none⟩) m cA) ∧ w'.cell? ⟨q, 0, none⟩ = some (.int .i64 (kk : Int)) ∧ w'.cell? ⟨bA, kk, none⟩ = some (.int .u8 x))) :=
     ⟨fun W h => (hinv W).mono fun e w' ⟨he, hb⟩ => ⟨he, zE_ h.1 hb, zD_ hb h.2.1, zD_ hb h.2.2.1, zD_ hb h.2.2.2⟩⟩
    clear hxx hiv hinv
    go_wp2
    go_region_held3 (fun w' => Below w3.heap.size w3 w' ∧ w'.cell? ⟨ga, dd, none⟩ = some (.slice (some ⟨bA, 0, none⟩) m cA) ∧ w'.cell? ⟨q, 0, none⟩ = some (.int .i64 (kk : Int)) ∧ w'.cell? ⟨bA, kk, none⟩ = some (.int .u8 x)) (first | assumption | exact ⟨(Below.refl _ _).drew, hcA, hqc, hxc⟩)
     (first | (go_at_call 64; refine (hInv.out _ (by assumption)).mono ?_; rintro e w' ⟨rfl, hb⟩))
    obtain ⟨hb1, hcA', hqc', hxc'⟩ := hb
    have hSc := HSc.out.below HSc.out.size hb1
    clear hcA hcZ hqc hxc hInv HSc hfA hfZ hcA' hqc' hxc' hb1
    have hcA := hSc.ra
    have hcZ := hSc.rz
    have HSc := Aside0.mk hSc
    clear hSc
    go_wp2
    go_region
    obtain ⟨HSc4, HPr⟩ := HSc.out.start
    clear HSc hcA hcZ
    generalize (w'.alloc (.cells #[.slice (some ⟨bA, 0, none⟩) m cA, .slice (some ⟨bZ, 0, none⟩) p cZ] 22 (0, 0))).drew = w4 at *
    generalize w'.heap.size = g2 at *
    obtain ⟨A1, hA1⟩ : ∃ A1, A1 = swapM A' (dd + t) dd := ⟨_, rfl⟩
    obtain ⟨Z1, hZ1⟩ : ∃ Z1, Z1 = swapM Z' (dd + t) dd := ⟨_, rfl⟩
    rw [← hA1, ← hZ1] at HSc4
    obtain ⟨A2, hA2⟩ : ∃ A2, A2 = A1.set dd (scale iv (row A1 dd)) := ⟨_, rfl⟩
    obtain ⟨Z2, hZ2⟩ : ∃ Z2, Z2 = Z1.set dd (scale iv (row Z1 dd)) := ⟨_, rfl⟩
    have EA1 := Aside0.mk hA1
    have EZ1 := Aside0.mk hZ1
    have EA2 := Aside0.mk hA2
    have EZ2 := Aside0.mk hZ2
    clear hA1 hZ1 hA2 hZ2
    go_wp2
    go_loopg [81] 2 (fun gg s81 wr => ∃ i : Nat, i + gg = 2 ∧ s81 = .int .i64 (i : Int) ∧ Aside0 (Sc wr w base ga ca gb cb n m p (if 1 ≤ i then A2 else A1) (if 2 ≤ i then Z2 else Z1) q kk dd bA cA bZ cZ) ∧ Aside0 (Pr wr g2 (vv (.slice (some ⟨bA, 0, none⟩) m cA) (.slice (some ⟨bZ, 0, none⟩) p cZ))))
    case atStart => exact ⟨0, rfl, rfl, by simpa using HSc4, HPr⟩
    case round =>
     clear HSc4 HPr
     obtain ⟨i, hig, rfl, HSc, HPr⟩ := hrel
     by_cases hi2 : i < 2
     ·have hi2' : (i : Int) < 2 := by omega
      have hi0' : (0 : Int) ≤ (i : Int) := by omega
      obtain ⟨gX, cX, gY, cY, mX, mY, X, Y, bX, kX, bY, kY, hvv, hmX, HX1, HX2⟩ := Sc.pick hd hm hp EA2.out EZ2.out i hi2 HSc.out
      have hp2 := HPr.out.2 i hi2
      rw [hvv] at hp2
      clear hvv HSc
      have hle := (HX1.out.rw_ hd).reads.1.2.1
      rw [zG_, HX1.out.st.reg.1.2 dd hd] at hle
      go_wp2
      go_loopg [87] mX (fun gg s87 wr => ∃ (j : Nat) (r : List B), j + gg = mX ∧ s87 = .int .i64 (j : Int) ∧ r.length = mX ∧ Aside0 (scF iv gg j r = scale iv (row X dd)) ∧ Aside0 (Sc wr w base gX cX gY cY n mX mY (X.set dd r) Y q kk dd bX kX bY kY) ∧ Aside0 (Pr wr g2 (vv (.slice (some ⟨bA, 0, none⟩) m cA) (.slice (some ⟨bZ, 0, none⟩) p cZ))))
      case atStart => exact ⟨0, row X dd, Nat.zero_add _, rfl, HX1.out.st.reg.1.2 dd hd, ⟨by unfold scale; rw [HX1.out.st.reg.1.2 dd hd]⟩, ⟨by rw [set_self _ _ (by rw [HX1.out.st.reg.1.1]; exact hd)]; exact HX1.out⟩, HPr⟩
      case round =>
       have hXl : Aside0 (dd < X.length) := ⟨by rw [HX1.out.st.reg.1.1]; exact hd⟩
       clear HX1 HPr hp2
       obtain ⟨j, r, hjg, rfl, hrl, HE, HX1, HPr⟩ := hrel
       by_cases hj : j < mX
       ·have hj' : (j : Int) < (mX : Int) := by omega
        have hj0 : (0 : Int) ≤ (j : Int) := by omega
        have HRW : Aside0 (∀ W, Sc W w base gX cX gY cY n mX mY (X.set dd r) Y q kk dd bX kX bY kY → Rw W base bX kX (ofL r)) := ⟨fun W h => by have := h.rw_ hd; rw [row_set_self _ _ _ hXl.out] at this; exact this⟩
        obtain ⟨hcell, hfrz⟩ := (HRW.out _ HX1.out).cell j (by rw [zG_, hrl]; exact hj)
        have hC2 : Aside0 (∀ W, Below wr.heap.size wr W → W.cell? ⟨bX, j, none⟩ = some (.int .u8 (rd (ofL r) (j : Int))) ∧ W.frozen? ⟨bX, j, none⟩ = false) := ⟨fun W hb => (HRW.out _ (HX1.out.below HX1.out.size hb)).cell j (by rw [zG_, hrl]; exact hj)⟩
        have hmul : Aside0 (∀ W, Calls Tryd.prog 93 #[.int .u8 (rd (ofL r) (j : Int)), .int .u8 (ofB iv)] W fun e w' => e = .returned (.int .u8 (ofB (mul (at0 r j) iv))) ∧ Below W.heap.size W w') := ⟨fun W => by rw [rd_ofL]; exact gf_Mul.calls _ _ _ W (gfMul_eq _ _)⟩
        obtain ⟨y, hy⟩ : ∃ y, y = mul (at0 r j) iv := ⟨_, rfl⟩
        rw [← hy] at hmul
        have HY := Aside0.mk hy
        clear hy
        generalize rd (ofL r) (j : Int) = x at *
        go_wp2_with (go_at_call 93; refine (hmul.out _).mono ?_; rintro e w' ⟨rfl, hb⟩; obtain ⟨hcell2, hfrz2⟩ := hC2.out _ hb; have HB2 := Aside0.mk hb; clear hb)
        go_roundg (mX - (j + 1))
        case measure => omega
        case rel =>
         have hs := HX1.out.below HX1.out.size HB2.out
         have hp3 := HPr.out.below HB2.out
         obtain ⟨cs, hcs⟩ := (HRW.out _ hs).typed
         have hput := hs.put hd j y
         rw [row_set_self _ _ _ hXl.out, set_set'] at hput
         refine ⟨j + 1, r.set j y, by omega, by go_num, by rw [List.length_set]; exact hrl, ⟨?_⟩, ⟨hput⟩, ⟨hp3.put hcs (by decide) _⟩⟩
         rw [← HE.out, show gk = (mX - (j + 1)) + 1 by omega, HY.out]
         rfl
       ·have hj' : ¬ (j : Int) < (mX : Int) := by omega
        have hjm : gk = 0 := by omega
        have HE2 : Aside0 (r = scale iv (row X dd)) := ⟨by rw [← HE.out, hjm]; rfl⟩
        clear HE hjm
        go_wp2
        go_roundg (2 - (i + 1))
        case measure => omega
        case rel =>
         have := HX1.out
         rw [HE2.out] at this
         exact ⟨i + 1, by omega, by go_num, ⟨HX2.out _ this⟩, HPr⟩
     ·have hi2' : ¬ (i : Int) < 2 := by omega
      have hii : 2 ≤ i := by omega
      have hSc := HSc.out
      rw [if_pos (by omega), if_pos hii] at hSc
      have HSc := Aside0.mk hSc
      have EZ2' := EZ2.out
      have HZ2 := Aside0.mk EZ2'
      clear EZ2'
      clear hSc hii HPr
      clear hig
      have hA2l : Aside0 (A2.length = n) := ⟨HSc.out.st.reg.1.1⟩
      go_wp2
      go_loopg [103] n (fun gg s103 wr => ∃ (i : Nat) (Ai Zi : Mat), i + gg = n ∧ s103 = .int .i64 (i : Int) ∧ Aside0 (elF kk dd gg i Ai Zi = elF kk dd n 0 A2 Z2) ∧ Aside0 (St wr base ga ca gb cb n m p Ai Zi) ∧ Aside0 (Below base w wr) ∧ Aside0 (Col wr q kk))
      case atStart => exact ⟨0, A2, Z2, Nat.zero_add _, rfl, ⟨rfl⟩, ⟨HSc.out.st⟩, ⟨HSc.out.bl⟩, ⟨HSc.out.col⟩⟩
      case round =>
       clear HSc
       obtain ⟨i, Ai, Zi, hig, rfl, HE, HS, HB, HC⟩ := hrel
       by_cases hin : i < n
       ·have hin' : (i : Int) < (n : Int) := by omega
        have hi0 : (0 : Int) ≤ (i : Int) := by omega
        obtain ⟨bi, ci, hci, hfi, hri⟩ := HS.out.read i hin
        have hxc := (hri.cell kk (by rw [zG_, HS.out.reg.1.2 i hin]; exact hlt)).1
        rw [rd_ofL] at hxc
        have hqc := HC.out.2
        have HRI := Aside0.mk hri
        clear hri
        have HE1 : Aside0 ((if i ≠ dd ∧ el Ai i kk ≠ 0#8 then elF kk dd (gk - 1) (i + 1) (Ai.set i (am (row Ai i) (row Ai dd) (el Ai i kk) (row Ai i).length)) (Zi.set i (am (row Zi i) (row Zi dd) (el Ai i kk) (row Zi i).length)) else elF kk dd (gk - 1) (i + 1) Ai Zi) = elF kk dd n 0 A2 Z2) := ⟨by rw [← HE.out, show elF kk dd gk i Ai Zi = elF kk dd ((gk - 1) + 1) i Ai Zi by rw [show (gk - 1) + 1 = gk by omega]]; rfl⟩
        clear HE
        by_cases hskip : i ≠ dd ∧ el Ai i kk ≠ 0#8
        ·have HE : Aside0 (elF kk dd (gk - 1) (i + 1) (Ai.set i (am (row Ai i) (row Ai dd) (el Ai i kk) (row Ai i).length)) (Zi.set i (am (row Zi i) (row Zi dd) (el Ai i kk) (row Zi i).length)) = elF kk dd n 0 A2 Z2) := ⟨by have := HE1.out; rw [if_pos hskip] at this; exact this⟩
         clear HE1
         have t1 : ((i : Int) != (dd : Int)) = true := by simp; omega
         have t2 : (i == dd) = false := by simp [hskip.1]
         have t3 : (i != dd) = true := by simp [hskip.1]
         have hx0 : ofB (at0 (row Ai i) kk) ≠ 0 := fun h => hskip.2 ((ofB_eq_zero _).1 h)
         have t4 : (ofB (at0 (row Ai i) kk) != 0) = true := by simp [hx0]
         have t5 : (ofB (at0 (row Ai i) kk) == 0) = false := by simp [hx0]
         obtain ⟨bd, cd, hcd, hfd, hrd⟩ := HS.out.read dd hd
         clear hrd hfd
         have hadd : Aside0 (∀ W, St W base ga ca gb cb n m p Ai Zi → Below base w W → Col W q kk → W.cell? ⟨ga, i, none⟩ = some (.slice (some ⟨bi, 0, none⟩) m ci) → W.cell? ⟨ga, dd, none⟩ = some (.slice (some ⟨bd, 0, none⟩) m cd) → _) := ⟨fun W h1 h2 h3 h4 h5 => h1.addm h2 h3 hin hd h4 h5 hm hmm (el Ai i kk)⟩
         have HXE : Aside0 (ofB (el Ai i kk) = ofB (at0 (row Ai i) kk)) := ⟨rfl⟩
         rw [HXE.out] at hadd
         clear hx0 hskip
         generalize ofB (at0 (row Ai i) kk) = x at *
         go_wp2
         go_quiet (fail)
         have HS5 : Aside0 (St (wr.drewN nq) base ga ca gb cb n m p Ai Zi) := ⟨HS.out.below (zA_ (Below.refl _ _) _)⟩
         have HB5 : Aside0 (Below base w (wr.drewN nq)) := ⟨zA_ HB.out _⟩
         have HC5 : Aside0 (Col (wr.drewN nq) q kk) := ⟨HC.out.below (zA_ (Below.refl _ _) _)⟩
         have hci5 : (wr.drewN nq).cell? ⟨ga, i, none⟩ = some (.slice (some ⟨bi, 0, none⟩) m ci) := hci
         have hcd5 : (wr.drewN nq).cell? ⟨ga, dd, none⟩ = some (.slice (some ⟨bd, 0, none⟩) m cd) := hcd
         clear HS HB HC hci hcd hqc hxc hfi HRI
         generalize wr.drewN nq = w5 at *
         go_upto_region 25 with (fail)
         refine start_ (n := 17) (S := (fun w' => w'.cell? ⟨ga, i, none⟩ = some (.slice (some ⟨bi, 0, none⟩) m ci) ∧ w'.cell? ⟨ga, dd, none⟩ = some (.slice (some ⟨bd, 0, none⟩) m cd))) (ds := [16]) (bsA 17 0) (by kernel_rfl) rfl rfl ⟨hci5, hcd5⟩ (fun hHeld => ?_); refine with_tabW red_tab25 red_bits25 (fun HT_ HW_ => ?_)
         replace HS5 : Aside0 (St w5.drew _ _ _ _ _ _ _ _ _ _) := ⟨HS5.out.drew⟩
         replace HB5 : Aside0 (Below base w w5.drew) := ⟨below_drew HB5.out⟩
         replace HC5 : Aside0 (Col w5.drew q kk) := ⟨HC5.out.drew⟩
         replace hci5 : w5.drew.cell? ⟨ga, i, none⟩ = some (.slice (some ⟨bi, 0, none⟩) m ci) := hci5
         replace hcd5 : w5.drew.cell? ⟨ga, dd, none⟩ = some (.slice (some ⟨bd, 0, none⟩) m cd) := hcd5
         generalize w5.drew = w6 at HS5 HB5 HC5 hci5 hcd5 hHeld ⊢
         refine pure_ (i := 0) (N := some 121) (v := ?_) (a' := ?_) (bsA 17 1) rfl rfl (any_of HT_.out (by kernel_rfl)) (fun _ _ _ h => h) (Or.inl ⟨by rfl, ?_⟩) ?_ ?_
         rotate_left
         ·intro w'
          go_simp
          with_reducible rfl
         rotate_left
         ·simp only [Act.put, qA_, qB_, qC_, i64_w, i32_w]
          rfl
         refine pure_ (i := 1) (N := some 122) (v := ?_) (a' := ?_) (bsA 17 3) rfl rfl (any_of HT_.out (by kernel_rfl)) (fun _ _ _ h => h) (Or.inl ⟨by rfl, ?_⟩) ?_ ?_
         rotate_left
         ·intro w'
          go_simp
          with_reducible rfl
         rotate_left
         ·simp only [Act.put, qA_, qB_, qC_, i64_w, i32_w]
          rfl
         refine pure_ (i := 2) (N := some 123) (v := ?_) (a' := ?_) (bsA 17 7) rfl rfl (any_of HT_.out (by kernel_rfl)) (fun _ _ _ h => h) (Or.inl ⟨by rfl, ?_⟩) ?_ ?_
         rotate_left
         ·intro w'
          go_simp
          with_reducible rfl
         rotate_left
         ·simp only [Act.put, qA_, qB_, qC_, i64_w, i32_w]
          rfl
         refine pure_ (i := 3) (N := some 124) (v := ?_) (a' := ?_) (bsA 17 15) rfl rfl (any_of HT_.out (by kernel_rfl)) (fun _ _ _ h => h) (Or.inl ⟨by rfl, ?_⟩) ?_ ?_
         rotate_left
         ·intro w'
          go_simp
          with_reducible rfl
         rotate_left
         ·simp only [Act.put, qA_, qB_, qC_, i64_w, i32_w]
          rfl
         refine pure_ (i := 4) (N := some 125) (v := ?_) (a' := ?_) (bsA 17 31) rfl rfl (any_of HT_.out (by kernel_rfl)) (fun _ _ _ h => h) (Or.inl ⟨by rfl, ?_⟩) ?_ ?_
         rotate_left
         ·intro w'
          go_simp
          with_reducible rfl
         rotate_left
         ·simp only [Act.put, qA_, qB_, qC_, i64_w, i32_w]
          rfl
         refine pure_ (i := 6) (N := some 127) (v := ?_) (a' := ?_) (bsA 17 95) rfl rfl (any_of HT_.out (by kernel_rfl)) (fun _ _ _ h => h) (Or.inl ⟨by rfl, ?_⟩) ?_ ?_
         rotate_left
         ·intro w'
          go_simp
          with_reducible rfl
         rotate_left
         ·simp only [Act.put, qA_, qB_, qC_, i64_w, i32_w]
          rfl
         refine pure_ (i := 7) (N := some 128) (v := ?_) (a' := ?_) (bsA 17 223) rfl rfl (any_of HT_.out (by kernel_rfl)) (fun _ _ _ h => h) (Or.inl ⟨by rfl, ?_⟩) ?_ ?_
         rotate_left
         ·intro w'
          go_simp
          with_reducible rfl
         rotate_left
         ·simp only [Act.put, qA_, qB_, qC_, i64_w, i32_w]
          rfl
         refine pure_ (i := 8) (N := some 129) (v := ?_) (a' := ?_) (bsA 17 479) rfl rfl (any_of HT_.out (by kernel_rfl)) (fun _ _ _ h => h) (Or.inl ⟨by rfl, ?_⟩) ?_ ?_
         rotate_left
         ·intro w'
          go_simp
          with_reducible rfl
         rotate_left
         ·simp only [Act.put, qA_, qB_, qC_, i64_w, i32_w]
          rfl
         refine pure_ (i := 10) (N := some 131) (v := ?_) (a' := ?_) (bsA 17 1503) rfl rfl (any_of HT_.out (by kernel_rfl)) (fun _ _ _ h => h) (Or.inl ⟨by rfl, ?_⟩) ?_ ?_
         rotate_left
         ·intro w'
          go_simp
          with_reducible rfl
         rotate_left
         ·simp only [Act.put, qA_, qB_, qC_, i64_w, i32_w]
          rfl
         refine take_ (i := 5) (N := some 126) (v := ?_) (a' := ?_) (bsA 17 1535) rfl rfl (take_ofW HT_.out HW_.out (by kernel_rfl)) (fun _ _ _ h => h) (Or.inl ⟨by rfl, ?_⟩) hHeld ?_ ?_
         rotate_left
         ·rintro w' ⟨s0, s1⟩
          go_simp
          with_reducible rfl
         rotate_left
         ·simp only [Act.put, qA_, qB_, qC_, i64_w, i32_w]
          rfl
         refine take_ (i := 9) (N := some 130) (v := ?_) (a' := ?_) (bsA 17 2047) rfl rfl (take_ofW HT_.out HW_.out (by kernel_rfl)) (fun _ _ _ h => h) (Or.inl ⟨by rfl, ?_⟩) hHeld ?_ ?_
         rotate_left
         ·rintro w' ⟨s0, s1⟩
          go_simp
          with_reducible rfl
         rotate_left
         ·simp only [Act.put, qA_, qB_, qC_, i64_w, i32_w]
          rfl
         refine one_ (i := 11) (N := some 132) (bsA 17 4095) rfl rfl (one_of HT_.out (by kernel_rfl)) (by decide) (fun K hK => ?_)
         refine goes_ Tryd.func71 (by kernel_rfl) rfl #[.slice (some ⟨bi, 0, none⟩) m ci, .slice (some ⟨bd, 0, none⟩) m cd, .int .u8 x] (by rfl) rfl rfl (by (try simp only [List.map_toArray, List.map_cons, List.map_nil]); first | done | rfl) ?_
         refine (hadd.out _ HS5.out HB5.out HC5.out hci5 hcd5).mono ?_
         rintro e w7 ⟨b2, c2, rfl, hf2, ⟨u2, hu2⟩, HS2, HB2, HC2, hb2⟩
         have hh2 := zD_ hb2 hHeld.1
         have hh3 := zD_ hb2 hHeld.2
         refine ⟨_, rfl, ?_⟩
         clear hb2 hu2
         refine hK.out _ _ ⟨hh2, hh3⟩ (fun hHeld => ?_)
         clear hK K
         refine norm_ (a' := ?_) ?_ ?_
         rotate_left
         ·show Act.put _ (some 132) _ = _
          simp only [Act.put, qA_, qB_, qC_, i64_w, i32_w]
          rfl
         refine pure_ (i := 12) (N := some 120) (v := ?_) (a' := ?_) (bsA 17 8191) rfl rfl (any_of HT_.out (by kernel_rfl)) (fun _ _ _ h => h) (Or.inl ⟨by rfl, ?_⟩) ?_ ?_
         rotate_left
         ·intro w'
          go_simp
          with_reducible rfl
         rotate_left
         ·simp only [Act.put, qA_, qB_, qC_, i64_w, i32_w]
          rfl
         refine pure_ (i := 13) (N := some 133) (v := ?_) (a' := ?_) (bsA 17 16383) rfl rfl (any_of HT_.out (by kernel_rfl)) (fun _ _ _ h => h) (Or.inl ⟨by rfl, ?_⟩) ?_ ?_
         rotate_left
         ·intro w'
          go_simp
          with_reducible rfl
         rotate_left
         ·simp only [Act.put, qA_, qB_, qC_, i64_w, i32_w]
          rfl
         refine pure_ (i := 14) (N := some 134) (v := ?_) (a' := ?_) (bsA 17 32767) rfl rfl (any_of HT_.out (by kernel_rfl)) (fun _ _ _ h => h) (Or.inl ⟨by rfl, ?_⟩) ?_ ?_
         rotate_left
         ·intro w'
          go_simp
          with_reducible rfl
         rotate_left
         ·simp only [Act.put, qA_, qB_, qC_, i64_w, i32_w]
          rfl
         refine pure_ (i := 15) (N := some 135) (v := ?_) (a' := ?_) (bsA 17 65535) rfl rfl (any_of HT_.out (by kernel_rfl)) (fun _ _ _ h => h) (Or.inl ⟨by rfl, ?_⟩) ?_ ?_
         rotate_left
         ·intro w'
          go_simp
          with_reducible rfl
         rotate_left
         ·simp only [Act.put, qA_, qB_, qC_, i64_w, i32_w]
          rfl
         refine last_ (i := 16) (N := none) (bsA 17 131071) rfl rfl (one_of HT_.out (by kernel_rfl)) (by decide) (fun K hK => ?_)
         refine skip_ (w1 := ?_) (by rfl) rfl ?_ ?_
         rotate_left
         ·go_simp
          rfl
         refine hK.out _ _ ?_
         clear hK K
         refine done_ (done_of HT_.out (by kernel_rfl)) ?_
         clear hh2 hh3 hHeld hf2 hci5 hcd5 hadd HS5 HB5 HC5
         clear HT_ HW_
         have hz1 := HS2.out.symm
         obtain ⟨bi, ci, hci5, hfi, hri⟩ := hz1.read i hin
         obtain ⟨bd, cd, hcd5, hfd, hrd⟩ := hz1.read dd hd
         clear hri hrd hfd
         have HS5 := Aside0.mk hz1
         clear hz1 HS2
         have HB5 := HB2
         have HC5 := HC2
         clear HB2 HC2
         have hadd : Aside0 (∀ W, St W base gb cb ga ca n p m Zi (Ai.set i (am (row Ai i) (row Ai dd) (el Ai i kk) (row Ai i).length)) → Below base w W → Col W q kk → W.cell? ⟨gb, i, none⟩ = some (.slice (some ⟨bi, 0, none⟩) p ci) → W.cell? ⟨gb, dd, none⟩ = some (.slice (some ⟨bd, 0, none⟩) p cd) → _) := ⟨fun W h1 h2 h3 h4 h5 => h1.addm h2 h3 hin hd h4 h5 hp hpp (el Ai i kk)⟩
         rw [HXE.out] at hadd
         generalize w7.setCell ⟨ga, i, none⟩ (.slice (some ⟨b2, 0, none⟩) m c2) = w5 at *
         go_upto_region 26 with (fail)
         refine start_ (n := 17) (S := (fun w' => w'.cell? ⟨gb, i, none⟩ = some (.slice (some ⟨bi, 0, none⟩) p ci) ∧ w'.cell? ⟨gb, dd, none⟩ = some (.slice (some ⟨bd, 0, none⟩) p cd))) (ds := [16]) (bsA 17 0) (by kernel_rfl) rfl rfl ⟨hci5, hcd5⟩ (fun hHeld => ?_); refine with_tabW red_tab26 red_bits26 (fun HT_ HW_ => ?_)
         replace HS5 : Aside0 (St w5.drew _ _ _ _ _ _ _ _ _ _) := ⟨HS5.out.drew⟩
         replace HB5 : Aside0 (Below base w w5.drew) := ⟨below_drew HB5.out⟩
         replace HC5 : Aside0 (Col w5.drew q kk) := ⟨HC5.out.drew⟩
         replace hci5 : w5.drew.cell? ⟨gb, i, none⟩ = some (.slice (some ⟨bi, 0, none⟩) p ci) := hci5
         replace hcd5 : w5.drew.cell? ⟨gb, dd, none⟩ = some (.slice (some ⟨bd, 0, none⟩) p cd) := hcd5
         generalize w5.drew = w6 at HS5 HB5 HC5 hci5 hcd5 hHeld ⊢
         refine pure_ (i := 0) (N := some 137) (v := ?_) (a' := ?_) (bsA 17 1) rfl rfl (any_of HT_.out (by kernel_rfl)) (fun _ _ _ h => h) (Or.inl ⟨by rfl, ?_⟩) ?_ ?_
         rotate_left
         ·intro w'
          go_simp
          with_reducible rfl
         rotate_left
         ·simp only [Act.put, qA_, qB_, qC_, i64_w, i32_w]
          rfl
         refine pure_ (i := 1) (N := some 138) (v := ?_) (a' := ?_) (bsA 17 3) rfl rfl (any_of HT_.out (by kernel_rfl)) (fun _ _ _ h => h) (Or.inl ⟨by rfl, ?_⟩) ?_ ?_
         rotate_left
         ·intro w'
          go_simp
          with_reducible rfl
         rotate_left
         ·simp only [Act.put, qA_, qB_, qC_, i64_w, i32_w]
          rfl
         refine pure_ (i := 2) (N := some 139) (v := ?_) (a' := ?_) (bsA 17 7) rfl rfl (any_of HT_.out (by kernel_rfl)) (fun _ _ _ h => h) (Or.inl ⟨by rfl, ?_⟩) ?_ ?_
         rotate_left
         ·intro w'
          go_simp
          with_reducible rfl
         rotate_left
         ·simp only [Act.put, qA_, qB_, qC_, i64_w, i32_w]
          rfl
         refine pure_ (i := 3) (N := some 140) (v := ?_) (a' := ?_) (bsA 17 15) rfl rfl (any_of HT_.out (by kernel_rfl)) (fun _ _ _ h => h) (Or.inl ⟨by rfl, ?_⟩) ?_ ?_
         rotate_left
         ·intro w'
          go_simp
          with_reducible rfl
         rotate_left
         ·simp only [Act.put, qA_, qB_, qC_, i64_w, i32_w]
          rfl
         refine pure_ (i := 4) (N := some 141) (v := ?_) (a' := ?_) (bsA 17 31) rfl rfl (any_of HT_.out (by kernel_rfl)) (fun _ _ _ h => h) (Or.inl ⟨by rfl, ?_⟩) ?_ ?_
         rotate_left
         ·intro w'
          go_simp
          with_reducible rfl
         rotate_left
         ·simp only [Act.put, qA_, qB_, qC_, i64_w, i32_w]
          rfl
         refine pure_ (i := 6) (N := some 143) (v := ?_) (a' := ?_) (bsA 17 95) rfl rfl (any_of HT_.out (by kernel_rfl)) (fun _ _ _ h => h) (Or.inl ⟨by rfl, ?_⟩) ?_ ?_
         rotate_left
         ·intro w'
          go_simp
          with_reducible rfl
         rotate_left
         ·simp only [Act.put, qA_, qB_, qC_, i64_w, i32_w]
          rfl
         refine pure_ (i := 7) (N := some 144) (v := ?_) (a' := ?_) (bsA 17 223) rfl rfl (any_of HT_.out (by kernel_rfl)) (fun _ _ _ h => h) (Or.inl ⟨by rfl, ?_⟩) ?_ ?_
         rotate_left
         ·intro w'
          go_simp
          with_reducible rfl
         rotate_left
         ·simp only [Act.put, qA_, qB_, qC_, i64_w, i32_w]
          rfl
         refine pure_ (i := 8) (N := some 145) (v := ?_) (a' := ?_) (bsA 17 479) rfl rfl (any_of HT_.out (by kernel_rfl)) (fun _ _ _ h => h) (Or.inl ⟨by rfl, ?_⟩) ?_ ?_
         rotate_left
         ·intro w'
          go_simp
          with_reducible rfl
         rotate_left
         ·simp only [Act.put, qA_, qB_, qC_, i64_w, i32_w]
          rfl
         refine pure_ (i := 10) (N := some 147) (v := ?_) (a' := ?_) (bsA 17 1503) rfl rfl (any_of HT_.out (by kernel_rfl)) (fun _ _ _ h => h) (Or.inl ⟨by rfl, ?_⟩) ?_ ?_
         rotate_left
         ·intro w'
          go_simp
          with_reducible rfl
         rotate_left
         ·simp only [Act.put, qA_, qB_, qC_, i64_w, i32_w]
          rfl
         refine take_ (i := 5) (N := some 142) (v := ?_) (a' := ?_) (bsA 17 1535) rfl rfl (take_ofW HT_.out HW_.out (by kernel_rfl)) (fun _ _ _ h => h) (Or.inl ⟨by rfl, ?_⟩) hHeld ?_ ?_
         rotate_left
         ·rintro w' ⟨s0, s1⟩
          go_simp
          with_reducible rfl
         rotate_left
         ·simp only [Act.put, qA_, qB_, qC_, i64_w, i32_w]
          rfl
         refine take_ (i := 9) (N := some 146) (v := ?_) (a' := ?_) (bsA 17 2047) rfl rfl (take_ofW HT_.out HW_.out (by kernel_rfl)) (fun _ _ _ h => h) (Or.inl ⟨by rfl, ?_⟩) hHeld ?_ ?_
         rotate_left
         ·rintro w' ⟨s0, s1⟩
          go_simp
          with_reducible rfl
         rotate_left
         ·simp only [Act.put, qA_, qB_, qC_, i64_w, i32_w]
          rfl
         refine one_ (i := 11) (N := some 148) (bsA 17 4095) rfl rfl (one_of HT_.out (by kernel_rfl)) (by decide) (fun K hK => ?_)
         refine goes_ Tryd.func71 (by kernel_rfl) rfl #[.slice (some ⟨bi, 0, none⟩) p ci, .slice (some ⟨bd, 0, none⟩) p cd, .int .u8 x] (by rfl) rfl rfl (by (try simp only [List.map_toArray, List.map_cons, List.map_nil]); first | done | rfl) ?_
         refine (hadd.out _ HS5.out HB5.out HC5.out hci5 hcd5).mono ?_
         rintro e w7 ⟨b2, c2, rfl, hf2, ⟨u2, hu2⟩, HS2, HB2, HC2, hb2⟩
         have hh2 := zD_ hb2 hHeld.1
         have hh3 := zD_ hb2 hHeld.2
         refine ⟨_, rfl, ?_⟩
         clear hb2 hu2
         refine hK.out _ _ ⟨hh2, hh3⟩ (fun hHeld => ?_)
         clear hK K
         refine norm_ (a' := ?_) ?_ ?_
         rotate_left
         ·show Act.put _ (some 148) _ = _
          simp only [Act.put, qA_, qB_, qC_, i64_w, i32_w]
          rfl
         refine pure_ (i := 12) (N := some 136) (v := ?_) (a' := ?_) (bsA 17 8191) rfl rfl (any_of HT_.out (by kernel_rfl)) (fun _ _ _ h => h) (Or.inl ⟨by rfl, ?_⟩) ?_ ?_
         rotate_left
         ·intro w'
          go_simp
          with_reducible rfl
         rotate_left
         ·simp only [Act.put, qA_, qB_, qC_, i64_w, i32_w]
          rfl
         refine pure_ (i := 13) (N := some 149) (v := ?_) (a' := ?_) (bsA 17 16383) rfl rfl (any_of HT_.out (by kernel_rfl)) (fun _ _ _ h => h) (Or.inl ⟨by rfl, ?_⟩) ?_ ?_
         rotate_left
         ·intro w'
          go_simp
          with_reducible rfl
         rotate_left
         ·simp only [Act.put, qA_, qB_, qC_, i64_w, i32_w]
          rfl
         refine pure_ (i := 14) (N := some 150) (v := ?_) (a' := ?_) (bsA 17 32767) rfl rfl (any_of HT_.out (by kernel_rfl)) (fun _ _ _ h => h) (Or.inl ⟨by rfl, ?_⟩) ?_ ?_
         rotate_left
         ·intro w'
          go_simp
          with_reducible rfl
         rotate_left
         ·simp only [Act.put, qA_, qB_, qC_, i64_w, i32_w]
          rfl
         refine pure_ (i := 15) (N := some 151) (v := ?_) (a' := ?_) (bsA 17 65535) rfl rfl (any_of HT_.out (by kernel_rfl)) (fun _ _ _ h => h) (Or.inl ⟨by rfl, ?_⟩) ?_ ?_
         rotate_left
         ·intro w'
          go_simp
          with_reducible rfl
         rotate_left
         ·simp only [Act.put, qA_, qB_, qC_, i64_w, i32_w]
          rfl
         refine last_ (i := 16) (N := none) (bsA 17 131071) rfl rfl (one_of HT_.out (by kernel_rfl)) (by decide) (fun K hK => ?_)
         refine skip_ (w1 := ?_) (by rfl) rfl ?_ ?_
         rotate_left
         ·go_simp
          rfl
         refine hK.out _ _ ?_
         clear hK K
         refine done_ (done_of HT_.out (by kernel_rfl)) ?_
         clear hh2 hh3 hHeld hf2 hci5 hcd5 hadd HS5 HB5 HC5
         clear HT_ HW_
         go_wp2
         go_roundg (n - (i + 1))
         case measure => omega
         case rel => exact ⟨i + 1, _, _, by omega, by go_num, ⟨by rw [← HE.out, show gk - 1 = n - (i + 1) by omega]⟩, ⟨HS2.out.symm⟩, HB2, HC2⟩
        ·have HE : Aside0 (elF kk dd (gk - 1) (i + 1) Ai Zi = elF kk dd n 0 A2 Z2) := ⟨by have := HE1.out; rw [if_neg hskip] at this; exact this⟩
         clear HE1
         by_cases hid : i = dd
         ·have t1 : ((i : Int) != (dd : Int)) = false := by simp [hid]
          have t2 : (i == dd) = true := by simp [hid]
          have t3 : (i != dd) = false := by simp [hid]
          generalize ofB (at0 (row Ai i) kk) = x at *
          clear hskip hid
          go_wp2
          go_quiet (fail)
          go_wp2
          go_roundg (n - (i + 1))
          case measure => omega
          case rel => exact ⟨i + 1, Ai, Zi, by omega, by go_num, ⟨by rw [← HE.out, show gk - 1 = n - (i + 1) by omega]⟩, ⟨HS.out.below (zA_ (Below.refl _ _) _)⟩, ⟨zA_ HB.out _⟩, ⟨HC.out.below (zA_ (Below.refl _ _) _)⟩⟩
         ·have hx0 : ofB (at0 (row Ai i) kk) = 0 := by rw [ofB_eq_zero]; exact Classical.byContradiction fun h => hskip ⟨hid, h⟩
          have t1 : ((i : Int) != (dd : Int)) = true := by simp; omega
          have t2 : (i == dd) = false := by simp [hid]
          have t3 : (i != dd) = true := by simp [hid]
          rw [hx0] at hxc
          clear hskip hid hx0
          go_wp2
          go_quiet (fail)
          go_wp2
          go_roundg (n - (i + 1))
          case measure => omega
          case rel => exact ⟨i + 1, Ai, Zi, by omega, by go_num, ⟨by rw [← HE.out, show gk - 1 = n - (i + 1) by omega]⟩, ⟨HS.out.below (zA_ (Below.refl _ _) _)⟩, ⟨zA_ HB.out _⟩, ⟨HC.out.below (zA_ (Below.refl _ _) _)⟩⟩
       ·have hin' : ¬ (i : Int) < (n : Int) := by omega
        have hg0 : gk = 0 := by omega
        have HE2 : Aside0 ((Ai, Zi) = stepF kk dd (t + dd) A' Z') := ⟨by
         have h := HE.out
         rw [hg0] at h
         rw [show (Ai, Zi) = elF kk dd n 0 A2 Z2 from h]
         unfold stepF
         simp only []
         rw [Nat.add_comm t dd, ← EA1.out, ← EZ1.out]
         have hv : inv (el A1 dd kk) = iv := by rw [EA1.out]; exact HIV.out
         rw [hv, ← EA2.out, hA2l.out, HZ2.out]⟩
        have HR4 := hR3
        clear HE hg0 hig hR3
        have hlen : A'.length = n := hAl.out
        have HR5 : Aside0 ((if dd + 1 = n then (dd + 1, (Ai, Zi)) else redF (m - (kk + 1)) (kk + 1) (dd + 1) Ai Zi) = redF m 0 0 A Z) := ⟨by rw [← HR4.out, ← HE2.out, hlen]⟩
        clear HR4 HE2 hlen
        by_cases hend : dd + 1 = n
        ·have e1 : ((dd : Int) + 1 == (n : Int)) = true := by rw [beq_iff_eq]; omega
         have e2 : (dd + 1 == n) = true := by rw [beq_iff_eq]; exact hend
         have HF : Aside0 (redF m 0 0 A Z = (dd + 1, (Ai, Zi))) := ⟨by rw [← HR5.out, if_pos hend]⟩
         clear hend HR5
         go_wp2
         go_ret
         rw [HF.out]
         exact ⟨by first | rfl | (rw [Int.natCast_add]; rfl), HS.out, HB.out⟩
        ·have e1 : ((dd : Int) + 1 == (n : Int)) = false := by rw [beq_eq_false_iff_ne]; omega
         have e2 : (dd + 1 == n) = false := by rw [beq_eq_false_iff_ne]; exact hend
         have HF : Aside0 (redF (m - (kk + 1)) (kk + 1) (dd + 1) Ai Zi = redF m 0 0 A Z) := ⟨by rw [← HR5.out, if_neg hend]⟩
         have hd2 : dd + 1 < n := by omega
         clear hend HR5
         go_wp2
         go_roundg (m - (kk + 1))
         case measure => omega
         case rel => exact ⟨dd + 1, kk + 1, Ai, Zi, by go_num, by go_num, by omega, hd2, HS.out, HB.out, HF.out⟩
  ·have hkm : kk = m := by omega
   have hlt' : decide ((kk : Int) < (m : Int)) = false := decide_eq_false (by omega)
   rw [show gk = 0 by omega] at hR
   have hR3 := Aside0.mk hR
   have HS := Aside0.mk hS
   have HB := Aside0.mk hB
   clear hR hS hB
   go_wp2
   go_ret
   have hf : redF m 0 0 A Z = (dd, A', Z') := hR3.out.symm
   rw [hf]
   exact ⟨rfl, HS.out, HB.out⟩
end Go.Proofs.YtnfgiamdmfkcjaaDoor.H
namespace Go.Proofs.YtnfgiamdmfkcjaaDoor.H
open Go.RowKit Go.Proofs.YtnfgiamdmfkcjaaDoorW.PrintWords Go.Proofs.YtnfgiamdmfkcjaaDoorW.PrintLast Go.Proofs.YtnfgiamdmfkcjaaDoor.Leaf Go.Proofs.YtnfgiamdmfkcjaaDoor.Gf Go.Proofs.YtnfgiamdmfkcjaaDoor.Red Go.Proofs.YtnfgiamdmfkcjaaDoor.P
def unM (l : List (List Int)) : Mat := l.map fun r => r.map toB
theorem unM_oM (A : Mat) : unM (oM A) = A := by
 unfold unM oM ofL
 rw [List.map_map]
 refine (List.map_congr_left fun x hx => ?_).trans (List.map_id' A)
 simp only [Function.comp, List.map_map]
 refine (List.map_congr_left fun y _ => ?_).trans (List.map_id' x)
 exact toB_ofB y
theorem bytes_oM (A : Mat) : (oM A).all byteRow = true := by
 unfold oM
 simp only [List.all_map, List.all_eq_true, Function.comp]
 exact fun x _ => byteRow_ofL x
theorem oM_unM (l : List (List Int)) (h : l.all byteRow = true) : oM (unM l) = l := by
 unfold unM oM
 rw [List.map_map]
 refine (List.map_congr_left fun x hx => ?_).trans (List.map_id' l)
 exact ofL_toB x (List.all_eq_true.1 h x hx)
/-- An inverse, if the matrix may be and has one. -/
def invR (A : Mat) : List (List Int) × Int :=
 if mayB A = true ∧ A.length = (row A 0).length then if (redF A.length 0 0 A (idM A.length)).1 < A.length then ([], 4) else (oM (redF A.length 0 0 A (idM A.length)).2.2, 0) else ([], 1)
def matrix_Inverse.f (l0 : List (List Int)) : Option (List (List Int) × Int) := if l0.all byteRow = true then some (invR (unM l0)) else none
theorem matrix_Inverse.f_oM (A : Mat) : matrix_Inverse.f (oM A) = some (invR A) := by unfold matrix_Inverse.f; rw [if_pos (bytes_oM A), unM_oM]
theorem Mt.lower {w : World} {base base' g cp : Nat} {id cap : Nat → Nat} {A : List (List Int)} (h : Mt w base g cp id cap A) (hb : base' ≤ base) : Mt w base' g cp id cap A :=
 ⟨own_weaken h.outer hb, fun i hi => own_weaken (h.rows i hi) hb, h.inj⟩
/-- Two matrices made one behind the other. -/
theorem St.make {w1 w2 : World} {base n m p : Nat} {A Z : Mat} {va vz : Value} (hZ : Kd.S (Kd.slice 5 (Kd.int .u8)) 22 w1 base (fun _ => True) vz (oM Z)) (hb : Below w1.heap.size w1 w2) (hA : Kd.S (Kd.slice 5 (Kd.int .u8)) 22 w2 w1.heap.size (fun _ => True) va (oM A)) (hbase : base ≤ w1.heap.size)
 (rA : Reg A n m) (rZ : Reg Z n p) (hn : 0 < n) (hm : 0 < m) (hp : 0 < p) : ∃ ga ca gz cz, va = .slice (some ⟨ga, 0, none⟩) n ca ∧ vz = .slice (some ⟨gz, 0, none⟩) n cz ∧ St w2 base ga ca gz cz n m p A Z := by
 obtain ⟨ga, ca, ida, capa, e1, h1, _⟩ := Mt.of_S hA (by rw [oM_length, rA.1]; exact hn) (fun i hi => by rw [oM_length, rA.1] at hi; unfold oM; rw [map_getD, zG_, rA.2 i hi]; exact hm)
 obtain ⟨gz, cz, idz, capz, e2, h2, _⟩ := Mt.of_S hZ (by rw [oM_length, rZ.1]; exact hn) (fun i hi => by rw [oM_length, rZ.1] at hi; unfold oM; rw [map_getD, zG_, rZ.2 i hi]; exact hp)
 rw [oM_length, rA.1] at e1
 rw [oM_length, rZ.1] at e2
 refine ⟨ga, ca, gz, cz, e1, e2, ida, capa, idz, capz, h1.lower hbase, h2.below hb, fun i j hi hj e => ?_, fun e => ?_, rA, rZ⟩
 ·have h3 := (h1.rows i (by rw [oM_length, rA.1]; exact hi)).base_
  have h4 := (h2.rows j (by rw [oM_length, rZ.1]; exact hj)).lt
  omega
 ·have h3 := h1.gbase
  have h4 := h2.glt
  omega
theorem St.toS {w : World} {base ga ca gb cb n m p : Nat} {A Z : Mat} (h : St w base ga ca gb cb n m p A Z) : Kd.S (Kd.slice 5 (Kd.int .u8)) 22 w base (fun _ => True) (.slice (some ⟨gb, 0, none⟩) n cb) (oM Z) := by
 obtain ⟨a, b, c, d, h1, h2, h3, h4, h5, h6⟩ := h
 have := Kd.S_mono h2.to_S (ok' := fun _ => True) (fun _ _ => trivial)
 rw [show (Z.map ofL).length = n by rw [List.length_map, h6.1]] at this
 exact this
set_option maxHeartbeats 2000000 in
set_option maxRecDepth 100000 in
theorem matrix_Inverse.calls (A0 : Option Addr) (c0 : Nat) (l0 : List (List Int)) (r1 : List (List Int)) (r2 : Int) (w : World) (hr0 : Kd.C (Kd.slice 5 (Kd.int .u8)) w A0 l0.length l0) (hc0 : l0.length ≤ c0) (h : matrix_Inverse.f l0 = some (r1, r2)) :
 Calls Tryd.prog 37 #[.slice A0 l0.length c0] w fun e w' => ∃ v0_ : Value, e = .returned (.tuple #[v0_, .int .i64 r2]) ∧ Kd.S (Kd.slice 5 (Kd.int .u8)) 22 w' w.heap.size (fun _ => True) v0_ r1 ∧ Below w.heap.size w w' := by
 unfold matrix_Inverse.f at h
 by_cases hby : l0.all byteRow = true
 ·rw [if_pos hby] at h
  obtain ⟨A, rfl⟩ : ∃ A, l0 = oM A := ⟨unM l0, (oM_unM l0 hby).symm⟩
  rw [unM_oM] at h
  have hinv := Option.some.inj h
  clear h hby
  have hlen : A.length ≤ 9223372036854775807 := by have := hr0.2.1; rwa [oM_length] at this
  have hchk : Aside0 (Calls Tryd.prog 67 #[.slice A0 A.length c0] w fun e w' => e = .returned (.int .i64 (if mayB A = true then 0 else 1)) ∧ Drawn0 w w') := ⟨by
   obtain ⟨k, hk⟩ := (evCheck A hlen).rounds
   have := wMk_.calls k A0 c0 (oM A) _ w hr0 hc0 hk
   rwa [oM_length] at this⟩
  rw [oM_length]
  rw [oM_length] at hc0
  unfold invR at hinv
  by_cases hm : mayB A = true
  ·rw [hm] at hchk
   obtain ⟨hreg, p1, p2, p3, p4⟩ := mayB_reg hm
   obtain ⟨As, cs, hcell, hrows⟩ := rows_vals hr0
   obtain ⟨ad, rfl, hce⟩ := hcell (by rw [oM_length]; exact p1)
   have hz : w.cell? ad = some (.slice (As 0) (row A 0).length (cs 0)) := by
    have := hce 0 (by rw [oM_length]; exact p1)
    rw [Addr.add_zero'] at this
    unfold oM at this
    rw [map_getD, zG_] at this
    exact this
   have hn0 : (0 : Int) < (A.length : Int) := by omega
   clear hce hrows hcell
   by_cases hsq : A.length = (row A 0).length
   ·rw [if_pos ⟨hm, hsq⟩] at hinv
    have hsq2 : Reg A A.length A.length := by have := hreg; rw [← hsq] at this; exact this
    have hid : Aside0 (∀ W, Calls Tryd.prog 63 #[.int .i64 (A.length : Int)] W fun e w' => ∃ v, e = .returned (.tuple #[v, .int .i64 0]) ∧ Kd.S (Kd.slice 5 (Kd.int .u8)) 22 w' W.heap.size (fun _ => True) v (oM (idM A.length)) ∧ Below W.heap.size W w') := ⟨fun W => by
     obtain ⟨k, hk⟩ := (evIdentity (A.length : Int)).rounds
     unfold idR at hk
     rw [if_pos (by omega), Int.toNat_natCast] at hk
     exact wMi_.calls k _ _ _ W hk⟩
    have hown : Aside0 (∀ W, Below w.heap.size w W → Calls Tryd.prog 70 #[.slice (some ad) A.length c0] W fun e w' => ∃ v, e = .returned v ∧ Kd.S (Kd.slice 5 (Kd.int .u8)) 22 w' W.heap.size (fun _ => True) v (oM A) ∧ Below W.heap.size W w') := ⟨fun W hW => by
     obtain ⟨k, hk⟩ := (evOwn A (by omega) (fun i hi => by rw [hreg.2 i hi]; omega)).rounds
     have := matrix_own.calls k _ c0 (oM A) _ W (Kd.C_below hr0 hW) (by rw [oM_length]; exact hc0) hk
     rwa [oM_length] at this⟩
    have t1 : ((A.length : Int) != ((row A 0).length : Int)) = false := by simp [hsq]
    have t2 : (A.length == (row A 0).length) = true := by simp [← hsq]
    have t3 : (A.length != (row A 0).length) = false := by simp [← hsq]
    have HR := Aside0.mk hinv
    have HG := Aside0.mk hsq2
    have HP := Aside0.mk (show 0 < A.length ∧ A.length ≤ 255 from ⟨p1, p2⟩)
    have HSQ := Aside0.mk hsq
    clear hinv hsq2 hsq hm hreg p3 p4 hr0
    go_enter Tryd.func37, Tryd.ntmps37
    go_wp2_with fail
    refine hchk.out.mono ?_
    rintro e w' ⟨rfl, ⟨nq, rfl⟩⟩
    clear hchk
    go_wp2_with fail
    refine (hid.out _).mono ?_
    rintro e w1 ⟨vz, rfl, hSz, hb1⟩
    have hbz : Below w.heap.size w w1 := zE_ (zA_ (Below.refl _ _) nq) hb1
    have HZ : Aside0 (Kd.S (Kd.slice 5 (Kd.int .u8)) 22 w1 w.heap.size (fun _ => True) vz (oM (idM A.length))) := ⟨hSz⟩
    have HB1 := Aside0.mk hbz
    clear hid hSz hbz hb1
    go_wp2_with fail
    refine (hown.out _ HB1.out).mono ?_
    rintro e w2 ⟨va, rfl, hSa, hb2⟩
    obtain ⟨ga, ca, gz, cz, rfl, rfl, hSt⟩ := St.make HZ.out hb2 hSa (zF_ HB1.out) HG.out (matF_reg _ _ _) HP.out.1 HP.out.1 HP.out.1
    have hb3 := zE_ HB1.out hb2
    have hred := reduce_calls w2 w.heap.size ga ca gz cz A.length A.length A.length A (idM A.length) hSt HP.out.1 HP.out.1 HP.out.1 HP.out.2 HP.out.2 HP.out.2 (zF_ hb3)
    have HRED := Aside0.mk hred
    have HB3 := Aside0.mk hb3
    clear hred hb3 hSt hSa hb2 HZ HB1 hown
    have hle := redF_le HP.out.1 HG.out (matF_reg A.length A.length Mx.I)
    rw [← idM_eq] at hle
    generalize redF A.length 0 0 A (idM A.length) = R at *
    obtain ⟨cnt, Ra, Rz⟩ := R
    simp only at HR HRED hle
    by_cases hlt : cnt < A.length
    ·have HR2 : Aside0 (([], (4 : Int)) = (r1, r2)) := ⟨by have := HR.out; rw [if_pos hlt] at this; exact this⟩
     have u1 : decide ((cnt : Int) < (A.length : Int)) = true := decide_eq_true (by omega)
     have u2 : decide (cnt < A.length) = true := decide_eq_true hlt
     clear HR hlt hle
     go_wp2_with fail
     refine HRED.out.mono ?_
     rintro e w4 ⟨rfl, hst4, hb4⟩
     have HB4 := Aside0.mk (show Below w.heap.size w w4 from HB3.out.trans hb4)
     clear hst4 hb4 HRED
     go_wp2
     go_ret2
     obtain ⟨rfl, rfl⟩ := Prod.mk.inj HR2.out
     exact ⟨_, rfl, Kd.S_nil _ _ _ _ _, HB4.out⟩
    ·have HR2 : Aside0 ((oM Rz, (0 : Int)) = (r1, r2)) := ⟨by have := HR.out; rw [if_neg hlt] at this; exact this⟩
     have u1 : decide ((cnt : Int) < (A.length : Int)) = false := decide_eq_false (by omega)
     have u2 : decide (cnt < A.length) = false := decide_eq_false hlt
     clear HR hlt hle
     go_wp2_with fail
     refine HRED.out.mono ?_
     rintro e w4 ⟨rfl, hst4, hb4⟩
     have HB4 := Aside0.mk (show Below w.heap.size w w4 from HB3.out.trans hb4)
     have HS4 := Aside0.mk hst4.toS
     clear hst4 hb4 HRED
     go_wp2
     go_ret2
     obtain ⟨rfl, rfl⟩ := Prod.mk.inj HR2.out
     exact ⟨_, rfl, HS4.out, HB4.out⟩
   ·rw [if_neg (fun h => hsq h.2)] at hinv
    obtain ⟨rfl, rfl⟩ := Prod.mk.inj hinv
    have t1 : ((A.length : Int) != ((row A 0).length : Int)) = true := by simp; omega
    have t2 : (A.length == (row A 0).length) = false := by simp [hsq]
    have t3 : (A.length != (row A 0).length) = true := by simp [hsq]
    clear hinv hsq hm hreg hr0
    go_enter Tryd.func37, Tryd.ntmps37
    go_wp2_with fail
    refine hchk.out.mono ?_
    rintro e w' ⟨rfl, ⟨nq, rfl⟩⟩
    clear hchk
    go_wp2
    go_ret2
    exact ⟨_, rfl, Kd.S_nil _ _ _ _ _, zA_ (Below.refl _ _) nq⟩
  ·rw [if_neg (fun h => hm h.1)] at hinv
   rw [if_neg hm] at hchk
   obtain ⟨rfl, rfl⟩ := Prod.mk.inj hinv
   clear hinv hm hr0
   go_enter Tryd.func37, Tryd.ntmps37
   go_wp2_with fail
   refine hchk.out.mono ?_
   rintro e w' ⟨rfl, ⟨nq, rfl⟩⟩
   clear hchk
   go_wp2
   go_ret2
   exact ⟨_, rfl, Kd.S_nil _ _ _ _ _, zA_ (Below.refl _ _) nq⟩
 ·rw [if_neg hby] at h
  cases h
end Go.Proofs.YtnfgiamdmfkcjaaDoor.H
