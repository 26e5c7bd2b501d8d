/- Words and walks that the claim StripeRefuses leans on (what it does not use is left out). -/
import Derived.Test.YtnfgiamdmfkcjaaDoorMStripeRefuses5
import Derived.Deep.RegionHeld3
import Derived.BigQuiet
import Derived.BigRegion
import Derived.Deep.CutRange
import Derived.StillTailTactics
import Derived.Deep.RegionWith
import Derived.Test.YtnfgiamdmfkcjaaDoorMStripeRefuses1
import Derived.Test.YtnfgiamdmfkcjaaDoorMStripeRefuses4
import Derived.Test.YtnfgiamdmfkcjaaDoorMStripeRefuses3
import Derived.Deep.RegionLaw
import Derived.Deep.AppendLies
namespace Go.Proofs.YtnfgiamdmfkcjaaDoor.H
open Go.RowKit Go.Proofs.YtnfgiamdmfkcjaaDoorW.PrintWords Go.Proofs.YtnfgiamdmfkcjaaDoorW.PrintLast Go.Proofs.YtnfgiamdmfkcjaaDoor.Leaf Go.Proofs.YtnfgiamdmfkcjaaDoor.Gf Go.Proofs.YtnfgiamdmfkcjaaDoor.Red
set_option linter.unusedVariables false
set_option linter.unusedSimpArgs false
def red_T : Bool × List (List Nat × List Nat) := (true, [([], []), ([], []), ([], []), ([], []), ([2, 3], [2, 3]), ([4], [4]), ([], []), ([], []), ([6, 7], [6, 7]), ([8], [8]), ([], []), ([5, 9, 10], [5, 9, 10]), ([11], [11]), ([12], [12]), ([12], [12]), ([0, 1, 0, 1, 2, 3, 4, 5, 6, 7, 8, 9, 10, 11, 12, 13], [0, 1]), ([15, 13, 11, 0, 1, 2, 3, 4, 5, 6, 7, 8, 9, 10, 11, 12, 13], [13, 15])])
def red_B : List Nat := [0, 0, 0, 0, 12, 28, 0, 0, 192, 448, 0, 2044, 4092, 8188, 8188, 16383, 49151]
theorem red_tab25 : rtab .any (opsOf Tryd.f69 25) = red_T := by kernel_rfl
theorem red_tab26 : rtab .any (opsOf Tryd.f69 26) = red_T := by kernel_rfl
theorem red_bits25 : waitsOk red_T.2 red_B = true := by kernel_rfl
theorem red_bits26 : waitsOk red_T.2 red_B = true := by kernel_rfl
set_option maxHeartbeats 8000000 in
set_option maxRecDepth 100000 in
theorem reduce_calls (w : World) (base ga ca gb cb n m p : Nat) (A Z : Mat) (hS : St w base ga ca gb cb n m p A Z) (hn : 0 < n) (hm : 0 < m) (hp : 0 < p) (hpp : p ≤ 255) (hnm : n ≤ 255) (hmm : m ≤ 255) (hbase : base ≤ w.heap.size) :
    Calls Tryd.prog 69 #[.slice (some ⟨ga, 0, none⟩) n ca, .slice (some ⟨gb, 0, none⟩) n cb] w fun e w' => e = .returned (.int .i64 ((redF m 0 0 A Z).1 : Int)) ∧ St w' base ga ca gb cb n m p (redF m 0 0 A Z).2.1 (redF m 0 0 A Z).2.2 ∧ Below base w w' := by
  obtain ⟨b0, c0, hcell0, _, hrw0⟩ := hS.read 0 hn
  have HS := Aside0.mk hS
  clear hS
  have hn0 : (0 : Int) < (n : Int) := by omega
  go_enter Tryd.func69, Tryd.ntmps69
  go_wp2
  go_loopg [5, 19] m (fun g d k wr => ∃ dd kk A' Z', d = .int .i64 ((dd : Nat) : Int) ∧ k = .int .i64 ((kk : Nat) : Int) ∧ kk + g = m ∧ dd < n ∧ St wr base ga ca gb cb n m p A' Z' ∧ Below base w wr ∧ redF g kk dd A' Z' = redF m 0 0 A Z)
  case atStart => exact ⟨0, 0, A, Z, rfl, rfl, Nat.zero_add _, hn, HS.out, Below.refl _ _, rfl⟩
  case round =>
    
    obtain ⟨dd, kk, A', Z', rfl, rfl, hk, hd, hS, hB, hR⟩ := hrel
    by_cases hlt : kk < m
    · have hlt' : (kk : Int) < (m : Int) := by omega
      have hcut := cut_run ga n ca dd hd hS.cap.1
      have hidx := Aside0.mk (fun q W (hq : W.cell? q = some (.int .i64 (kk : Int))) (hb : Below wr.heap.size wr W) => idx_calls hS hd hnm hlt hq hb)
      have HS := Aside0.mk hS
      have HB := Aside0.mk hB
      have hR2 : redF ((gk - 1) + 1) kk dd A' Z' = redF m 0 0 A Z := by rw [show (gk - 1) + 1 = gk by omega]; exact hR
      simp only [redF] at hR2
      clear hS hB
      by_cases hneg : pivot A' dd kk < 0
      · rw [if_pos hneg] at hR2
        have hR3 := Aside0.mk hR2
        clear hR2 hR
        have hd1 : decide (pivot A' dd kk < 0) = true := decide_eq_true hneg
        generalize pivot A' dd kk = pv at *
        go_wp2_with (first | (go_at_call 91; refine (hidx.out _ _ (by simp) (by repeat (first | exact Below.refl _ _ | apply below_alloc | apply below_drew))).mono ?_; rintro e w' ⟨rfl, hb⟩))
        go_roundg (gk - 1)
        case rel =>
          have hbb := below_step (below_alloc (Below.refl _ _) _) hb
          exact ⟨dd, kk + 1, A', Z', rfl, by first | rfl | go_num, by omega, hd, HS.out.below hbb, below_then HB.out (Nat.le_trans hbase HB.out.size) hbb, hR3.out⟩
        case measure => omega
      · rw [if_neg hneg] at hR2
        have hd1 : decide (pivot A' dd kk < 0) = false := decide_eq_false hneg
        obtain ⟨t, ht, htn, htx, hnone⟩ := pivot_hit HS.out.reg.1 hneg
        have HX := Aside0.mk htx
        have hAl : Aside0 (A'.length = n) := ⟨HS.out.reg.1.1⟩
        clear htx hnone
        rw [ht] at hR2 hd1 hidx
        rw [show gk - 1 = m - (kk + 1) by omega, Int.toNat_natCast] at hR2
        have hR3 := Aside0.mk hR2
        clear hR2 hR
        have hadd : IntKind.i64.wrap ((t : Int) + (dd : Int)) = ((dd + t : Nat) : Int) := by rw [IntWalk.i64_in _ (by omega)]; omega
        go_upto_region 8 with (first | (go_at_call 91; refine (hidx.out _ _ (by simp) (by repeat (first | exact Below.refl _ _ | apply below_alloc | apply below_drew))).mono ?_; rintro e w' ⟨rfl, hb⟩))
        have hbb := below_step (below_alloc (Below.refl _ _) _) hb
        have hS1 := HS.out.below hbb
        have hB1 := below_then HB.out (Nat.le_trans hbase HB.out.size) hbb
        have hC0 : Col (wr.alloc (Obj.cells #[Value.int IntKind.i64 ↑kk] 3)) wr.heap.size kk := ⟨⟨#[Value.int IntKind.i64 ↑kk], heap_alloc_last wr _⟩, by simp⟩
        have hC1 := hC0.below hb
        clear hC0 hbb hb hidx HS HB hcut hd1 ht hneg hadd
        generalize wr.heap.size = q at *
        clear wr
        have hi1 : (0 : Int) ≤ ((dd + t : Nat) : Int) := by omega
        have hi2 : ((dd + t : Nat) : Int) < (n : Int) := by omega
        have hi3 : (0 : Int) ≤ (dd : Int) := by omega
        have hi4 : (dd : Int) < (n : Int) := by omega
        obtain ⟨bt, ct, hct, hft, hrt⟩ := hS1.read (dd + t) htn
        obtain ⟨bd, cd, hcd, hfd, hrd⟩ := hS1.read dd hd
        clear hrt hrd
        have HS := Aside0.mk hS1
        have HB := Aside0.mk hB1
        have HC := Aside0.mk hC1
        clear hS1 hB1 hC1
        obtain ⟨v1, hv1⟩ := cell?_setCell_some (w := w') (p := ⟨ga, dd + t, none⟩) (x := .slice (some ⟨bd, 0, none⟩) m cd) (q := ⟨ga, dd, none⟩) (v := .slice (some ⟨bd, 0, none⟩) m cd) hcd
        have hv1f : (w'.setCell ⟨ga, dd + t, none⟩ (.slice (some ⟨bd, 0, none⟩) m cd)).frozen? ⟨ga, dd, none⟩ = false := by rw [World.frozen?_setCell]; exact hfd
        go_region
        obtain ⟨hS1, hB1, hC1⟩ := HS.out.exch HB.out HC.out htn hd hct hcd
        clear HS HB HC hv1 hv1f hct hft hcd hfd
        generalize ((w'.setCell ⟨ga, dd + t, none⟩ (.slice (some ⟨bd, 0, none⟩) m cd)).setCell ⟨ga, dd, none⟩ (.slice (some ⟨bt, 0, none⟩) m ct)).drew = w2 at *
        obtain ⟨bt, ct, hct, hft, hrt⟩ := hS1.symm.read (dd + t) htn
        obtain ⟨bd, cd, hcd, hfd, hrd⟩ := hS1.symm.read dd hd
        clear hrt hrd
        have HS := Aside0.mk hS1
        have HB := Aside0.mk hB1
        have HC := Aside0.mk hC1
        clear hS1 hB1 hC1
        obtain ⟨v1, hv1⟩ := cell?_setCell_some (w := w2) (p := ⟨gb, dd + t, none⟩) (x := .slice (some ⟨bd, 0, none⟩) p cd) (q := ⟨gb, dd, none⟩) (v := .slice (some ⟨bd, 0, none⟩) p cd) hcd
        have hv1f : (w2.setCell ⟨gb, dd + t, none⟩ (.slice (some ⟨bd, 0, none⟩) p cd)).frozen? ⟨gb, dd, none⟩ = false := by rw [World.frozen?_setCell]; exact hfd
        go_wp2
        go_region
        obtain ⟨hS1', hB1, hC1⟩ := HS.out.symm.exch HB.out HC.out htn hd hct hcd
        have hS1 := hS1'.symm
        clear HS HB HC hv1 hv1f hct hft hcd hfd hS1' hi1 hi2
        generalize ((w2.setCell ⟨gb, dd + t, none⟩ (.slice (some ⟨bd, 0, none⟩) p cd)).setCell ⟨gb, dd, none⟩ (.slice (some ⟨bt, 0, none⟩) p ct)).drew = w3 at *
        -- inv
        obtain ⟨bA, cA, hcA, hfA, hrA⟩ := hS1.read dd hd
        obtain ⟨bZ, cZ, hcZ, hfZ, hrZ⟩ := hS1.symm.read dd hd
        clear hrZ
        have hxc := (hrA.cell kk (by rw [ofL_length, hS1.reg.1.2 dd hd]; exact hlt)).1
        rw [rd_ofL] at hxc
        have hqc := hC1.2
        have HSc := Aside0.mk (Sc.mk hS1 hB1 hC1 hcA hcZ)
        clear hS1 hB1 hC1 hrA
        have hk0 : (0 : Int) ≤ (kk : Int) := by omega
        have hinv := fun W => gf_Inv.calls (ofB (at0 (row (swapM A' (dd + t) dd) dd) kk)) _ _ W (gfInv_eq _)
        generalize hxx : ofB (at0 (row (swapM A' (dd + t) dd) dd) kk) = x at hxc hinv
        generalize hiv : inv (at0 (row (swapM A' (dd + t) dd) dd) kk) = iv at hinv
        generalize decide (at0 (row (swapM A' (dd + t) dd) dd) kk ≠ 0#8) = bb at hinv
        have HXX := Aside0.mk hxx
        have HIV := Aside0.mk hiv
        have hInv : Aside0 (∀ W, (Below w3.heap.size w3 W ∧ W.cell? ⟨ga, dd, none⟩ = some (.slice (some ⟨bA, 0, none⟩) m cA) ∧ W.cell? ⟨q, 0, none⟩ = some (.int .i64 (kk : Int)) ∧ W.cell? ⟨bA, kk, none⟩ = some (.int .u8 x)) →
            Calls Tryd.prog 64 #[.int .u8 x] W fun e w' => e = .returned (.tuple #[.int .u8 (ofB iv), .bool bb]) ∧ (Below w3.heap.size w3 w' ∧ w'.cell? ⟨ga, dd, none⟩ = some (.slice (some ⟨bA, 0, none⟩) m cA) ∧ w'.cell? ⟨q, 0, none⟩ = some (.int .i64 (kk : Int)) ∧ w'.cell? ⟨bA, kk, none⟩ = some (.int .u8 x))) :=
          ⟨fun W h => (hinv W).mono fun e w' ⟨he, hb⟩ => ⟨he, below_step h.1 hb, pw_cell_below hb h.2.1, pw_cell_below hb h.2.2.1, pw_cell_below hb h.2.2.2⟩⟩
        clear hxx hiv hinv
        go_wp2
        go_region_held3 (fun w' => Below w3.heap.size w3 w' ∧ w'.cell? ⟨ga, dd, none⟩ = some (.slice (some ⟨bA, 0, none⟩) m cA) ∧ w'.cell? ⟨q, 0, none⟩ = some (.int .i64 (kk : Int)) ∧ w'.cell? ⟨bA, kk, none⟩ = some (.int .u8 x)) (first | assumption | exact ⟨(Below.refl _ _).drew, hcA, hqc, hxc⟩)
          (first | (go_at_call 64; refine (hInv.out _ (by assumption)).mono ?_; rintro e w' ⟨rfl, hb⟩))
        obtain ⟨hb1, hcA', hqc', hxc'⟩ := hb
        have hSc := HSc.out.below HSc.out.size hb1
        clear hcA hcZ hqc hxc hInv HSc hfA hfZ hcA' hqc' hxc' hb1
        have hcA := hSc.ra
        have hcZ := hSc.rz
        have HSc := Aside0.mk hSc
        clear hSc
        go_wp2
        go_region
        obtain ⟨HSc4, HPr⟩ := HSc.out.start
        clear HSc hcA hcZ
        generalize (w'.alloc (.cells #[.slice (some ⟨bA, 0, none⟩) m cA, .slice (some ⟨bZ, 0, none⟩) p cZ] 22 (0, 0))).drew = w4 at *
        generalize w'.heap.size = g2 at *
        obtain ⟨A1, hA1⟩ : ∃ A1, A1 = swapM A' (dd + t) dd := ⟨_, rfl⟩
        obtain ⟨Z1, hZ1⟩ : ∃ Z1, Z1 = swapM Z' (dd + t) dd := ⟨_, rfl⟩
        rw [← hA1, ← hZ1] at HSc4
        obtain ⟨A2, hA2⟩ : ∃ A2, A2 = A1.set dd (scale iv (row A1 dd)) := ⟨_, rfl⟩
        obtain ⟨Z2, hZ2⟩ : ∃ Z2, Z2 = Z1.set dd (scale iv (row Z1 dd)) := ⟨_, rfl⟩
        have EA1 := Aside0.mk hA1
        have EZ1 := Aside0.mk hZ1
        have EA2 := Aside0.mk hA2
        have EZ2 := Aside0.mk hZ2
        clear hA1 hZ1 hA2 hZ2
        go_wp2
        go_loopg [81] 2 (fun gg s81 wr => ∃ i : Nat, i + gg = 2 ∧ s81 = .int .i64 (i : Int) ∧ Aside0 (Sc wr w base ga ca gb cb n m p (if 1 ≤ i then A2 else A1) (if 2 ≤ i then Z2 else Z1) q kk dd bA cA bZ cZ) ∧ Aside0 (Pr wr g2 (vv (.slice (some ⟨bA, 0, none⟩) m cA) (.slice (some ⟨bZ, 0, none⟩) p cZ))))
        case atStart => exact ⟨0, rfl, rfl, by simpa using HSc4, HPr⟩
        case round =>
          clear HSc4 HPr
          obtain ⟨i, hig, rfl, HSc, HPr⟩ := hrel
          by_cases hi2 : i < 2
          · have hi2' : (i : Int) < 2 := by omega
            have hi0' : (0 : Int) ≤ (i : Int) := by omega
            obtain ⟨gX, cX, gY, cY, mX, mY, X, Y, bX, kX, bY, kY, hvv, hmX, HX1, HX2⟩ := Sc.pick hd hm hp EA2.out EZ2.out i hi2 HSc.out
            have hp2 := HPr.out.2 i hi2
            rw [hvv] at hp2
            clear hvv HSc
            have hle := (HX1.out.rw_ hd).reads.1.2.1
            rw [ofL_length, HX1.out.st.reg.1.2 dd hd] at hle
            go_wp2
            go_loopg [87] mX (fun gg s87 wr => ∃ (j : Nat) (r : List B), j + gg = mX ∧ s87 = .int .i64 (j : Int) ∧ r.length = mX ∧ Aside0 (scF iv gg j r = scale iv (row X dd)) ∧ Aside0 (Sc wr w base gX cX gY cY n mX mY (X.set dd r) Y q kk dd bX kX bY kY) ∧ Aside0 (Pr wr g2 (vv (.slice (some ⟨bA, 0, none⟩) m cA) (.slice (some ⟨bZ, 0, none⟩) p cZ))))
            case atStart => exact ⟨0, row X dd, Nat.zero_add _, rfl, HX1.out.st.reg.1.2 dd hd, ⟨by unfold scale; rw [HX1.out.st.reg.1.2 dd hd]⟩, ⟨by rw [set_self _ _ (by rw [HX1.out.st.reg.1.1]; exact hd)]; exact HX1.out⟩, HPr⟩
            case round =>
              have hXl : Aside0 (dd < X.length) := ⟨by rw [HX1.out.st.reg.1.1]; exact hd⟩
              clear HX1 HPr hp2
              obtain ⟨j, r, hjg, rfl, hrl, HE, HX1, HPr⟩ := hrel
              by_cases hj : j < mX
              · have hj' : (j : Int) < (mX : Int) := by omega
                have hj0 : (0 : Int) ≤ (j : Int) := by omega
                have HRW : Aside0 (∀ W, Sc W w base gX cX gY cY n mX mY (X.set dd r) Y q kk dd bX kX bY kY → Rw W base bX kX (ofL r)) := ⟨fun W h => by have := h.rw_ hd; rw [row_set_self _ _ _ hXl.out] at this; exact this⟩
                obtain ⟨hcell, hfrz⟩ := (HRW.out _ HX1.out).cell j (by rw [ofL_length, hrl]; exact hj)
                have hC2 : Aside0 (∀ W, Below wr.heap.size wr W → W.cell? ⟨bX, j, none⟩ = some (.int .u8 (rd (ofL r) (j : Int))) ∧ W.frozen? ⟨bX, j, none⟩ = false) := ⟨fun W hb => (HRW.out _ (HX1.out.below HX1.out.size hb)).cell j (by rw [ofL_length, hrl]; exact hj)⟩
                have hmul : Aside0 (∀ W, Calls Tryd.prog 93 #[.int .u8 (rd (ofL r) (j : Int)), .int .u8 (ofB iv)] W fun e w' => e = .returned (.int .u8 (ofB (mul (at0 r j) iv))) ∧ Below W.heap.size W w') := ⟨fun W => by rw [rd_ofL]; exact gf_Mul.calls _ _ _ W (gfMul_eq _ _)⟩
                obtain ⟨y, hy⟩ : ∃ y, y = mul (at0 r j) iv := ⟨_, rfl⟩
                rw [← hy] at hmul
                have HY := Aside0.mk hy
                clear hy
                generalize rd (ofL r) (j : Int) = x at *
                go_wp2_with (go_at_call 93; refine (hmul.out _).mono ?_; rintro e w' ⟨rfl, hb⟩; obtain ⟨hcell2, hfrz2⟩ := hC2.out _ hb; have HB2 := Aside0.mk hb; clear hb)
                go_roundg (mX - (j + 1))
                case measure => omega
                case rel =>
                  have hs := HX1.out.below HX1.out.size HB2.out
                  have hp3 := HPr.out.below HB2.out
                  obtain ⟨cs, hcs⟩ := (HRW.out _ hs).typed
                  have hput := hs.put hd j y
                  rw [row_set_self _ _ _ hXl.out, set_set'] at hput
                  refine ⟨j + 1, r.set j y, by omega, by go_num, by rw [List.length_set]; exact hrl, ⟨?_⟩, ⟨hput⟩, ⟨hp3.put hcs (by decide) _⟩⟩
                  rw [← HE.out, show gk = (mX - (j + 1)) + 1 by omega, HY.out]
                  rfl
              · have hj' : ¬ (j : Int) < (mX : Int) := by omega
                have hjm : gk = 0 := by omega
                have HE2 : Aside0 (r = scale iv (row X dd)) := ⟨by rw [← HE.out, hjm]; rfl⟩
                clear HE hjm
                go_wp2
                go_roundg (2 - (i + 1))
                case measure => omega
                case rel =>
                  have := HX1.out
                  rw [HE2.out] at this
                  exact ⟨i + 1, by omega, by go_num, ⟨HX2.out _ this⟩, HPr⟩
          · have hi2' : ¬ (i : Int) < 2 := by omega
            have hii : 2 ≤ i := by omega
            have hSc := HSc.out
            rw [if_pos (by omega), if_pos hii] at hSc
            have HSc := Aside0.mk hSc
            have EZ2' := EZ2.out
            have HZ2 := Aside0.mk EZ2'
            clear EZ2'
            clear hSc hii HPr
            clear hig
            have hA2l : Aside0 (A2.length = n) := ⟨HSc.out.st.reg.1.1⟩
            go_wp2
            go_loopg [103] n (fun gg s103 wr => ∃ (i : Nat) (Ai Zi : Mat), i + gg = n ∧ s103 = .int .i64 (i : Int) ∧ Aside0 (elF kk dd gg i Ai Zi = elF kk dd n 0 A2 Z2) ∧ Aside0 (St wr base ga ca gb cb n m p Ai Zi) ∧ Aside0 (Below base w wr) ∧ Aside0 (Col wr q kk))
            case atStart => exact ⟨0, A2, Z2, Nat.zero_add _, rfl, ⟨rfl⟩, ⟨HSc.out.st⟩, ⟨HSc.out.bl⟩, ⟨HSc.out.col⟩⟩
            case round =>
              clear HSc
              obtain ⟨i, Ai, Zi, hig, rfl, HE, HS, HB, HC⟩ := hrel
              by_cases hin : i < n
              · have hin' : (i : Int) < (n : Int) := by omega
                have hi0 : (0 : Int) ≤ (i : Int) := by omega
                obtain ⟨bi, ci, hci, hfi, hri⟩ := HS.out.read i hin
                have hxc := (hri.cell kk (by rw [ofL_length, HS.out.reg.1.2 i hin]; exact hlt)).1
                rw [rd_ofL] at hxc
                have hqc := HC.out.2
                have HRI := Aside0.mk hri
                clear hri
                have HE1 : Aside0 ((if i ≠ dd ∧ el Ai i kk ≠ 0#8 then elF kk dd (gk - 1) (i + 1) (Ai.set i (am (row Ai i) (row Ai dd) (el Ai i kk) (row Ai i).length)) (Zi.set i (am (row Zi i) (row Zi dd) (el Ai i kk) (row Zi i).length)) else elF kk dd (gk - 1) (i + 1) Ai Zi) = elF kk dd n 0 A2 Z2) := ⟨by rw [← HE.out, show elF kk dd gk i Ai Zi = elF kk dd ((gk - 1) + 1) i Ai Zi by rw [show (gk - 1) + 1 = gk by omega]]; rfl⟩
                clear HE
                by_cases hskip : i ≠ dd ∧ el Ai i kk ≠ 0#8
                · have HE : Aside0 (elF kk dd (gk - 1) (i + 1) (Ai.set i (am (row Ai i) (row Ai dd) (el Ai i kk) (row Ai i).length)) (Zi.set i (am (row Zi i) (row Zi dd) (el Ai i kk) (row Zi i).length)) = elF kk dd n 0 A2 Z2) := ⟨by have := HE1.out; rw [if_pos hskip] at this; exact this⟩
                  clear HE1
                  have t1 : ((i : Int) != (dd : Int)) = true := by simp; omega
                  have t2 : (i == dd) = false := by simp [hskip.1]
                  have t3 : (i != dd) = true := by simp [hskip.1]
                  have hx0 : ofB (at0 (row Ai i) kk) ≠ 0 := fun h => hskip.2 ((ofB_eq_zero _).1 h)
                  have t4 : (ofB (at0 (row Ai i) kk) != 0) = true := by simp [hx0]
                  have t5 : (ofB (at0 (row Ai i) kk) == 0) = false := by simp [hx0]
                  obtain ⟨bd, cd, hcd, hfd, hrd⟩ := HS.out.read dd hd
                  clear hrd hfd
                  have hadd : Aside0 (∀ W, St W base ga ca gb cb n m p Ai Zi → Below base w W → Col W q kk → W.cell? ⟨ga, i, none⟩ = some (.slice (some ⟨bi, 0, none⟩) m ci) → W.cell? ⟨ga, dd, none⟩ = some (.slice (some ⟨bd, 0, none⟩) m cd) → _) := ⟨fun W h1 h2 h3 h4 h5 => h1.addm h2 h3 hin hd h4 h5 hm hmm (el Ai i kk)⟩
                  have HXE : Aside0 (ofB (el Ai i kk) = ofB (at0 (row Ai i) kk)) := ⟨rfl⟩
                  rw [HXE.out] at hadd
                  clear hx0 hskip
                  generalize ofB (at0 (row Ai i) kk) = x at *
                  go_wp2
                  go_quiet (fail)
                  have HS5 : Aside0 (St (wr.drewN nq) base ga ca gb cb n m p Ai Zi) := ⟨HS.out.below (pw_below_drewN (Below.refl _ _) _)⟩
                  have HB5 : Aside0 (Below base w (wr.drewN nq)) := ⟨pw_below_drewN HB.out _⟩
                  have HC5 : Aside0 (Col (wr.drewN nq) q kk) := ⟨HC.out.below (pw_below_drewN (Below.refl _ _) _)⟩
                  have hci5 : (wr.drewN nq).cell? ⟨ga, i, none⟩ = some (.slice (some ⟨bi, 0, none⟩) m ci) := hci
                  have hcd5 : (wr.drewN nq).cell? ⟨ga, dd, none⟩ = some (.slice (some ⟨bd, 0, none⟩) m cd) := hcd
                  clear HS HB HC hci hcd hqc hxc hfi HRI
                  generalize wr.drewN nq = w5 at *
                  go_upto_region 25 with (fail)
                  refine start_ (n := 17) (S := (fun w' => w'.cell? ⟨ga, i, none⟩ = some (.slice (some ⟨bi, 0, none⟩) m ci) ∧ w'.cell? ⟨ga, dd, none⟩ = some (.slice (some ⟨bd, 0, none⟩) m cd))) (ds := [16]) #[false, false, false, false, false, false, false, false, false, false, false, false, false, false, false, false, false] (by kernel_rfl) rfl rfl ⟨hci5, hcd5⟩ (fun hHeld => ?_); refine with_tabW red_tab25 red_bits25 (fun HT_ HW_ => ?_)
                  replace HS5 : Aside0 (St w5.drew _ _ _ _ _ _ _ _ _ _) := ⟨HS5.out.drew⟩
                  replace HB5 : Aside0 (Below base w w5.drew) := ⟨below_drew HB5.out⟩
                  replace HC5 : Aside0 (Col w5.drew q kk) := ⟨HC5.out.drew⟩
                  replace hci5 : w5.drew.cell? ⟨ga, i, none⟩ = some (.slice (some ⟨bi, 0, none⟩) m ci) := hci5
                  replace hcd5 : w5.drew.cell? ⟨ga, dd, none⟩ = some (.slice (some ⟨bd, 0, none⟩) m cd) := hcd5
                  generalize w5.drew = w6 at HS5 HB5 HC5 hci5 hcd5 hHeld ⊢
                  refine pure_ (i := 0) (N := some 121) (v := ?_) (a' := ?_) #[true, false, false, false, false, false, false, false, false, false, false, false, false, false, false, false, false] rfl rfl (any_of HT_.out (by kernel_rfl)) (fun _ _ _ h => h) (Or.inl ⟨by rfl, ?_⟩) ?_ ?_
                  rotate_left
                  · intro w'
                    go_simp
                    with_reducible rfl
                  rotate_left
                  · simp only [Act.put, List.setIfInBounds_toArray, List.set_cons_zero, List.set_cons_succ, i64_w, i32_w]
                    rfl
                  refine pure_ (i := 1) (N := some 122) (v := ?_) (a' := ?_) #[true, true, false, false, false, false, false, false, false, false, false, false, false, false, false, false, false] rfl rfl (any_of HT_.out (by kernel_rfl)) (fun _ _ _ h => h) (Or.inl ⟨by rfl, ?_⟩) ?_ ?_
                  rotate_left
                  · intro w'
                    go_simp
                    with_reducible rfl
                  rotate_left
                  · simp only [Act.put, List.setIfInBounds_toArray, List.set_cons_zero, List.set_cons_succ, i64_w, i32_w]
                    rfl
                  refine pure_ (i := 2) (N := some 123) (v := ?_) (a' := ?_) #[true, true, true, false, false, false, false, false, false, false, false, false, false, false, false, false, false] rfl rfl (any_of HT_.out (by kernel_rfl)) (fun _ _ _ h => h) (Or.inl ⟨by rfl, ?_⟩) ?_ ?_
                  rotate_left
                  · intro w'
                    go_simp
                    with_reducible rfl
                  rotate_left
                  · simp only [Act.put, List.setIfInBounds_toArray, List.set_cons_zero, List.set_cons_succ, i64_w, i32_w]
                    rfl
                  refine pure_ (i := 3) (N := some 124) (v := ?_) (a' := ?_) #[true, true, true, true, false, false, false, false, false, false, false, false, false, false, false, false, false] rfl rfl (any_of HT_.out (by kernel_rfl)) (fun _ _ _ h => h) (Or.inl ⟨by rfl, ?_⟩) ?_ ?_
                  rotate_left
                  · intro w'
                    go_simp
                    with_reducible rfl
                  rotate_left
                  · simp only [Act.put, List.setIfInBounds_toArray, List.set_cons_zero, List.set_cons_succ, i64_w, i32_w]
                    rfl
                  refine pure_ (i := 4) (N := some 125) (v := ?_) (a' := ?_) #[true, true, true, true, true, false, false, false, false, false, false, false, false, false, false, false, false] rfl rfl (any_of HT_.out (by kernel_rfl)) (fun _ _ _ h => h) (Or.inl ⟨by rfl, ?_⟩) ?_ ?_
                  rotate_left
                  · intro w'
                    go_simp
                    with_reducible rfl
                  rotate_left
                  · simp only [Act.put, List.setIfInBounds_toArray, List.set_cons_zero, List.set_cons_succ, i64_w, i32_w]
                    rfl
                  refine pure_ (i := 6) (N := some 127) (v := ?_) (a' := ?_) #[true, true, true, true, true, false, true, false, false, false, false, false, false, false, false, false, false] rfl rfl (any_of HT_.out (by kernel_rfl)) (fun _ _ _ h => h) (Or.inl ⟨by rfl, ?_⟩) ?_ ?_
                  rotate_left
                  · intro w'
                    go_simp
                    with_reducible rfl
                  rotate_left
                  · simp only [Act.put, List.setIfInBounds_toArray, List.set_cons_zero, List.set_cons_succ, i64_w, i32_w]
                    rfl
                  refine pure_ (i := 7) (N := some 128) (v := ?_) (a' := ?_) #[true, true, true, true, true, false, true, true, false, false, false, false, false, false, false, false, false] rfl rfl (any_of HT_.out (by kernel_rfl)) (fun _ _ _ h => h) (Or.inl ⟨by rfl, ?_⟩) ?_ ?_
                  rotate_left
                  · intro w'
                    go_simp
                    with_reducible rfl
                  rotate_left
                  · simp only [Act.put, List.setIfInBounds_toArray, List.set_cons_zero, List.set_cons_succ, i64_w, i32_w]
                    rfl
                  refine pure_ (i := 8) (N := some 129) (v := ?_) (a' := ?_) #[true, true, true, true, true, false, true, true, true, false, false, false, false, false, false, false, false] rfl rfl (any_of HT_.out (by kernel_rfl)) (fun _ _ _ h => h) (Or.inl ⟨by rfl, ?_⟩) ?_ ?_
                  rotate_left
                  · intro w'
                    go_simp
                    with_reducible rfl
                  rotate_left
                  · simp only [Act.put, List.setIfInBounds_toArray, List.set_cons_zero, List.set_cons_succ, i64_w, i32_w]
                    rfl
                  refine pure_ (i := 10) (N := some 131) (v := ?_) (a' := ?_) #[true, true, true, true, true, false, true, true, true, false, true, false, false, false, false, false, false] rfl rfl (any_of HT_.out (by kernel_rfl)) (fun _ _ _ h => h) (Or.inl ⟨by rfl, ?_⟩) ?_ ?_
                  rotate_left
                  · intro w'
                    go_simp
                    with_reducible rfl
                  rotate_left
                  · simp only [Act.put, List.setIfInBounds_toArray, List.set_cons_zero, List.set_cons_succ, i64_w, i32_w]
                    rfl
                  refine take_ (i := 5) (N := some 126) (v := ?_) (a' := ?_) #[true, true, true, true, true, true, true, true, true, false, true, false, false, false, false, false, false] rfl rfl (take_ofW HT_.out HW_.out (by kernel_rfl)) (fun _ _ _ h => h) (Or.inl ⟨by rfl, ?_⟩) hHeld ?_ ?_
                  rotate_left
                  · rintro w' ⟨s0, s1⟩
                    go_simp
                    with_reducible rfl
                  rotate_left
                  · simp only [Act.put, List.setIfInBounds_toArray, List.set_cons_zero, List.set_cons_succ, i64_w, i32_w]
                    rfl
                  refine take_ (i := 9) (N := some 130) (v := ?_) (a' := ?_) #[true, true, true, true, true, true, true, true, true, true, true, false, false, false, false, false, false] rfl rfl (take_ofW HT_.out HW_.out (by kernel_rfl)) (fun _ _ _ h => h) (Or.inl ⟨by rfl, ?_⟩) hHeld ?_ ?_
                  rotate_left
                  · rintro w' ⟨s0, s1⟩
                    go_simp
                    with_reducible rfl
                  rotate_left
                  · simp only [Act.put, List.setIfInBounds_toArray, List.set_cons_zero, List.set_cons_succ, i64_w, i32_w]
                    rfl
                  refine one_ (i := 11) (N := some 132) #[true, true, true, true, true, true, true, true, true, true, true, true, false, false, false, false, false] rfl rfl (one_of HT_.out (by kernel_rfl)) (by decide) (fun K hK => ?_)
                  refine goes_ Tryd.func71 (by kernel_rfl) rfl #[.slice (some ⟨bi, 0, none⟩) m ci, .slice (some ⟨bd, 0, none⟩) m cd, .int .u8 x] (by rfl) rfl rfl (by (try simp only [List.map_toArray, List.map_cons, List.map_nil]); first | done | rfl) ?_
                  refine (hadd.out _ HS5.out HB5.out HC5.out hci5 hcd5).mono ?_
                  rintro e w7 ⟨b2, c2, rfl, hf2, ⟨u2, hu2⟩, HS2, HB2, HC2, hb2⟩
                  have hh2 := pw_cell_below hb2 hHeld.1
                  have hh3 := pw_cell_below hb2 hHeld.2
                  refine ⟨_, rfl, ?_⟩
                  clear hb2 hu2
                  refine hK.out _ _ ⟨hh2, hh3⟩ (fun hHeld => ?_)
                  clear hK K
                  refine norm_ (a' := ?_) ?_ ?_
                  rotate_left
                  · show Act.put _ (some 132) _ = _
                    simp only [Act.put, List.setIfInBounds_toArray, List.set_cons_zero, List.set_cons_succ, i64_w, i32_w]
                    rfl
                  refine pure_ (i := 12) (N := some 120) (v := ?_) (a' := ?_) #[true, true, true, true, true, true, true, true, true, true, true, true, true, false, false, false, false] rfl rfl (any_of HT_.out (by kernel_rfl)) (fun _ _ _ h => h) (Or.inl ⟨by rfl, ?_⟩) ?_ ?_
                  rotate_left
                  · intro w'
                    go_simp
                    with_reducible rfl
                  rotate_left
                  · simp only [Act.put, List.setIfInBounds_toArray, List.set_cons_zero, List.set_cons_succ, i64_w, i32_w]
                    rfl
                  refine pure_ (i := 13) (N := some 133) (v := ?_) (a' := ?_) #[true, true, true, true, true, true, true, true, true, true, true, true, true, true, false, false, false] rfl rfl (any_of HT_.out (by kernel_rfl)) (fun _ _ _ h => h) (Or.inl ⟨by rfl, ?_⟩) ?_ ?_
                  rotate_left
                  · intro w'
                    go_simp
                    with_reducible rfl
                  rotate_left
                  · simp only [Act.put, List.setIfInBounds_toArray, List.set_cons_zero, List.set_cons_succ, i64_w, i32_w]
                    rfl
                  refine pure_ (i := 14) (N := some 134) (v := ?_) (a' := ?_) #[true, true, true, true, true, true, true, true, true, true, true, true, true, true, true, false, false] rfl rfl (any_of HT_.out (by kernel_rfl)) (fun _ _ _ h => h) (Or.inl ⟨by rfl, ?_⟩) ?_ ?_
                  rotate_left
                  · intro w'
                    go_simp
                    with_reducible rfl
                  rotate_left
                  · simp only [Act.put, List.setIfInBounds_toArray, List.set_cons_zero, List.set_cons_succ, i64_w, i32_w]
                    rfl
                  refine pure_ (i := 15) (N := some 135) (v := ?_) (a' := ?_) #[true, true, true, true, true, true, true, true, true, true, true, true, true, true, true, true, false] rfl rfl (any_of HT_.out (by kernel_rfl)) (fun _ _ _ h => h) (Or.inl ⟨by rfl, ?_⟩) ?_ ?_
                  rotate_left
                  · intro w'
                    go_simp
                    with_reducible rfl
                  rotate_left
                  · simp only [Act.put, List.setIfInBounds_toArray, List.set_cons_zero, List.set_cons_succ, i64_w, i32_w]
                    rfl
                  refine last_ (i := 16) (N := none) #[true, true, true, true, true, true, true, true, true, true, true, true, true, true, true, true, true] rfl rfl (one_of HT_.out (by kernel_rfl)) (by decide) (fun K hK => ?_)
                  refine skip_ (w1 := ?_) (by rfl) rfl ?_ ?_
                  rotate_left
                  · go_simp
                    rfl
                  refine hK.out _ _ ?_
                  clear hK K
                  refine done_ (done_of HT_.out (by kernel_rfl)) ?_
                  clear hh2 hh3 hHeld hf2 hci5 hcd5 hadd HS5 HB5 HC5
                  clear HT_ HW_
                  have hz1 := HS2.out.symm
                  obtain ⟨bi, ci, hci5, hfi, hri⟩ := hz1.read i hin
                  obtain ⟨bd, cd, hcd5, hfd, hrd⟩ := hz1.read dd hd
                  clear hri hrd hfd
                  have HS5 := Aside0.mk hz1
                  clear hz1 HS2
                  have HB5 := HB2
                  have HC5 := HC2
                  clear HB2 HC2
                  have hadd : Aside0 (∀ W, St W base gb cb ga ca n p m Zi (Ai.set i (am (row Ai i) (row Ai dd) (el Ai i kk) (row Ai i).length)) → Below base w W → Col W q kk → W.cell? ⟨gb, i, none⟩ = some (.slice (some ⟨bi, 0, none⟩) p ci) → W.cell? ⟨gb, dd, none⟩ = some (.slice (some ⟨bd, 0, none⟩) p cd) → _) := ⟨fun W h1 h2 h3 h4 h5 => h1.addm h2 h3 hin hd h4 h5 hp hpp (el Ai i kk)⟩
                  rw [HXE.out] at hadd
                  generalize w7.setCell ⟨ga, i, none⟩ (.slice (some ⟨b2, 0, none⟩) m c2) = w5 at *
                  go_upto_region 26 with (fail)
                  refine start_ (n := 17) (S := (fun w' => w'.cell? ⟨gb, i, none⟩ = some (.slice (some ⟨bi, 0, none⟩) p ci) ∧ w'.cell? ⟨gb, dd, none⟩ = some (.slice (some ⟨bd, 0, none⟩) p cd))) (ds := [16]) #[false, false, false, false, false, false, false, false, false, false, false, false, false, false, false, false, false] (by kernel_rfl) rfl rfl ⟨hci5, hcd5⟩ (fun hHeld => ?_); refine with_tabW red_tab26 red_bits26 (fun HT_ HW_ => ?_)
                  replace HS5 : Aside0 (St w5.drew _ _ _ _ _ _ _ _ _ _) := ⟨HS5.out.drew⟩
                  replace HB5 : Aside0 (Below base w w5.drew) := ⟨below_drew HB5.out⟩
                  replace HC5 : Aside0 (Col w5.drew q kk) := ⟨HC5.out.drew⟩
                  replace hci5 : w5.drew.cell? ⟨gb, i, none⟩ = some (.slice (some ⟨bi, 0, none⟩) p ci) := hci5
                  replace hcd5 : w5.drew.cell? ⟨gb, dd, none⟩ = some (.slice (some ⟨bd, 0, none⟩) p cd) := hcd5
                  generalize w5.drew = w6 at HS5 HB5 HC5 hci5 hcd5 hHeld ⊢
                  refine pure_ (i := 0) (N := some 137) (v := ?_) (a' := ?_) #[true, false, false, false, false, false, false, false, false, false, false, false, false, false, false, false, false] rfl rfl (any_of HT_.out (by kernel_rfl)) (fun _ _ _ h => h) (Or.inl ⟨by rfl, ?_⟩) ?_ ?_
                  rotate_left
                  · intro w'
                    go_simp
                    with_reducible rfl
                  rotate_left
                  · simp only [Act.put, List.setIfInBounds_toArray, List.set_cons_zero, List.set_cons_succ, i64_w, i32_w]
                    rfl
                  refine pure_ (i := 1) (N := some 138) (v := ?_) (a' := ?_) #[true, true, false, false, false, false, false, false, false, false, false, false, false, false, false, false, false] rfl rfl (any_of HT_.out (by kernel_rfl)) (fun _ _ _ h => h) (Or.inl ⟨by rfl, ?_⟩) ?_ ?_
                  rotate_left
                  · intro w'
                    go_simp
                    with_reducible rfl
                  rotate_left
                  · simp only [Act.put, List.setIfInBounds_toArray, List.set_cons_zero, List.set_cons_succ, i64_w, i32_w]
                    rfl
                  refine pure_ (i := 2) (N := some 139) (v := ?_) (a' := ?_) #[true, true, true, false, false, false, false, false, false, false, false, false, false, false, false, false, false] rfl rfl (any_of HT_.out (by kernel_rfl)) (fun _ _ _ h => h) (Or.inl ⟨by rfl, ?_⟩) ?_ ?_
                  rotate_left
                  · intro w'
                    go_simp
                    with_reducible rfl
                  rotate_left
                  · simp only [Act.put, List.setIfInBounds_toArray, List.set_cons_zero, List.set_cons_succ, i64_w, i32_w]
                    rfl
                  refine pure_ (i := 3) (N := some 140) (v := ?_) (a' := ?_) #[true, true, true, true, false, false, false, false, false, false, false, false, false, false, false, false, false] rfl rfl (any_of HT_.out (by kernel_rfl)) (fun _ _ _ h => h) (Or.inl ⟨by rfl, ?_⟩) ?_ ?_
                  rotate_left
                  · intro w'
                    go_simp
                    with_reducible rfl
                  rotate_left
                  · simp only [Act.put, List.setIfInBounds_toArray, List.set_cons_zero, List.set_cons_succ, i64_w, i32_w]
                    rfl
                  refine pure_ (i := 4) (N := some 141) (v := ?_) (a' := ?_) #[true, true, true, true, true, false, false, false, false, false, false, false, false, false, false, false, false] rfl rfl (any_of HT_.out (by kernel_rfl)) (fun _ _ _ h => h) (Or.inl ⟨by rfl, ?_⟩) ?_ ?_
                  rotate_left
                  · intro w'
                    go_simp
                    with_reducible rfl
                  rotate_left
                  · simp only [Act.put, List.setIfInBounds_toArray, List.set_cons_zero, List.set_cons_succ, i64_w, i32_w]
                    rfl
                  refine pure_ (i := 6) (N := some 143) (v := ?_) (a' := ?_) #[true, true, true, true, true, false, true, false, false, false, false, false, false, false, false, false, false] rfl rfl (any_of HT_.out (by kernel_rfl)) (fun _ _ _ h => h) (Or.inl ⟨by rfl, ?_⟩) ?_ ?_
                  rotate_left
                  · intro w'
                    go_simp
                    with_reducible rfl
                  rotate_left
                  · simp only [Act.put, List.setIfInBounds_toArray, List.set_cons_zero, List.set_cons_succ, i64_w, i32_w]
                    rfl
                  refine pure_ (i := 7) (N := some 144) (v := ?_) (a' := ?_) #[true, true, true, true, true, false, true, true, false, false, false, false, false, false, false, false, false] rfl rfl (any_of HT_.out (by kernel_rfl)) (fun _ _ _ h => h) (Or.inl ⟨by rfl, ?_⟩) ?_ ?_
                  rotate_left
                  · intro w'
                    go_simp
                    with_reducible rfl
                  rotate_left
                  · simp only [Act.put, List.setIfInBounds_toArray, List.set_cons_zero, List.set_cons_succ, i64_w, i32_w]
                    rfl
                  refine pure_ (i := 8) (N := some 145) (v := ?_) (a' := ?_) #[true, true, true, true, true, false, true, true, true, false, false, false, false, false, false, false, false] rfl rfl (any_of HT_.out (by kernel_rfl)) (fun _ _ _ h => h) (Or.inl ⟨by rfl, ?_⟩) ?_ ?_
                  rotate_left
                  · intro w'
                    go_simp
                    with_reducible rfl
                  rotate_left
                  · simp only [Act.put, List.setIfInBounds_toArray, List.set_cons_zero, List.set_cons_succ, i64_w, i32_w]
                    rfl
                  refine pure_ (i := 10) (N := some 147) (v := ?_) (a' := ?_) #[true, true, true, true, true, false, true, true, true, false, true, false, false, false, false, false, false] rfl rfl (any_of HT_.out (by kernel_rfl)) (fun _ _ _ h => h) (Or.inl ⟨by rfl, ?_⟩) ?_ ?_
                  rotate_left
                  · intro w'
                    go_simp
                    with_reducible rfl
                  rotate_left
                  · simp only [Act.put, List.setIfInBounds_toArray, List.set_cons_zero, List.set_cons_succ, i64_w, i32_w]
                    rfl
                  refine take_ (i := 5) (N := some 142) (v := ?_) (a' := ?_) #[true, true, true, true, true, true, true, true, true, false, true, false, false, false, false, false, false] rfl rfl (take_ofW HT_.out HW_.out (by kernel_rfl)) (fun _ _ _ h => h) (Or.inl ⟨by rfl, ?_⟩) hHeld ?_ ?_
                  rotate_left
                  · rintro w' ⟨s0, s1⟩
                    go_simp
                    with_reducible rfl
                  rotate_left
                  · simp only [Act.put, List.setIfInBounds_toArray, List.set_cons_zero, List.set_cons_succ, i64_w, i32_w]
                    rfl
                  refine take_ (i := 9) (N := some 146) (v := ?_) (a' := ?_) #[true, true, true, true, true, true, true, true, true, true, true, false, false, false, false, false, false] rfl rfl (take_ofW HT_.out HW_.out (by kernel_rfl)) (fun _ _ _ h => h) (Or.inl ⟨by rfl, ?_⟩) hHeld ?_ ?_
                  rotate_left
                  · rintro w' ⟨s0, s1⟩
                    go_simp
                    with_reducible rfl
                  rotate_left
                  · simp only [Act.put, List.setIfInBounds_toArray, List.set_cons_zero, List.set_cons_succ, i64_w, i32_w]
                    rfl
                  refine one_ (i := 11) (N := some 148) #[true, true, true, true, true, true, true, true, true, true, true, true, false, false, false, false, false] rfl rfl (one_of HT_.out (by kernel_rfl)) (by decide) (fun K hK => ?_)
                  refine goes_ Tryd.func71 (by kernel_rfl) rfl #[.slice (some ⟨bi, 0, none⟩) p ci, .slice (some ⟨bd, 0, none⟩) p cd, .int .u8 x] (by rfl) rfl rfl (by (try simp only [List.map_toArray, List.map_cons, List.map_nil]); first | done | rfl) ?_
                  refine (hadd.out _ HS5.out HB5.out HC5.out hci5 hcd5).mono ?_
                  rintro e w7 ⟨b2, c2, rfl, hf2, ⟨u2, hu2⟩, HS2, HB2, HC2, hb2⟩
                  have hh2 := pw_cell_below hb2 hHeld.1
                  have hh3 := pw_cell_below hb2 hHeld.2
                  refine ⟨_, rfl, ?_⟩
                  clear hb2 hu2
                  refine hK.out _ _ ⟨hh2, hh3⟩ (fun hHeld => ?_)
                  clear hK K
                  refine norm_ (a' := ?_) ?_ ?_
                  rotate_left
                  · show Act.put _ (some 148) _ = _
                    simp only [Act.put, List.setIfInBounds_toArray, List.set_cons_zero, List.set_cons_succ, i64_w, i32_w]
                    rfl
                  refine pure_ (i := 12) (N := some 136) (v := ?_) (a' := ?_) #[true, true, true, true, true, true, true, true, true, true, true, true, true, false, false, false, false] rfl rfl (any_of HT_.out (by kernel_rfl)) (fun _ _ _ h => h) (Or.inl ⟨by rfl, ?_⟩) ?_ ?_
                  rotate_left
                  · intro w'
                    go_simp
                    with_reducible rfl
                  rotate_left
                  · simp only [Act.put, List.setIfInBounds_toArray, List.set_cons_zero, List.set_cons_succ, i64_w, i32_w]
                    rfl
                  refine pure_ (i := 13) (N := some 149) (v := ?_) (a' := ?_) #[true, true, true, true, true, true, true, true, true, true, true, true, true, true, false, false, false] rfl rfl (any_of HT_.out (by kernel_rfl)) (fun _ _ _ h => h) (Or.inl ⟨by rfl, ?_⟩) ?_ ?_
                  rotate_left
                  · intro w'
                    go_simp
                    with_reducible rfl
                  rotate_left
                  · simp only [Act.put, List.setIfInBounds_toArray, List.set_cons_zero, List.set_cons_succ, i64_w, i32_w]
                    rfl
                  refine pure_ (i := 14) (N := some 150) (v := ?_) (a' := ?_) #[true, true, true, true, true, true, true, true, true, true, true, true, true, true, true, false, false] rfl rfl (any_of HT_.out (by kernel_rfl)) (fun _ _ _ h => h) (Or.inl ⟨by rfl, ?_⟩) ?_ ?_
                  rotate_left
                  · intro w'
                    go_simp
                    with_reducible rfl
                  rotate_left
                  · simp only [Act.put, List.setIfInBounds_toArray, List.set_cons_zero, List.set_cons_succ, i64_w, i32_w]
                    rfl
                  refine pure_ (i := 15) (N := some 151) (v := ?_) (a' := ?_) #[true, true, true, true, true, true, true, true, true, true, true, true, true, true, true, true, false] rfl rfl (any_of HT_.out (by kernel_rfl)) (fun _ _ _ h => h) (Or.inl ⟨by rfl, ?_⟩) ?_ ?_
                  rotate_left
                  · intro w'
                    go_simp
                    with_reducible rfl
                  rotate_left
                  · simp only [Act.put, List.setIfInBounds_toArray, List.set_cons_zero, List.set_cons_succ, i64_w, i32_w]
                    rfl
                  refine last_ (i := 16) (N := none) #[true, true, true, true, true, true, true, true, true, true, true, true, true, true, true, true, true] rfl rfl (one_of HT_.out (by kernel_rfl)) (by decide) (fun K hK => ?_)
                  refine skip_ (w1 := ?_) (by rfl) rfl ?_ ?_
                  rotate_left
                  · go_simp
                    rfl
                  refine hK.out _ _ ?_
                  clear hK K
                  refine done_ (done_of HT_.out (by kernel_rfl)) ?_
                  clear hh2 hh3 hHeld hf2 hci5 hcd5 hadd HS5 HB5 HC5
                  clear HT_ HW_
                  go_wp2
                  go_roundg (n - (i + 1))
                  case measure => omega
                  case rel => exact ⟨i + 1, _, _, by omega, by go_num, ⟨by rw [← HE.out, show gk - 1 = n - (i + 1) by omega]⟩, ⟨HS2.out.symm⟩, HB2, HC2⟩
                · have HE : Aside0 (elF kk dd (gk - 1) (i + 1) Ai Zi = elF kk dd n 0 A2 Z2) := ⟨by have := HE1.out; rw [if_neg hskip] at this; exact this⟩
                  clear HE1
                  by_cases hid : i = dd
                  · have t1 : ((i : Int) != (dd : Int)) = false := by simp [hid]
                    have t2 : (i == dd) = true := by simp [hid]
                    have t3 : (i != dd) = false := by simp [hid]
                    generalize ofB (at0 (row Ai i) kk) = x at *
                    clear hskip hid
                    go_wp2
                    go_quiet (fail)
                    go_wp2
                    go_roundg (n - (i + 1))
                    case measure => omega
                    case rel => exact ⟨i + 1, Ai, Zi, by omega, by go_num, ⟨by rw [← HE.out, show gk - 1 = n - (i + 1) by omega]⟩, ⟨HS.out.below (pw_below_drewN (Below.refl _ _) _)⟩, ⟨pw_below_drewN HB.out _⟩, ⟨HC.out.below (pw_below_drewN (Below.refl _ _) _)⟩⟩
                  · have hx0 : ofB (at0 (row Ai i) kk) = 0 := by rw [ofB_eq_zero]; exact Classical.byContradiction fun h => hskip ⟨hid, h⟩
                    have t1 : ((i : Int) != (dd : Int)) = true := by simp; omega
                    have t2 : (i == dd) = false := by simp [hid]
                    have t3 : (i != dd) = true := by simp [hid]
                    rw [hx0] at hxc
                    clear hskip hid hx0
                    go_wp2
                    go_quiet (fail)
                    go_wp2
                    go_roundg (n - (i + 1))
                    case measure => omega
                    case rel => exact ⟨i + 1, Ai, Zi, by omega, by go_num, ⟨by rw [← HE.out, show gk - 1 = n - (i + 1) by omega]⟩, ⟨HS.out.below (pw_below_drewN (Below.refl _ _) _)⟩, ⟨pw_below_drewN HB.out _⟩, ⟨HC.out.below (pw_below_drewN (Below.refl _ _) _)⟩⟩
              · have hin' : ¬ (i : Int) < (n : Int) := by omega
                have hg0 : gk = 0 := by omega
                have HE2 : Aside0 ((Ai, Zi) = stepF kk dd (t + dd) A' Z') := ⟨by
                  have h := HE.out
                  rw [hg0] at h
                  rw [show (Ai, Zi) = elF kk dd n 0 A2 Z2 from h]
                  unfold stepF
                  simp only []
                  rw [Nat.add_comm t dd, ← EA1.out, ← EZ1.out]
                  have hv : inv (el A1 dd kk) = iv := by rw [EA1.out]; exact HIV.out
                  rw [hv, ← EA2.out, hA2l.out, HZ2.out]⟩
                have HR4 := hR3
                clear HE hg0 hig hR3
                have hlen : A'.length = n := hAl.out
                have HR5 : Aside0 ((if dd + 1 = n then (dd + 1, (Ai, Zi)) else redF (m - (kk + 1)) (kk + 1) (dd + 1) Ai Zi) = redF m 0 0 A Z) := ⟨by rw [← HR4.out, ← HE2.out, hlen]⟩
                clear HR4 HE2 hlen
                by_cases hend : dd + 1 = n
                · have e1 : ((dd : Int) + 1 == (n : Int)) = true := by rw [beq_iff_eq]; omega
                  have e2 : (dd + 1 == n) = true := by rw [beq_iff_eq]; exact hend
                  have HF : Aside0 (redF m 0 0 A Z = (dd + 1, (Ai, Zi))) := ⟨by rw [← HR5.out, if_pos hend]⟩
                  clear hend HR5
                  go_wp2
                  go_ret
                  rw [HF.out]
                  exact ⟨by first | rfl | (rw [Int.natCast_add]; rfl), HS.out, HB.out⟩
                · have e1 : ((dd : Int) + 1 == (n : Int)) = false := by rw [beq_eq_false_iff_ne]; omega
                  have e2 : (dd + 1 == n) = false := by rw [beq_eq_false_iff_ne]; exact hend
                  have HF : Aside0 (redF (m - (kk + 1)) (kk + 1) (dd + 1) Ai Zi = redF m 0 0 A Z) := ⟨by rw [← HR5.out, if_neg hend]⟩
                  have hd2 : dd + 1 < n := by omega
                  clear hend HR5
                  go_wp2
                  go_roundg (m - (kk + 1))
                  case measure => omega
                  case rel => exact ⟨dd + 1, kk + 1, Ai, Zi, by go_num, by go_num, by omega, hd2, HS.out, HB.out, HF.out⟩
    · have hkm : kk = m := by omega
      have hlt' : decide ((kk : Int) < (m : Int)) = false := decide_eq_false (by omega)
      rw [show gk = 0 by omega] at hR
      have hR3 := Aside0.mk hR
      have HS := Aside0.mk hS
      have HB := Aside0.mk hB
      clear hR hS hB
      go_wp2
      go_ret
      have hf : redF m 0 0 A Z = (dd, A', Z') := hR3.out.symm
      rw [hf]
      exact ⟨rfl, HS.out, HB.out⟩
end Go.Proofs.YtnfgiamdmfkcjaaDoor.H
namespace Go.Proofs.YtnfgiamdmfkcjaaDoor.H
open Go.RowKit Go.Proofs.YtnfgiamdmfkcjaaDoorW.PrintWords Go.Proofs.YtnfgiamdmfkcjaaDoorW.PrintLast Go.Proofs.YtnfgiamdmfkcjaaDoor.Leaf Go.Proofs.YtnfgiamdmfkcjaaDoor.Gf Go.Proofs.YtnfgiamdmfkcjaaDoor.Red Go.Proofs.YtnfgiamdmfkcjaaDoor.P
set_option linter.unusedVariables false
set_option linter.unusedSimpArgs false
def unM (l : List (List Int)) : Mat := l.map fun r => r.map toB
theorem unM_oM (A : Mat) : unM (oM A) = A := by
  unfold unM oM ofL
  rw [List.map_map]
  refine (List.map_congr_left fun x hx => ?_).trans (List.map_id' A)
  simp only [Function.comp, List.map_map]
  refine (List.map_congr_left fun y _ => ?_).trans (List.map_id' x)
  exact toB_ofB y
theorem bytes_oM (A : Mat) : (oM A).all byteRow = true := by
  unfold oM
  simp only [List.all_map, List.all_eq_true, Function.comp]
  exact fun x _ => byteRow_ofL x
theorem oM_unM (l : List (List Int)) (h : l.all byteRow = true) : oM (unM l) = l := by
  unfold unM oM
  rw [List.map_map]
  refine (List.map_congr_left fun x hx => ?_).trans (List.map_id' l)
  exact ofL_toB x (List.all_eq_true.1 h x hx)
/-- An inverse, if the matrix may be and has one. -/
def invR (A : Mat) : List (List Int) × Int :=
  if mayB A = true ∧ A.length = (row A 0).length then if (redF A.length 0 0 A (idM A.length)).1 < A.length then ([], 4) else (oM (redF A.length 0 0 A (idM A.length)).2.2, 0) else ([], 1)
def matrix_Inverse.f (l0 : List (List Int)) : Option (List (List Int) × Int) := if l0.all byteRow = true then some (invR (unM l0)) else none
theorem matrix_Inverse.f_oM (A : Mat) : matrix_Inverse.f (oM A) = some (invR A) := by unfold matrix_Inverse.f; rw [if_pos (bytes_oM A), unM_oM]
theorem Mt.lower {w : World} {base base' g cp : Nat} {id cap : Nat → Nat} {A : List (List Int)} (h : Mt w base g cp id cap A) (hb : base' ≤ base) : Mt w base' g cp id cap A :=
  ⟨own_weaken h.outer hb, fun i hi => own_weaken (h.rows i hi) hb, h.inj⟩
/-- Two matrices made one behind the other. -/
theorem St.make {w1 w2 : World} {base n m p : Nat} {A Z : Mat} {va vz : Value} (hZ : Kd.S (Kd.slice 5 (Kd.int .u8)) 22 w1 base (fun _ => True) vz (oM Z)) (hb : Below w1.heap.size w1 w2) (hA : Kd.S (Kd.slice 5 (Kd.int .u8)) 22 w2 w1.heap.size (fun _ => True) va (oM A)) (hbase : base ≤ w1.heap.size)
    (rA : Reg A n m) (rZ : Reg Z n p) (hn : 0 < n) (hm : 0 < m) (hp : 0 < p) : ∃ ga ca gz cz, va = .slice (some ⟨ga, 0, none⟩) n ca ∧ vz = .slice (some ⟨gz, 0, none⟩) n cz ∧ St w2 base ga ca gz cz n m p A Z := by
  obtain ⟨ga, ca, ida, capa, e1, h1, _⟩ := Mt.of_S hA (by rw [oM_length, rA.1]; exact hn) (fun i hi => by rw [oM_length, rA.1] at hi; unfold oM; rw [map_getD, ofL_length, rA.2 i hi]; exact hm)
  obtain ⟨gz, cz, idz, capz, e2, h2, _⟩ := Mt.of_S hZ (by rw [oM_length, rZ.1]; exact hn) (fun i hi => by rw [oM_length, rZ.1] at hi; unfold oM; rw [map_getD, ofL_length, rZ.2 i hi]; exact hp)
  rw [oM_length, rA.1] at e1
  rw [oM_length, rZ.1] at e2
  refine ⟨ga, ca, gz, cz, e1, e2, ida, capa, idz, capz, h1.lower hbase, h2.below hb, fun i j hi hj e => ?_, fun e => ?_, rA, rZ⟩
  · have h3 := (h1.rows i (by rw [oM_length, rA.1]; exact hi)).base_
    have h4 := (h2.rows j (by rw [oM_length, rZ.1]; exact hj)).lt
    omega
  · have h3 := h1.gbase
    have h4 := h2.glt
    omega
theorem St.toS {w : World} {base ga ca gb cb n m p : Nat} {A Z : Mat} (h : St w base ga ca gb cb n m p A Z) : Kd.S (Kd.slice 5 (Kd.int .u8)) 22 w base (fun _ => True) (.slice (some ⟨gb, 0, none⟩) n cb) (oM Z) := by
  obtain ⟨a, b, c, d, h1, h2, h3, h4, h5, h6⟩ := h
  have := Kd.S_mono h2.to_S (ok' := fun _ => True) (fun _ _ => trivial)
  rw [show (Z.map ofL).length = n by rw [List.length_map, h6.1]] at this
  exact this
set_option maxHeartbeats 2000000 in
set_option maxRecDepth 100000 in
theorem matrix_Inverse.calls (A0 : Option Addr) (c0 : Nat) (l0 : List (List Int)) (r1 : List (List Int)) (r2 : Int) (w : World) (hr0 : Kd.C (Kd.slice 5 (Kd.int .u8)) w A0 l0.length l0) (hc0 : l0.length ≤ c0) (h : matrix_Inverse.f l0 = some (r1, r2)) :
    Calls Tryd.prog 37 #[.slice A0 l0.length c0] w fun e w' => ∃ v0_ : Value, e = .returned (.tuple #[v0_, .int .i64 r2]) ∧ Kd.S (Kd.slice 5 (Kd.int .u8)) 22 w' w.heap.size (fun _ => True) v0_ r1 ∧ Below w.heap.size w w' := by
  unfold matrix_Inverse.f at h
  by_cases hby : l0.all byteRow = true
  · rw [if_pos hby] at h
    obtain ⟨A, rfl⟩ : ∃ A, l0 = oM A := ⟨unM l0, (oM_unM l0 hby).symm⟩
    rw [unM_oM] at h
    have hinv := Option.some.inj h
    clear h hby
    have hlen : A.length ≤ 9223372036854775807 := by have := hr0.2.1; rwa [oM_length] at this
    have hchk : Aside0 (Calls Tryd.prog 67 #[.slice A0 A.length c0] w fun e w' => e = .returned (.int .i64 (if mayB A = true then 0 else 1)) ∧ Drawn0 w w') := ⟨by
      obtain ⟨k, hk⟩ := (evCheck A hlen).rounds
      have := matrix_Check.calls k A0 c0 (oM A) _ w hr0 hc0 hk
      rwa [oM_length] at this⟩
    rw [oM_length]
    rw [oM_length] at hc0
    unfold invR at hinv
    by_cases hm : mayB A = true
    · rw [hm] at hchk
      obtain ⟨hreg, p1, p2, p3, p4⟩ := mayB_reg hm
      obtain ⟨As, cs, hcell, hrows⟩ := rows_vals hr0
      obtain ⟨ad, rfl, hce⟩ := hcell (by rw [oM_length]; exact p1)
      have hz : w.cell? ad = some (.slice (As 0) (row A 0).length (cs 0)) := by
        have := hce 0 (by rw [oM_length]; exact p1)
        rw [Addr.add_zero'] at this
        unfold oM at this
        rw [map_getD, ofL_length] at this
        exact this
      have hn0 : (0 : Int) < (A.length : Int) := by omega
      clear hce hrows hcell
      by_cases hsq : A.length = (row A 0).length
      · rw [if_pos ⟨hm, hsq⟩] at hinv
        have hsq2 : Reg A A.length A.length := by have := hreg; rw [← hsq] at this; exact this
        have hid : Aside0 (∀ W, Calls Tryd.prog 63 #[.int .i64 (A.length : Int)] W fun e w' => ∃ v, e = .returned (.tuple #[v, .int .i64 0]) ∧ Kd.S (Kd.slice 5 (Kd.int .u8)) 22 w' W.heap.size (fun _ => True) v (oM (idM A.length)) ∧ Below W.heap.size W w') := ⟨fun W => by
          obtain ⟨k, hk⟩ := (evIdentity (A.length : Int)).rounds
          unfold idR at hk
          rw [if_pos (by omega), Int.toNat_natCast] at hk
          exact matrix_Identity.calls k _ _ _ W hk⟩
        have hown : Aside0 (∀ W, Below w.heap.size w W → Calls Tryd.prog 70 #[.slice (some ad) A.length c0] W fun e w' => ∃ v, e = .returned v ∧ Kd.S (Kd.slice 5 (Kd.int .u8)) 22 w' W.heap.size (fun _ => True) v (oM A) ∧ Below W.heap.size W w') := ⟨fun W hW => by
          obtain ⟨k, hk⟩ := (evOwn A (by omega) (fun i hi => by rw [hreg.2 i hi]; omega)).rounds
          have := matrix_own.calls k _ c0 (oM A) _ W (Kd.C_below hr0 hW) (by rw [oM_length]; exact hc0) hk
          rwa [oM_length] at this⟩
        have t1 : ((A.length : Int) != ((row A 0).length : Int)) = false := by simp [hsq]
        have t2 : (A.length == (row A 0).length) = true := by simp [← hsq]
        have t3 : (A.length != (row A 0).length) = false := by simp [← hsq]
        have HR := Aside0.mk hinv
        have HG := Aside0.mk hsq2
        have HP := Aside0.mk (show 0 < A.length ∧ A.length ≤ 255 from ⟨p1, p2⟩)
        have HSQ := Aside0.mk hsq
        clear hinv hsq2 hsq hm hreg p3 p4 hr0
        go_enter Tryd.func37, Tryd.ntmps37
        go_wp2_with fail
        refine hchk.out.mono ?_
        rintro e w' ⟨rfl, ⟨nq, rfl⟩⟩
        clear hchk
        go_wp2_with fail
        refine (hid.out _).mono ?_
        rintro e w1 ⟨vz, rfl, hSz, hb1⟩
        have hbz : Below w.heap.size w w1 := below_step (pw_below_drewN (Below.refl _ _) nq) hb1
        have HZ : Aside0 (Kd.S (Kd.slice 5 (Kd.int .u8)) 22 w1 w.heap.size (fun _ => True) vz (oM (idM A.length))) := ⟨hSz⟩
        have HB1 := Aside0.mk hbz
        clear hid hSz hbz hb1
        go_wp2_with fail
        refine (hown.out _ HB1.out).mono ?_
        rintro e w2 ⟨va, rfl, hSa, hb2⟩
        obtain ⟨ga, ca, gz, cz, rfl, rfl, hSt⟩ := St.make HZ.out hb2 hSa (below_size HB1.out) HG.out (matF_reg _ _ _) HP.out.1 HP.out.1 HP.out.1
        have hb3 := below_step HB1.out hb2
        have hred := reduce_calls w2 w.heap.size ga ca gz cz A.length A.length A.length A (idM A.length) hSt HP.out.1 HP.out.1 HP.out.1 HP.out.2 HP.out.2 HP.out.2 (below_size hb3)
        have HRED := Aside0.mk hred
        have HB3 := Aside0.mk hb3
        clear hred hb3 hSt hSa hb2 HZ HB1 hown
        have hle := redF_le HP.out.1 HG.out (matF_reg A.length A.length Mx.I)
        rw [← idM_eq] at hle
        generalize redF A.length 0 0 A (idM A.length) = R at *
        obtain ⟨cnt, Ra, Rz⟩ := R
        simp only at HR HRED hle
        by_cases hlt : cnt < A.length
        · have HR2 : Aside0 (([], (4 : Int)) = (r1, r2)) := ⟨by have := HR.out; rw [if_pos hlt] at this; exact this⟩
          have u1 : decide ((cnt : Int) < (A.length : Int)) = true := decide_eq_true (by omega)
          have u2 : decide (cnt < A.length) = true := decide_eq_true hlt
          clear HR hlt hle
          go_wp2_with fail
          refine HRED.out.mono ?_
          rintro e w4 ⟨rfl, hst4, hb4⟩
          have HB4 := Aside0.mk (show Below w.heap.size w w4 from HB3.out.trans hb4)
          clear hst4 hb4 HRED
          go_wp2
          go_ret2
          obtain ⟨rfl, rfl⟩ := Prod.mk.inj HR2.out
          exact ⟨_, rfl, Kd.S_nil _ _ _ _ _, HB4.out⟩
        · have HR2 : Aside0 ((oM Rz, (0 : Int)) = (r1, r2)) := ⟨by have := HR.out; rw [if_neg hlt] at this; exact this⟩
          have u1 : decide ((cnt : Int) < (A.length : Int)) = false := decide_eq_false (by omega)
          have u2 : decide (cnt < A.length) = false := decide_eq_false hlt
          clear HR hlt hle
          go_wp2_with fail
          refine HRED.out.mono ?_
          rintro e w4 ⟨rfl, hst4, hb4⟩
          have HB4 := Aside0.mk (show Below w.heap.size w w4 from HB3.out.trans hb4)
          have HS4 := Aside0.mk hst4.toS
          clear hst4 hb4 HRED
          go_wp2
          go_ret2
          obtain ⟨rfl, rfl⟩ := Prod.mk.inj HR2.out
          exact ⟨_, rfl, HS4.out, HB4.out⟩
      · rw [if_neg (fun h => hsq h.2)] at hinv
        obtain ⟨rfl, rfl⟩ := Prod.mk.inj hinv
        have t1 : ((A.length : Int) != ((row A 0).length : Int)) = true := by simp; omega
        have t2 : (A.length == (row A 0).length) = false := by simp [hsq]
        have t3 : (A.length != (row A 0).length) = true := by simp [hsq]
        clear hinv hsq hm hreg hr0
        go_enter Tryd.func37, Tryd.ntmps37
        go_wp2_with fail
        refine hchk.out.mono ?_
        rintro e w' ⟨rfl, ⟨nq, rfl⟩⟩
        clear hchk
        go_wp2
        go_ret2
        exact ⟨_, rfl, Kd.S_nil _ _ _ _ _, pw_below_drewN (Below.refl _ _) nq⟩
    · rw [if_neg (fun h => hm h.1)] at hinv
      rw [if_neg hm] at hchk
      obtain ⟨rfl, rfl⟩ := Prod.mk.inj hinv
      clear hinv hm hr0
      go_enter Tryd.func37, Tryd.ntmps37
      go_wp2_with fail
      refine hchk.out.mono ?_
      rintro e w' ⟨rfl, ⟨nq, rfl⟩⟩
      clear hchk
      go_wp2
      go_ret2
      exact ⟨_, rfl, Kd.S_nil _ _ _ _ _, pw_below_drewN (Below.refl _ _) nq⟩
  · rw [if_neg hby] at h
    cases h
end Go.Proofs.YtnfgiamdmfkcjaaDoor.H
namespace Go.Proofs.YtnfgiamdmfkcjaaDoor.H
open Go.RowKit Go.Proofs.YtnfgiamdmfkcjaaDoorW.PrintWords Go.Proofs.YtnfgiamdmfkcjaaDoorW.PrintLast Go.Proofs.YtnfgiamdmfkcjaaDoorW.PrintMore Go.Proofs.YtnfgiamdmfkcjaaDoor.Leaf Go.Proofs.YtnfgiamdmfkcjaaDoor.Gf Go.Proofs.YtnfgiamdmfkcjaaDoor.Mx Go.Proofs.YtnfgiamdmfkcjaaDoor.P Go.Proofs.YtnfgiamdmfkcjaaDoor.Red
set_option linter.unusedVariables false
set_option linter.unusedSimpArgs false
/-- Which of the first s one has. -/
def selN (H : List Bool) (s : Nat) : List Nat := (List.range s).filter fun i => H.getD i false
def selR (H : List Bool) (s : Nat) : List Int := (selN H s).map fun i : Nat => (i : Int)
def selL (S : List (List Int)) (H : List Bool) (s : Nat) : List (List Int) := (selN H s).map fun i : Nat => rd_L1 S (i : Int)
theorem selN_le (H : List Bool) (s : Nat) : (selN H s).length ≤ s := by
 unfold selN
 exact Nat.le_trans (List.length_filter_le _ _) (by rw [List.length_range]; exact Nat.le_refl _)
theorem selN_yes {H : List Bool} {s : Nat} (h : H.getD s false = true) : selN H (s + 1) = selN H s ++ [s] := by
 unfold selN
 rw [List.range_succ, List.filter_append, List.filter_cons, if_pos h]
 rfl
theorem selN_no {H : List Bool} {s : Nat} (h : H.getD s false = false) : selN H (s + 1) = selN H s := by
 unfold selN
 rw [List.range_succ, List.filter_append, List.filter_cons, if_neg (by rw [h]; simp), List.filter_nil, List.append_nil]
/-- What the callees of Decode tell. -/
structure DecFacts (k m : Int) (S : List (List Int)) (H : List Bool) (a : List (List Int)) (ea : Int) (ev : Bool) (b1 b2 c1 c2 : List (List Int)) (e1 e2 : Int) : Prop where
 cau : Ev (fun f => matrix_Cauchy.f f k m) (a, ea)
 rng : ea = 0 → 1 ≤ k ∧ 1 ≤ m ∧ k + m ≤ 255
 even : code_even.f (selL S H H.length) ((selL S H H.length).length : Int) = some ev
 rows : ea = 0 → ev = true → (S.length : Int) = k + m → (H.length : Int) = k + m → k ≤ (selL S H H.length).length → Ev (fun f => matrix_Rows.f f a ((selR H H.length).take k.toNat)) (b1, e1)
 inv : matrix_Inverse.f b1 = some (b2, e2)
 com1 : ea = 0 → ev = true → (S.length : Int) = k + m → (H.length : Int) = k + m → k ≤ (selL S H H.length).length → Ev (fun f => code_combine.f f b2 ((selL S H H.length).take k.toNat)) c1
 com2 : ea = 0 → ev = true → (S.length : Int) = k + m → (H.length : Int) = k + m → k ≤ (selL S H H.length).length → Ev (fun f => code_combine.f f a c1) c2
/-- What Decode answers. -/
def decO (k m : Int) (S : List (List Int)) (H : List Bool) (ea : Int) (ev : Bool) (c2 : List (List Int)) : List (List Int) × Int :=
 if ea = 0 ∧ (S.length : Int) = k + m ∧ (H.length : Int) = k + m then
  (if 0 < (selL S H H.length).length ∧ ev = false then ([], 1) else if ((selL S H H.length).length : Int) < k then ([], 4) else (c2, 0))
 else ([], 1)
/-- What holds in the loop of Decode: below the call's start nothing turns; a (elder than B0), the rows and the shards picked (from B0 on). -/
structure DW (w : World) (B0 : Nat) (wc : World) (va : Value) (a : List (List Int)) (v12 : Value) (X12 : List Int) (v13 : Value) (X13 : List (List Int)) : Prop where
 hb : Below w.heap.size w wc
 b0 : B0 ≤ wc.heap.size
 a : Kd.S (Kd.slice 5 (Kd.int .u8)) 22 wc w.heap.size (fun k => k < B0) va a
 r : Kd.R (Kd.int .i64) 3 wc w.heap.size (fun k => B0 ≤ k) v12 X12
 l : Kd.R (Kd.fixed (Kd.slice 5 (Kd.int .u8)) w) 22 wc w.heap.size (fun k => B0 ≤ k) v13 X13
theorem DW.below {w wc w1 : World} {B0 : Nat} {va v12 v13 : Value} {a X13 : List (List Int)} {X12 : List Int} (h : DW w B0 wc va a v12 X12 v13 X13) (hb : Below wc.heap.size wc w1) : DW w B0 w1 va a v12 X12 v13 X13 :=
 ⟨below_step h.hb hb, Nat.le_trans h.b0 hb.size, Kd.S_below h.a hb, Kd.R_below h.r hb, Kd.R_below h.l hb⟩
theorem DW.alloc {w wc : World} {B0 : Nat} {va v12 v13 : Value} {a X13 : List (List Int)} {X12 : List Int} (o : Obj) (h : DW w B0 wc va a v12 X12 v13 X13) : DW w B0 (wc.alloc o) va a v12 X12 v13 X13 := h.below (below_alloc (Below.refl _ _) o)
theorem DW.drew {w wc : World} {B0 : Nat} {va v12 v13 : Value} {a X13 : List (List Int)} {X12 : List Int} (h : DW w B0 wc va a v12 X12 v13 X13) : DW w B0 wc.drew va a v12 X12 v13 X13 := h.below (below_drew (Below.refl _ _))
theorem DW.drewN {w wc : World} {B0 : Nat} {va v12 v13 : Value} {a X13 : List (List Int)} {X12 : List Int} (n : Nat) (h : DW w B0 wc va a v12 X12 v13 X13) : DW w B0 (wc.drewN n) va a v12 X12 v13 X13 := h.below (pw_below_drewN (Below.refl _ _) n)
theorem DW.app_r {w wc w1 : World} {B0 : Nat} {va v12 v13 v1 : Value} {a X13 : List (List Int)} {X12 Y : List Int} (h : DW w B0 wc va a v12 X12 v13 X13) (ho : Kd.R (Kd.int .i64) 3 w1 w.heap.size (fun k => B0 ≤ k) v1 Y) (hb : Below w.heap.size w w1) (hg : wc.grownBy w1 v12.ownBlock) : DW w B0 w1 va a v1 Y v13 X13 :=
 ⟨hb, Nat.le_trans h.b0 hg.size, Kd.S_grown h.a hg (fun k hk e => by have := h.r.1 k e.symm; omega), ho, Kd.R_over' h.l (Kd.R_typed h.r) (fixed_ne w 3 (by decide)) hg⟩
theorem DW.app_l {w wc w1 : World} {B0 : Nat} {va v12 v13 v1 : Value} {a X13 Y : List (List Int)} {X12 : List Int} (h : DW w B0 wc va a v12 X12 v13 X13) (ho : Kd.R (Kd.fixed (Kd.slice 5 (Kd.int .u8)) w) 22 w1 w.heap.size (fun k => B0 ≤ k) v1 Y) (hb : Below w.heap.size w w1) (hg : wc.grownBy w1 v13.ownBlock) : DW w B0 w1 va a v12 X12 v1 Y :=
 ⟨hb, Nat.le_trans h.b0 hg.size, Kd.S_grown h.a hg (fun k hk e => by have := h.l.1 k e.symm; omega), Kd.R_over' h.r (Kd.R_typed h.l) (by decide) hg, ho⟩
theorem DW.r_lt {w wc : World} {B0 : Nat} {va v12 v13 : Value} {a X13 : List (List Int)} {X12 : List Int} (h : DW w B0 wc va a v12 X12 v13 X13) (k : Nat) (hk : v12.ownBlock = some k) : k < wc.heap.size := by
 obtain ⟨cells, hc⟩ := Kd.R_typed h.r k hk
 exact (Array.getElem?_eq_some_iff.1 hc).1
theorem lit_row {α : Type} {Rr : α → List Value → Prop} {W : World} {b t : Nat} {fr : Nat × Nat} {v : Value} {p : α} (hb : W.heap[b]? = some (.cells #[v] t fr)) (h : Rr p [v]) : ReadsRow Rr 1 W (some ⟨b, 0, none⟩) 1 [p] := by
 refine ⟨rfl, by decide, fun _ => ⟨_, rfl, fun j q hj => ?_⟩⟩
 match j, hj with
 | 0, hj =>
  obtain rfl : p = q := by simpa using hj
  refine ⟨[v], rfl, h, fun i u hi => ?_⟩
  match i, hi with
  | 0, hi =>
   obtain rfl : v = u := by simpa using hi
   show W.cell? ⟨b, 0, none⟩ = some v
   unfold World.cell?
   rw [hb]
   rfl
theorem lit_top (W : World) (o : Obj) : (W.alloc o).heap[W.heap.size]? = some o := by show (W.heap.push o)[W.heap.size]? = _; rw [Array.getElem?_push, if_pos rfl]
theorem lit_under (W : World) (o o' : Obj) : ((W.alloc o).alloc o').heap[W.heap.size]? = some o := by
 rw [Below.heap_alloc _ _ _ (by show _ < (W.heap.push o).size; simp)]
 exact lit_top W o
theorem lit_top2 (W : World) (o o' : Obj) : ((W.alloc o).alloc o').heap[W.heap.size + 1]? = some o' := by
 have := lit_top (W.alloc o) o'
 rw [show (W.alloc o).heap.size = W.heap.size + 1 by show (W.heap.push o).size = _; simp] at this
 exact this
theorem lit_keep {W w1 : World} {row : Option Nat} {b : Nat} {o : Obj} (hg : W.grownBy w1 row) (hl : W.heap[b]? = some o) (hn : some b ≠ row) : w1.heap[b]? = some o := by
 rw [hg.block b (Array.getElem?_eq_some_iff.1 hl).1 hn]
 exact hl
theorem cauchy_calls (k m : Int) (r1 : List (List Int)) (r2 : Int) (w : World) (h : Ev (fun f => matrix_Cauchy.f f k m) (r1, r2)) :
  Calls Tryd.prog 34 #[.int .i64 k, .int .i64 m] w fun e w' => ∃ v0_ : Value, e = .returned (.tuple #[v0_, .int .i64 r2]) ∧ Kd.S (Kd.slice 5 (Kd.int .u8)) 22 w' w.heap.size (fun _ => True) v0_ r1 ∧ Below w.heap.size w w' := by
 obtain ⟨f, h⟩ := h.rounds
 exact matrix_Cauchy.calls f k m r1 r2 w h
theorem combine_calls (A0 : Option Addr) (c0 : Nat) (l0 : List (List Int)) (A1 : Option Addr) (c1 : Nat) (l1 : List (List Int)) (r : List (List Int)) (w : World) (hr0 : Kd.C (Kd.slice 5 (Kd.int .u8)) w A0 l0.length l0) (hc0 : l0.length ≤ c0) (hr1 : Kd.C (Kd.slice 5 (Kd.int .u8)) w A1 l1.length l1) (hc1 : l1.length ≤ c1) (h : Ev (fun f => code_combine.f f l0 l1) r) :
  Calls Tryd.prog 38 #[.slice A0 l0.length c0, .slice A1 l1.length c1] w fun e w' => ∃ v0_ : Value, e = .returned (v0_) ∧ Kd.N (Kd.slice 5 (Kd.int .u8)) 22 w' w.heap.size (fun k_ => (w.heap.size ≤ k_)) v0_ r ∧ Below w.heap.size w w' := by
 obtain ⟨f, h⟩ := h.rounds
 exact code_combine.calls f A0 c0 l0 A1 c1 l1 r w hr0 hc0 hr1 hc1 h
set_option maxHeartbeats 16000000 in
set_option maxRecDepth 100000 in
theorem Decode.calls (k m : Int) (A0 : Option Addr) (c0 : Nat) (S : List (List Int)) (A1 : Option Addr) (c1' : Nat) (H : List Bool) (a : List (List Int)) (ea : Int) (ev : Bool) (b1 b2 c1 c2 : List (List Int)) (e1 e2 : Int) (w : World)
  (hr0 : Kd.C (Kd.slice 5 (Kd.int .u8)) w A0 S.length S) (hc0 : S.length ≤ c0) (hr1 : Kd.C Kd.bool w A1 H.length H) (hc1 : H.length ≤ c1') (hf : DecFacts k m S H a ea ev b1 b2 c1 c2 e1 e2) :
  Calls Tryd.prog 15 #[.int .i64 k, .int .i64 m, .slice A0 S.length c0, .slice A1 H.length c1'] w fun e w' => ∃ v : Value, e = .returned (.tuple #[v, .int .i64 (decO k m S H ea ev c2).2]) ∧ Kd.N (Kd.slice 5 (Kd.int .u8)) 22 w' w.heap.size (fun k_ => (w.heap.size ≤ k_)) v (decO k m S H ea ev c2).1 ∧ Below w.heap.size w w' := by
 have HR0 := Aside0.mk hr0
 have HC0 := Aside0.mk hc0
 have HR1 := Aside0.mk hr1
 have HC1 := Aside0.mk hc1
 have HF := Aside0.mk hf
 clear hr0 hc0 hr1 hc1 hf
 have HB := Aside0.mk (Below.refl w.heap.size w)
 obtain ⟨R, hR⟩ : ∃ R, R = decO k m S H ea ev c2 := ⟨_, rfl⟩
 rw [← hR]
 have HO := Aside0.mk hR
 clear hR
 go_enter Tryd.func15, Tryd.ntmps15
 go_upto_region 2 with (first | ((with_reducible refine gate_callee (f := 34) rfl ?_); refine goesL_ (some 21) rfl rfl Tryd.func34 (by kernel_rfl) rfl #[.int .i64 k, .int .i64 m] rfl (by (try simp only [List.map_toArray, List.map_cons, List.map_nil]); first | done | rfl) ?_; (with_reducible refine (cauchy_calls k m a ea _ HF.out.cau).mono ?_); rintro e wn_ ⟨v0_, rfl, hS, hb⟩; refine ⟨_, rfl, ?_⟩; obtain ⟨Aa, ca, rfl⟩ := Kd.S_slice hS; have HA := Aside0.mk (Kd.S_lower (Kd.S_mono (ok' := fun k_ => k_ < wn_.heap.size) (Kd.S_bound hS) (fun k_ hk_ => hk_.2.2.1)) (below_size (by repeat (first | (with_reducible first | exact HB.out | apply below_alloc | apply pw_below_drewN | apply below_drew1) | exact HB.out)))); have nb_ := Aside0.mk (below_step (by repeat (first | (with_reducible first | exact HB.out | apply below_alloc | apply pw_below_drewN | apply below_drew1) | exact HB.out)) hb); clear HB; have HB := nb_; clear nb_ hb hS))
 (try simp only [Act.put, List.setIfInBounds_toArray, List.set_cons_zero, List.set_cons_succ])
 go_cut [41] (fun v41 wc => ∃ bad : Bool, v41 = .bool bad ∧ Aside0 (bad = ! decide (ea = 0 ∧ (S.length : Int) = k + m ∧ (H.length : Int) = k + m)) ∧ Aside0 (Kd.S (Kd.slice 5 (Kd.int .u8)) 22 wc w.heap.size (fun k_ => k_ < wc.heap.size) (.slice Aa a.length ca) a) ∧ Aside0 (Below w.heap.size w wc))
 case first =>
  by_cases h1 : ea = 0
  ·have h1b : (ea != 0) = false := bne_eq_false_iff_eq.mpr h1
   have hw : IntKind.i64.wrap (k + m) = k + m := IntWalk.i64_in _ (by have := HF.out.rng h1; omega)
   by_cases h2 : (S.length : Int) = k + m
   ·have h2b : ((S.length : Int) != k + m) = false := bne_eq_false_iff_eq.mpr h2
    by_cases h3 : (H.length : Int) = k + m
    ·have h3b : ((H.length : Int) != k + m) = false := bne_eq_false_iff_eq.mpr h3
     have HS : Aside0 (false = ! decide (ea = 0 ∧ (S.length : Int) = k + m ∧ (H.length : Int) = k + m)) := ⟨by rw [decide_eq_true ⟨h1, h2, h3⟩]; rfl⟩
     clear h1 h2 h3
     go_wp2
     go_meet
     case rel => exact ⟨_, (by first | rfl | (simp; done) | (simp [*]; done)), HS, ⟨HA.out⟩, ⟨(by repeat (first | (with_reducible first | exact HB.out | apply below_alloc | apply pw_below_drewN | apply below_drew1) | exact HB.out))⟩⟩
    ·have h3b : ((H.length : Int) != k + m) = true := bne_iff_ne.mpr h3
     have HS : Aside0 (true = ! decide (ea = 0 ∧ (S.length : Int) = k + m ∧ (H.length : Int) = k + m)) := ⟨by rw [decide_eq_false (fun h => h3 h.2.2)]; rfl⟩
     clear h1 h2 h3
     go_wp2
     go_meet
     case rel => exact ⟨_, (by first | rfl | (simp; done) | (simp [*]; done)), HS, ⟨HA.out⟩, ⟨(by repeat (first | (with_reducible first | exact HB.out | apply below_alloc | apply pw_below_drewN | apply below_drew1) | exact HB.out))⟩⟩
   ·have h2b : ((S.length : Int) != k + m) = true := bne_iff_ne.mpr h2
    have HS : Aside0 (true = ! decide (ea = 0 ∧ (S.length : Int) = k + m ∧ (H.length : Int) = k + m)) := ⟨by rw [decide_eq_false (fun h => h2 h.2.1)]; rfl⟩
    clear h1 h2
    go_wp2
    go_meet
    case rel => exact ⟨_, (by first | rfl | (simp; done) | (simp [*]; done)), HS, ⟨HA.out⟩, ⟨(by repeat (first | (with_reducible first | exact HB.out | apply below_alloc | apply pw_below_drewN | apply below_drew1) | exact HB.out))⟩⟩
  ·have h1b : (ea != 0) = true := bne_iff_ne.mpr h1
   have HS : Aside0 (true = ! decide (ea = 0 ∧ (S.length : Int) = k + m ∧ (H.length : Int) = k + m)) := ⟨by rw [decide_eq_false (fun h => h1 h.1)]; rfl⟩
   clear h1
   go_wp2
   go_meet
   case rel => exact ⟨_, (by first | rfl | (simp; done) | (simp [*]; done)), HS, ⟨HA.out⟩, ⟨(by repeat (first | (with_reducible first | exact HB.out | apply below_alloc | apply pw_below_drewN | apply below_drew1) | exact HB.out))⟩⟩
 case rest =>
  clear HA HB
  obtain ⟨bad, rfl, HBAD, HA, HB⟩ := hcut
  cases bad with
  | true =>
   have hn : ¬ (ea = 0 ∧ (S.length : Int) = k + m ∧ (H.length : Int) = k + m) := fun h => by
    have := HBAD.out
    rw [decide_eq_true h] at this
    cases this
   have hR : R = ([], 1) := by rw [HO.out]; unfold decO; rw [if_neg hn]
   subst hR
   clear hn
   go_wp2
   go_ret2
   exact ⟨_, by first | rfl | (simp; done), Kd.N_nil _ _ _ _ _, (by repeat (first | (with_reducible first | exact HB.out | apply below_alloc | apply pw_below_drewN | apply below_drew1) | exact HB.out))⟩
  | false =>
   have hy : ea = 0 ∧ (S.length : Int) = k + m ∧ (H.length : Int) = k + m := Classical.byContradiction fun h => by
    have := HBAD.out
    rw [decide_eq_false h] at this
    cases this
   have HY := Aside0.mk hy
   obtain rfl := hy.1
   have hrg := HF.out.rng rfl
   have HRG := Aside0.mk hrg
   clear hy hrg HBAD
   obtain ⟨B0, hB0⟩ : ∃ B0, B0 = wc.heap.size := ⟨_, rfl⟩
   have HD0 : Aside0 (DW w B0 wc (.slice Aa a.length ca) a (.slice none 0 0) (selR H 0) (.slice none 0 0) (selL S H 0)) := ⟨HB.out, by omega, Kd.S_mono HA.out (fun k_ hk => by omega), Kd.R_nil _ _ _ _ _, Kd.R_nil _ _ _ _ _⟩
   have HHL : Aside0 (H.length ≤ 255) := ⟨by have := HY.out; have := HRG.out; omega⟩
   clear hB0 HA HB
   go_wp2
   go_loopg [12, 13, 44] H.length (fun gg v12 v13 v44 w' => ∃ (s : Nat) (i : Int), s + gg = H.length ∧ v44 = .int .i64 i ∧ Aside0 (i = (s : Int)) ∧ Aside0 (DW w B0 w' (.slice Aa a.length ca) a v12 (selR H s) v13 (selL S H s)))
   case atStart => exact ⟨0, 0, by omega, rfl, ⟨rfl⟩, HD0⟩
   case round =>
    clear HD0
    obtain ⟨s, i, hsg, rfl, HI, HD⟩ := hrel
    obtain ⟨Ar, cr, rfl⟩ := Kd.R_slice HD.out.r
    obtain ⟨Al, cl, rfl⟩ := Kd.R_slice HD.out.l
    have hi := HI.out
    by_cases hs : s < H.length
    ·have hlt : i < (H.length : Int) := by omega
     have h0i : 0 ≤ i := by omega
     have HS := Aside0.mk hs
     have hsw : IntKind.i64.wrap (i + 1) = i + 1 := IntWalk.i64_in _ (by have := HHL.out; omega)
     obtain ⟨ad1, ea1, hx1⟩ := Kd.at_bool HR1.out i h0i hlt
     cases ea1
     replace hx1 := (HD.out.hb.cell (World.block_lt_of_cell? w _ hx1)).trans hx1
     have hrd : rdOf false H i = H.getD s false := by rw [hi]; rfl
     rw [hrd] at hx1
     clear hrd hi
     have H0I := Aside0.mk h0i
     have HLTI := Aside0.mk hlt
     replace h0i := eq_true h0i
     replace hlt := eq_true hlt
     clear hs
     cases hb : H.getD s false with
     | false =>
      rw [hb] at hx1
      have HN := Aside0.mk (selN_no hb)
      clear hb
      go_wp2
      go_roundg (H.length - (s + 1))
      case measure => have := HS.out; omega
      case rel => exact ⟨s + 1, i + 1, by have := HS.out; omega, by go_num, ⟨by have := HI.out; omega⟩, ⟨by unfold selR selL; rw [HN.out]; exact HD.out⟩⟩
     | true =>
      rw [hb] at hx1
      have HN := Aside0.mk (selN_yes hb)
      clear hb
      go_upto_region 10 with (fail)
      (try simp only [Act.put, List.setIfInBounds_toArray, List.set_cons_zero, List.set_cons_succ])
      clear hx1
      have hS := HY.out.2.1
      have hH := HY.out.2.2
      have hltS : i < (S.length : Int) := by have := HLTI.out; omega
      obtain ⟨adr, Ae, ce, er, hxr, hlr, hir⟩ := at_L1 HR0.out i H0I.out hltS
      cases er
      have HXW := Aside0.mk hxr
      have HXL := Aside0.mk (World.block_lt_of_cell? w _ hxr)
      replace hxr := (HD.out.hb.cell (World.block_lt_of_cell? w _ hxr)).trans hxr
      have hxlt : (adr.add i.toNat).block < wr.heap.size := Nat.lt_of_lt_of_le HXL.out (below_size HD.out.hb)
      have HK : Aside0 ((Kd.slice 5 (Kd.int .u8)).K w (rd_L1 S i) [.slice Ae (rd_L1 S i).length ce]) := ⟨⟨Ae, ce, rfl, hlr, hir⟩⟩
      have HLR : Aside0 ((selR H s).length ≤ 255) := ⟨by unfold selR; rw [List.length_map]; have := selN_le H s; have := HHL.out; have := HS.out; omega⟩
      have HLL : Aside0 ((selL S H s).length ≤ 255) := ⟨by unfold selL; rw [List.length_map]; have := selN_le H s; have := HHL.out; have := HS.out; omega⟩
      have HRL : Aside0 (∀ k_, (Value.slice Ar (selR H s).length cr).ownBlock = some k_ → k_ < wr.heap.size) := ⟨DW.r_lt HD.out⟩
      clear hS hH hlr hir
      replace hltS := eq_true hltS
      go_region_law (first | (refine Kd.R_append_rows_step (Kd.int .i64) (Rr := fun (x : Int) cs => cs = [Value.int .i64 x]) (w0 := w) w.heap.size rfl (.tmp 50) (.tmp 52) 66 3 (.int .i64 0) 8 rfl Tryd.underlying66 Go.Proofs.YtnfgiamdmfkcjaaDoor.P.info3 rfl (by decide) (by omega) (.slice Ar (selR H s).length cr) (selR H s) [i] _ 1 1 (fun k_ => B0 ≤ k_) (fun _ => False) rfl rfl ?aO ?aR (fun _ _ h => h) (fun _ h => h.elim) ?aF ?aB ?aS ?aL ?_; (case aO => exact (DW.r (by repeat (first | exact HD.out | apply DW.alloc | apply DW.drew)))); (case aR => (first | exact lit_row HLIT.out (by first | rfl | exact HK.out) | exact lit_row (lit_top _ _) (by first | rfl | exact HK.out) | exact lit_row (lit_under _ _ _) (by first | rfl | exact HK.out) | exact lit_row (lit_top2 _ _ _) (by first | rfl | exact HK.out))); (case aF => exact (fun k_ hk_ => Nat.le_trans (DW.b0 (by repeat (first | exact HD.out | apply DW.alloc | apply DW.drew))) hk_)); (case aB => exact (DW.hb (by repeat (first | exact HD.out | apply DW.alloc | apply DW.drew)))); (case aS => exact (below_size (DW.hb (by repeat (first | exact HD.out | apply DW.alloc | apply DW.drew))))); (case aL => have := HLR.out; omega); intro v1 w1 ho hb hg hat; have HD1 := Aside0.mk (DW.app_r (by repeat (first | exact HD.out | apply DW.alloc | apply DW.drew)) ho hb hg); have hx1 := (hb.cell HXL.out).trans HXW.out; (first | have HLIT := Aside0.mk (show w1.heap[_]? = some (Obj.cells #[Value.slice Ae (rd_L1 S i).length ce] 22 (0, 0)) from lit_keep hg (lit_under _ _ _) (fun e_ => absurd (HRL.out _ e_.symm) (by simp))) | have HLIT := Aside0.mk (show w1.heap[_]? = some (Obj.cells #[Value.slice Ae (rd_L1 S i).length ce] 22 (0, 0)) from lit_keep hg (lit_top2 _ _ _) (fun e_ => absurd (HRL.out _ e_.symm) (by simp))) | skip); clear HD ho hb hg hat; have HD := HD1; clear HD1) | (refine Kd.R_append_rows_step (Kd.fixed (Kd.slice 5 (Kd.int .u8)) w) (Rr := fun (x : List Int) cs => (Kd.slice 5 (Kd.int .u8)).K w x cs) (w0 := w) w.heap.size rfl (.tmp 54) (.tmp 59) 26 22 (.slice none 0 0) 24 rfl Tryd.underlying26 Go.Proofs.YtnfgiamdmfkcjaaDoor.P.info22 rfl Nat.zero_lt_one (by omega) (.slice Al (selL S H s).length cl) (selL S H s) [rd_L1 S i] _ 1 1 (fun k_ => B0 ≤ k_) (fun _ => False) rfl rfl ?aO ?aR (fun _ _ h => h) (fun _ h => h.elim) ?aF ?aB ?aS ?aL ?_; (case aO => exact (DW.l (by repeat (first | exact HD.out | apply DW.alloc | apply DW.drew)))); (case aR => (first | exact lit_row HLIT.out (by first | rfl | exact HK.out) | exact lit_row (lit_top _ _) (by first | rfl | exact HK.out) | exact lit_row (lit_under _ _ _) (by first | rfl | exact HK.out) | exact lit_row (lit_top2 _ _ _) (by first | rfl | exact HK.out))); (case aF => exact (fun k_ hk_ => Nat.le_trans (DW.b0 (by repeat (first | exact HD.out | apply DW.alloc | apply DW.drew))) hk_)); (case aB => exact (DW.hb (by repeat (first | exact HD.out | apply DW.alloc | apply DW.drew)))); (case aS => exact (below_size (DW.hb (by repeat (first | exact HD.out | apply DW.alloc | apply DW.drew))))); (case aL => have := HLL.out; omega); intro v2 w2 ho hb hg hat; have HD1 := Aside0.mk (DW.app_l (by repeat (first | exact HD.out | apply DW.alloc | apply DW.drew)) ho hb hg); clear HD ho hb hg hat; have HD := HD1; clear HD1))
      all_goals (
       have HD2 : Aside0 (DW w B0 _ (.slice Aa a.length ca) a _ (selR H (s + 1)) _ (selL S H (s + 1))) := ⟨by
        have h := HD.out
        unfold selR selL
        rw [HN.out, List.map_append, List.map_append]
        have e := HI.out
        subst e
        exact h⟩
       clear HD
       go_wp2
       go_roundg (H.length - (s + 1))
       case measure => have := HS.out; omega
       case rel => exact ⟨s + 1, i + 1, by have := HS.out; omega, by go_num, ⟨by have := HI.out; omega⟩, HD2⟩)
    ·obtain rfl : s = H.length := by have := selN_le H s; omega
     have hE := HF.out.even
     have hRW := HF.out.rows rfl
     have hC1 := HF.out.com1 rfl
     have hC2 := HF.out.com2 rfl
     have hO := HO.out
     unfold decO at hO
     rw [if_pos ⟨rfl, HY.out.2⟩] at hO
     have hlen : (selR H H.length).length = (selL S H H.length).length := by unfold selR selL; rw [List.length_map, List.length_map]
     have hLB : (selL S H H.length).length ≤ 255 := by unfold selL; rw [List.length_map]; have := selN_le H H.length; have := HHL.out; omega
     generalize selL S H H.length = Lx at *
     generalize selR H H.length = Rx at *
     have HE := Aside0.mk hE
     have hlt : ¬ i < (H.length : Int) := by have := HI.out; omega
     have HLB := Aside0.mk hLB
     clear hE hs hi hsg hLB
     by_cases h1 : (0 : Int) < (Lx.length : Int)
     ·cases ev with
      | false =>
       rw [if_pos ⟨by omega, rfl⟩] at hO
       subst hO
       clear hRW hC1 hC2 hlen
       go_wp2_with (first | (go_at_call 35; (with_reducible refine (code_even.calls _ _ Lx _ false _ ?side1 ?side2 HE.out).mono ?_); (case side1 => exact (fixed_C (DW.hb (by repeat (first | exact HD.out | apply DW.alloc | apply DW.drew | apply DW.drewN))) (Kd.R_reads' (DW.l (by repeat (first | exact HD.out | apply DW.alloc | apply DW.drew | apply DW.drewN)))).2.2)); (case side2 => exact (Kd.R_reads' HD.out.l).2.1); rintro e wn_ ⟨rfl, hb⟩; have n0_ := Aside0.mk (DW.below (by repeat (first | exact HD.out | apply DW.alloc | apply DW.drew | apply DW.drewN)) hb); clear HD; have HD := n0_; clear n0_; clear hb) | ((with_reducible refine gate_callee (f := 35) rfl ?_); refine goesL_ (some 69) rfl rfl Tryd.func35 (by kernel_rfl) rfl #[.slice Al Lx.length cl, .int .i64 (Lx.length : Int)] rfl (by (try simp only [List.map_toArray, List.map_cons, List.map_nil]); first | done | rfl) ?_; (with_reducible refine (code_even.calls _ _ Lx _ false _ ?side1 ?side2 HE.out).mono ?_); (case side1 => exact (fixed_C (DW.hb (by repeat (first | exact HD.out | apply DW.alloc | apply DW.drew | apply DW.drewN))) (Kd.R_reads' (DW.l (by repeat (first | exact HD.out | apply DW.alloc | apply DW.drew | apply DW.drewN)))).2.2)); (case side2 => exact (Kd.R_reads' HD.out.l).2.1); rintro e wn_ ⟨rfl, hb⟩; refine ⟨_, rfl, ?_⟩; have n0_ := Aside0.mk (DW.below (by repeat (first | exact HD.out | apply DW.alloc | apply DW.drew | apply DW.drewN)) hb); clear HD; have HD := n0_; clear n0_; clear hb))
       go_ret2
       exact ⟨_, by first | rfl | (simp; done), Kd.N_nil _ _ _ _ _, DW.hb (by repeat (first | exact HD.out | apply DW.alloc | apply DW.drew | apply DW.drewN))⟩
      | true =>
       rw [if_neg (fun h => by cases h.2)] at hO
       by_cases h2 : (Lx.length : Int) < k
       ·rw [if_pos h2] at hO
        subst hO
        clear hRW hC1 hC2 hlen
        go_wp2_with (first | (go_at_call 35; (with_reducible refine (code_even.calls _ _ Lx _ true _ ?side1 ?side2 HE.out).mono ?_); (case side1 => exact (fixed_C (DW.hb (by repeat (first | exact HD.out | apply DW.alloc | apply DW.drew | apply DW.drewN))) (Kd.R_reads' (DW.l (by repeat (first | exact HD.out | apply DW.alloc | apply DW.drew | apply DW.drewN)))).2.2)); (case side2 => exact (Kd.R_reads' HD.out.l).2.1); rintro e wn_ ⟨rfl, hb⟩; have n0_ := Aside0.mk (DW.below (by repeat (first | exact HD.out | apply DW.alloc | apply DW.drew | apply DW.drewN)) hb); clear HD; have HD := n0_; clear n0_; clear hb) | ((with_reducible refine gate_callee (f := 35) rfl ?_); refine goesL_ (some 69) rfl rfl Tryd.func35 (by kernel_rfl) rfl #[.slice Al Lx.length cl, .int .i64 (Lx.length : Int)] rfl (by (try simp only [List.map_toArray, List.map_cons, List.map_nil]); first | done | rfl) ?_; (with_reducible refine (code_even.calls _ _ Lx _ true _ ?side1 ?side2 HE.out).mono ?_); (case side1 => exact (fixed_C (DW.hb (by repeat (first | exact HD.out | apply DW.alloc | apply DW.drew | apply DW.drewN))) (Kd.R_reads' (DW.l (by repeat (first | exact HD.out | apply DW.alloc | apply DW.drew | apply DW.drewN)))).2.2)); (case side2 => exact (Kd.R_reads' HD.out.l).2.1); rintro e wn_ ⟨rfl, hb⟩; refine ⟨_, rfl, ?_⟩; have n0_ := Aside0.mk (DW.below (by repeat (first | exact HD.out | apply DW.alloc | apply DW.drew | apply DW.drewN)) hb); clear HD; have HD := n0_; clear n0_; clear hb))
        go_ret2
        exact ⟨_, by first | rfl | (simp; done), Kd.N_nil _ _ _ _ _, DW.hb (by repeat (first | exact HD.out | apply DW.alloc | apply DW.drew | apply DW.drewN))⟩
       ·rw [if_neg h2] at hO
        subst hO
        have hk := HRG.out
        obtain ⟨kn, rfl⟩ := Int.eq_ofNat_of_zero_le (show 0 ≤ k by omega)
        have hRW := hRW rfl HY.out.2.1 HY.out.2.2 (by omega)
        have hC1 := hC1 rfl HY.out.2.1 HY.out.2.2 (by omega)
        have HC2 := Aside0.mk (hC2 rfl HY.out.2.1 HY.out.2.2 (by omega))
        rw [Int.toNat_natCast] at hRW hC1
        have hkr : kn ≤ Rx.length := by omega
        have hkl : kn ≤ Lx.length := by omega
        have hcr : (kn : Int) ≤ (cr : Int) := by have := (Kd.R_reads' HD.out.r).2.1; omega
        have hcl : (kn : Int) ≤ (cl : Int) := by have := (Kd.R_reads' HD.out.l).2.1; omega
        have HRW : Aside0 (∀ W, Kd.C (Kd.slice 5 (Kd.int .u8)) W Aa a.length a → Kd.C (Kd.int .i64) W Ar Rx.length Rx → Calls Tryd.prog 36 #[.slice Aa a.length ca, .slice Ar kn cr] W fun e w' => ∃ v0_ : Value, e = .returned (.tuple #[v0_, .int .i64 e1]) ∧ Kd.S (Kd.slice 5 (Kd.int .u8)) 22 w' W.heap.size (fun _ => True) v0_ b1 ∧ Below W.heap.size W w') := ⟨fun W hA hR => by
         have hl : (Rx.take kn).length = kn := by rw [List.length_take]; omega
         have h := rows_calls Aa ca a Ar cr (Rx.take kn) b1 e1 W hA (Kd.S_reads' HD.out.a).2.1 (Kd.C_take hR hkr) (by rw [hl]; omega) hRW
         rw [hl] at h
         exact h⟩
        have HC1 : Aside0 (∀ W A c, Kd.C (Kd.slice 5 (Kd.int .u8)) W A b2.length b2 → b2.length ≤ c → Kd.C (Kd.slice 5 (Kd.int .u8)) W Al Lx.length Lx → Calls Tryd.prog 38 #[.slice A b2.length c, .slice Al kn cl] W fun e w' => ∃ v0_ : Value, e = .returned (v0_) ∧ Kd.N (Kd.slice 5 (Kd.int .u8)) 22 w' W.heap.size (fun k_ => (W.heap.size ≤ k_)) v0_ c1 ∧ Below W.heap.size W w') := ⟨fun W A c hB hc hL => by
         have hl : (Lx.take kn).length = kn := by rw [List.length_take]; omega
         have h := combine_calls A c b2 Al cl (Lx.take kn) c1 W hB hc (Kd.C_take hL hkl) (by rw [hl]; omega) hC1
         rw [hl] at h
         exact h⟩
        have h0k : 0 ≤ (kn : Int) := by omega
        clear hRW hC1 hC2 hlen hk hkr hkl
        go_wp2_with (first | (go_at_call 35; (with_reducible refine (code_even.calls _ _ Lx _ true _ ?side1 ?side2 HE.out).mono ?_); (case side1 => exact (fixed_C (DW.hb (by repeat (first | exact HD.out | apply DW.alloc | apply DW.drew | apply DW.drewN))) (Kd.R_reads' (DW.l (by repeat (first | exact HD.out | apply DW.alloc | apply DW.drew | apply DW.drewN)))).2.2)); (case side2 => exact (Kd.R_reads' HD.out.l).2.1); rintro e wn_ ⟨rfl, hb⟩; have n0_ := Aside0.mk (DW.below (by repeat (first | exact HD.out | apply DW.alloc | apply DW.drew | apply DW.drewN)) hb); clear HD; have HD := n0_; clear n0_; clear hb) | ((with_reducible refine gate_callee (f := 35) rfl ?_); refine goesL_ (some 69) rfl rfl Tryd.func35 (by kernel_rfl) rfl #[.slice Al Lx.length cl, .int .i64 (Lx.length : Int)] rfl (by (try simp only [List.map_toArray, List.map_cons, List.map_nil]); first | done | rfl) ?_; (with_reducible refine (code_even.calls _ _ Lx _ true _ ?side1 ?side2 HE.out).mono ?_); (case side1 => exact (fixed_C (DW.hb (by repeat (first | exact HD.out | apply DW.alloc | apply DW.drew | apply DW.drewN))) (Kd.R_reads' (DW.l (by repeat (first | exact HD.out | apply DW.alloc | apply DW.drew | apply DW.drewN)))).2.2)); (case side2 => exact (Kd.R_reads' HD.out.l).2.1); rintro e wn_ ⟨rfl, hb⟩; refine ⟨_, rfl, ?_⟩; have n0_ := Aside0.mk (DW.below (by repeat (first | exact HD.out | apply DW.alloc | apply DW.drew | apply DW.drewN)) hb); clear HD; have HD := n0_; clear n0_; clear hb) | ((with_reducible refine gate_callee (f := 36) rfl ?_); refine goesL_ (some 81) rfl rfl Tryd.func36 (by kernel_rfl) rfl #[.slice Aa a.length ca, .slice Ar kn cr] rfl (by (try simp only [List.map_toArray, List.map_cons, List.map_nil]); first | done | rfl) ?_; (with_reducible refine (HRW.out _ ?side1 ?side2).mono ?_); (case side1 => exact (Kd.S_reads' (DW.a (by repeat (first | exact HD.out | apply DW.alloc | apply DW.drew | apply DW.drewN)))).2.2); (case side2 => exact (Kd.R_reads' (DW.r (by repeat (first | exact HD.out | apply DW.alloc | apply DW.drew | apply DW.drewN)))).2.2); rintro e wn_ ⟨v0_, rfl, hS, hb⟩; refine ⟨_, rfl, ?_⟩; obtain ⟨Ab, cb, rfl⟩ := Kd.S_slice hS; have HX1 := Aside0.mk (Kd.S_reads' hS).2.2; have HX1L := Aside0.mk (Kd.S_reads' hS).2.1; clear hS; have n0_ := Aside0.mk (DW.below (by repeat (first | exact HD.out | apply DW.alloc | apply DW.drew | apply DW.drewN)) hb); clear HD; have HD := n0_; clear n0_; clear hb) | ((with_reducible refine gate_callee (f := 37) rfl ?_); refine goesL_ (some 86) rfl rfl Tryd.func37 (by kernel_rfl) rfl #[.slice Ab b1.length cb] rfl (by (try simp only [List.map_toArray, List.map_cons, List.map_nil]); first | done | rfl) ?_; (with_reducible refine (matrix_Inverse.calls _ _ b1 b2 e2 _ ?side1 ?side2 HF.out.inv).mono ?_); (case side1 => repeat (first | exact HX1.out | (with_reducible refine Kd.C_alloc ?_ _) | (with_reducible refine Kd.C_drewN ?_ _) | (with_reducible refine Kd.C_drew ?_))); (case side2 => exact HX1L.out); rintro e wn_ ⟨v0_, rfl, hS, hb⟩; refine ⟨_, rfl, ?_⟩; obtain ⟨Ac, cc, rfl⟩ := Kd.S_slice hS; have HX2 := Aside0.mk (Kd.S_reads' hS).2.2; have HX2L := Aside0.mk (Kd.S_reads' hS).2.1; clear hS HX1 HX1L; have n0_ := Aside0.mk (DW.below (by repeat (first | exact HD.out | apply DW.alloc | apply DW.drew | apply DW.drewN)) hb); clear HD; have HD := n0_; clear n0_; clear hb) | ((with_reducible refine gate_callee (f := 38) rfl ?_); refine goesL_ (some 94) rfl rfl Tryd.func38 (by kernel_rfl) rfl #[.slice Ac b2.length cc, .slice Al kn cl] rfl (by (try simp only [List.map_toArray, List.map_cons, List.map_nil]); first | done | rfl) ?_; (with_reducible refine (HC1.out _ _ _ ?side1 ?side2 ?side3).mono ?_); (case side1 => repeat (first | exact HX2.out | (with_reducible refine Kd.C_alloc ?_ _) | (with_reducible refine Kd.C_drewN ?_ _) | (with_reducible refine Kd.C_drew ?_))); (case side2 => exact HX2L.out); (case side3 => exact (fixed_C (DW.hb (by repeat (first | exact HD.out | apply DW.alloc | apply DW.drew | apply DW.drewN))) (Kd.R_reads' (DW.l (by repeat (first | exact HD.out | apply DW.alloc | apply DW.drew | apply DW.drewN)))).2.2)); rintro e wn_ ⟨v0_, rfl, hN, hb⟩; refine ⟨_, rfl, ?_⟩; obtain ⟨Ad, cd, rfl⟩ := Kd.N_slice hN; have HX3 := Aside0.mk (Kd.N_reads' hN).2.2; have HX3L := Aside0.mk (Kd.N_reads' hN).2.1; clear hN HX2 HX2L; have n0_ := Aside0.mk (DW.below (by repeat (first | exact HD.out | apply DW.alloc | apply DW.drew | apply DW.drewN)) hb); clear HD; have HD := n0_; clear n0_; clear hb) | (go_at_call 38; (with_reducible refine (HC1.out _ _ _ ?side1 ?side2 ?side3).mono ?_); (case side1 => repeat (first | exact HX2.out | (with_reducible refine Kd.C_alloc ?_ _) | (with_reducible refine Kd.C_drewN ?_ _) | (with_reducible refine Kd.C_drew ?_))); (case side2 => exact HX2L.out); (case side3 => exact (fixed_C (DW.hb (by repeat (first | exact HD.out | apply DW.alloc | apply DW.drew | apply DW.drewN))) (Kd.R_reads' (DW.l (by repeat (first | exact HD.out | apply DW.alloc | apply DW.drew | apply DW.drewN)))).2.2)); rintro e wn_ ⟨v0_, rfl, hN, hb⟩; obtain ⟨Ad, cd, rfl⟩ := Kd.N_slice hN; have HX3 := Aside0.mk (Kd.N_reads' hN).2.2; have HX3L := Aside0.mk (Kd.N_reads' hN).2.1; clear hN HX2 HX2L; have n0_ := Aside0.mk (DW.below (by repeat (first | exact HD.out | apply DW.alloc | apply DW.drew | apply DW.drewN)) hb); clear HD; have HD := n0_; clear n0_; clear hb) | ((with_reducible refine gate_callee (f := 38) rfl ?_); refine goesL_ (some 95) rfl rfl Tryd.func38 (by kernel_rfl) rfl #[.slice Aa a.length ca, .slice Ad c1.length cd] rfl (by (try simp only [List.map_toArray, List.map_cons, List.map_nil]); first | done | rfl) ?_; (with_reducible refine (combine_calls _ _ a _ _ c1 c2 _ ?side1 ?side2 ?side3 ?side4 HC2.out).mono ?_); (case side1 => exact (Kd.S_reads' (DW.a (by repeat (first | exact HD.out | apply DW.alloc | apply DW.drew | apply DW.drewN)))).2.2); (case side2 => exact (Kd.S_reads' HD.out.a).2.1); (case side3 => repeat (first | exact HX3.out | (with_reducible refine Kd.C_alloc ?_ _) | (with_reducible refine Kd.C_drewN ?_ _) | (with_reducible refine Kd.C_drew ?_))); (case side4 => exact HX3L.out); rintro e wn_ ⟨v0_, rfl, hN, hb⟩; refine ⟨_, rfl, ?_⟩; have HSZ := Aside0.mk (below_size (DW.hb (by repeat (first | exact HD.out | apply DW.alloc | apply DW.drew | apply DW.drewN)))); have HN := Aside0.mk hN; clear hN HX3 HX3L; have n0_ := Aside0.mk (DW.below (by repeat (first | exact HD.out | apply DW.alloc | apply DW.drew | apply DW.drewN)) hb); clear HD; have HD := n0_; clear n0_; clear hb) | (go_at_call 38; (with_reducible refine (combine_calls _ _ a _ _ c1 c2 _ ?side1 ?side2 ?side3 ?side4 HC2.out).mono ?_); (case side1 => exact (Kd.S_reads' (DW.a (by repeat (first | exact HD.out | apply DW.alloc | apply DW.drew | apply DW.drewN)))).2.2); (case side2 => exact (Kd.S_reads' HD.out.a).2.1); (case side3 => repeat (first | exact HX3.out | (with_reducible refine Kd.C_alloc ?_ _) | (with_reducible refine Kd.C_drewN ?_ _) | (with_reducible refine Kd.C_drew ?_))); (case side4 => exact HX3L.out); rintro e wn_ ⟨v0_, rfl, hN, hb⟩; have HSZ := Aside0.mk (below_size (DW.hb (by repeat (first | exact HD.out | apply DW.alloc | apply DW.drew | apply DW.drewN)))); have HN := Aside0.mk hN; clear hN HX3 HX3L; have n0_ := Aside0.mk (DW.below (by repeat (first | exact HD.out | apply DW.alloc | apply DW.drew | apply DW.drewN)) hb); clear HD; have HD := n0_; clear n0_; clear hb))
        go_ret2
        exact ⟨_, by first | rfl | (simp; done), Kd.N_lower (Kd.N_mono HN.out (fun q hq => Nat.le_trans HSZ.out hq)) HSZ.out, DW.hb (by repeat (first | exact HD.out | apply DW.alloc | apply DW.drew | apply DW.drewN))⟩
     ·have h2 : (Lx.length : Int) < k := by have := HRG.out; omega
      rw [if_neg (by omega), if_pos h2] at hO
      subst hO
      clear hRW hC1 hC2 hlen
      go_wp2
      go_ret2
      exact ⟨_, by first | rfl | (simp; done), Kd.N_nil _ _ _ _ _, DW.hb (by repeat (first | exact HD.out | apply DW.alloc | apply DW.drew | apply DW.drewN))⟩
end Go.Proofs.YtnfgiamdmfkcjaaDoor.H
namespace Go.Proofs.YtnfgiamdmfkcjaaDoor.Red
open Go.RowKit Go.Proofs.YtnfgiamdmfkcjaaDoorW.PrintWords Go.Proofs.YtnfgiamdmfkcjaaDoor.Leaf Go.Proofs.YtnfgiamdmfkcjaaDoor.Gf Go.Proofs.YtnfgiamdmfkcjaaDoor.H Go.Proofs.YtnfgiamdmfkcjaaDoor.Mx Go.Proofs.YtnfgiamdmfkcjaaDoor.P
set_option linter.unusedVariables false
set_option linter.unusedSimpArgs false
/-- What Inverse tells of a square matrix whose rows do not cancel out. -/
theorem invR_yes {A : Mat} {n : Nat} (hA : Reg A n n) (hn : 0 < n) (hn2 : n ≤ 255) (h : (redF n 0 0 A (idM n)).1 = n) : ∃ X, invR A = (oM X, 0) ∧ Reg X n n ∧ mulM A X = idM n ∧ mulM X A = idM n := by
  obtain ⟨r1, r2, r3⟩ := inverse_yes hn hA h
  refine ⟨(redF n 0 0 A (idM n)).2.2, ?_, r1, ?_, ?_⟩
  · unfold invR
    rw [if_pos ⟨mayB_of hA hn hn2 hn hn2, by rw [hA.1, hA.2 0 hn]⟩, hA.1, if_neg (by omega)]
  · refine mat_ext (mulM_reg hA r1 hn) (matF_reg n n I) fun i j hi hj => ?_
    rw [el_mulM hA r1 hn hi hj, r3 i j hi hj, idM_eq, el_matF I hi hj]
  · refine mat_ext (mulM_reg r1 hA hn) (matF_reg n n I) fun i j hi hj => ?_
    rw [el_mulM r1 hA hn hi hj, r2 i j hi hj, idM_eq, el_matF I hi hj]
def ints (L : List Nat) : List Int := L.map fun (v : Nat) => (v : Int)
theorem ints_length (L : List Nat) : (ints L).length = L.length := List.length_map _
theorem row_rowsM (A : Mat) (L : List Nat) (i : Nat) (hi : i < L.length) : row (rowsM A (ints L)) i = row A (L.getD i 0) := by
  unfold rowsM ints
  rw [List.map_map]
  show (L.map _).getD i [] = _
  rw [List.getD_eq_getElem?_getD, List.getElem?_map, List.getD_eq_getElem?_getD, List.getElem?_eq_getElem hi]
  rfl
theorem rowsM_reg {A : Mat} {n m : Nat} (hA : Reg A n m) (L : List Nat) (h : ∀ v ∈ L, v < n) : Reg (rowsM A (ints L)) L.length m := by
  refine ⟨by unfold rowsM ints; rw [List.length_map, List.length_map], fun i hi => ?_⟩
  rw [row_rowsM A L i hi]
  exact hA.2 _ (h _ (getD_mem hi))
theorem cauM_may {k m : Nat} (hk : 1 ≤ k) (h : k + m ≤ 255) : mayB (cauM k m) = true := mayB_of (cauM_reg k m) (by omega) h hk (by omega)
theorem pick_inverse {k m : Nat} (hk : 1 ≤ k) (h : k + m ≤ 255) (L : List Nat) (hl : L.length = k) (hnd : L.Nodup) (hb : ∀ v ∈ L, v < k + m) :
    Reg (rowsM (cauM k m) (ints L)) k k ∧ ∃ X, invR (rowsM (cauM k m) (ints L)) = (oM X, 0) ∧ Reg X k k ∧ mulM (rowsM (cauM k m) (ints L)) X = idM k ∧ mulM X (rowsM (cauM k m) (ints L)) = idM k := by
  have hS : Reg (rowsM (cauM k m) (ints L)) k k := by
    have := rowsM_reg (cauM_reg k m) L hb
    rwa [hl] at this
  have hel : ∀ i j, i < k → j < k → el (rowsM (cauM k m) (ints L)) i j = cau k m (L.getD i 0) j := by
    intro i j hi hj
    unfold el
    rw [row_rowsM _ _ _ (by omega)]
    exact el_matF _ (hb _ (getD_mem (by omega))) hj
  refine ⟨hS, invR_yes hS (by omega) (by omega) ?_⟩
  have hle := redF_le (by omega) hS (matF_reg k k I)
  rw [← idM_eq] at hle
  by_cases hlt : (redF k 0 0 (rowsM (cauM k m) (ints L)) (idM k)).1 < k
  · obtain ⟨y, hy, i, hi, hne⟩ := inverse_no (by omega) hS (matF_reg k k I) hlt
    exfalso
    refine hne (cauchy_regular h L hl hnd hb y (fun j hj => ?_) i hi)
    rw [← hy j hj]
    exact sm_congr fun i' hi' => by rw [hel i' j hi' hj]
  · omega
end Go.Proofs.YtnfgiamdmfkcjaaDoor.Red
namespace Go.Proofs.YtnfgiamdmfkcjaaDoor.Red
open Go.RowKit Go.Proofs.YtnfgiamdmfkcjaaDoorW.PrintWords Go.Proofs.YtnfgiamdmfkcjaaDoor.Leaf Go.Proofs.YtnfgiamdmfkcjaaDoor.Gf Go.Proofs.YtnfgiamdmfkcjaaDoor.H Go.Proofs.YtnfgiamdmfkcjaaDoor.Mx Go.Proofs.YtnfgiamdmfkcjaaDoor.P
set_option linter.unusedVariables false
set_option linter.unusedSimpArgs false
/-- The shards one has. -/
def selM (A : Mat) (H : List Bool) : Mat := (selN H H.length).map fun i => row A i
theorem selL_oM (A : Mat) (H : List Bool) : selL (oM A) H H.length = oM (selM A H) := by
  unfold selL selM oM
  rw [List.map_map]
  refine List.map_congr_left fun i _ => ?_
  exact rd_oM A i
theorem selR_ints (H : List Bool) (k : Nat) : (selR H H.length).take k = ints ((selN H H.length).take k) := by
  unfold selR ints
  rw [List.map_take]
theorem selN_nodup (H : List Bool) (s : Nat) : (selN H s).Nodup := List.Nodup.sublist List.filter_sublist List.nodup_range
theorem selN_lt {H : List Bool} {s v : Nat} (h : v ∈ selN H s) : v < s := List.mem_range.1 (List.mem_filter.1 h).1
theorem selM_length (A : Mat) (H : List Bool) : (selM A H).length = (selN H H.length).length := List.length_map _
/-- The rows of the code's matrix that belong to the first k shards one has. -/
def picM (k m : Nat) (H : List Bool) : Mat := rowsM (cauM k m) (ints ((selN H H.length).take k))
def decM (k m : Nat) (A : Mat) (H : List Bool) : Mat := mulM (cauM k m) (mulM (unM (invR (picM k m H)).1) ((selM A H).take k))
theorem pic_inverse {k m : Nat} (hk : 1 ≤ k) (h : k + m ≤ 255) {H : List Bool} (hH : H.length = k + m) (hn : k ≤ (selN H H.length).length) :
    rowsR (cauM k m) (ints ((selN H H.length).take k)) = (oM (picM k m H), 0) ∧ Reg (picM k m H) k k ∧ ∃ X, invR (picM k m H) = (oM X, 0) ∧ Reg X k k ∧ mulM (picM k m H) X = idM k ∧ mulM X (picM k m H) = idM k := by
  have hl : ((selN H H.length).take k).length = k := by rw [List.length_take]; omega
  have hb : ∀ v ∈ (selN H H.length).take k, v < k + m := fun v hv => by
    have := selN_lt (List.mem_of_mem_take hv)
    omega
  have hp := pick_inverse hk h ((selN H H.length).take k) hl (List.Nodup.sublist (List.take_sublist _ _) (selN_nodup H H.length)) hb
  refine ⟨?_, hp.1, hp.2⟩
  unfold rowsR
  rw [if_pos]
  · rfl
  · unfold rowsB
    rw [cauM_may hk h, ints_length, hl, decide_eq_true (by omega), decide_eq_true (by omega)]
    rw [Bool.true_and, Bool.true_and, Bool.true_and, List.all_eq_true]
    intro x hx
    obtain ⟨v, hv, rfl⟩ := List.mem_map.1 hx
    have := hb v hv
    rw [(cauM_reg k m).1, decide_eq_true (by omega), decide_eq_true (by omega)]
    rfl
theorem even_reg {D : Mat} (h : code_even.f (oM D) (D.length : Int) = some true) (h0 : 0 < D.length) : Reg D D.length (row D 0).length := by
  rw [code_even_eq D _ (by omega)] at h
  exact (evenB_iff D D.length).1 (Option.some.inj h)
theorem reg_take {D : Mat} {n p k : Nat} (h : Reg D n p) (hk : k ≤ n) : Reg (D.take k) k p := by
  refine ⟨by rw [List.length_take, h.1]; omega, fun i hi => ?_⟩
  have := h.2 i (by omega)
  have e : row (D.take k) i = row D i := by
    unfold row
    rw [List.getD_eq_getElem?_getD, List.getElem?_take_of_lt hi, List.getD_eq_getElem?_getD]
  rw [e]
  exact this
def evD (A : Mat) (H : List Bool) : Bool := ((code_even.f (oM (selM A H)) ((selM A H).length : Int)).getD false)
theorem row_len {A : Mat} {H : List Bool} (hr : ∀ i, i < A.length → (row A i).length ≤ 140737488355327) (i : Nat) (hi : i < (selM A H).length) : (row (selM A H) i).length ≤ 140737488355327 := by
  unfold selM at hi ⊢
  rw [List.length_map] at hi
  have e : row ((selN H H.length).map fun i => row A i) i = row A ((selN H H.length)[i]) := by
    show (((selN H H.length).map fun i => row A i).getD i []) = _
    rw [List.getD_eq_getElem?_getD, List.getElem?_map, List.getElem?_eq_getElem hi]
    rfl
  rw [e]
  by_cases h : (selN H H.length)[i] < A.length
  · exact hr _ h
  · have : row A ((selN H H.length)[i]) = [] := by
      unfold row
      rw [List.getD_eq_getElem?_getD, List.getElem?_eq_none (by omega)]
      rfl
    rw [this]
    exact Nat.zero_le _
theorem dec_facts (k m : Int) (hk : -9223372036854775808 ≤ k) (A : Mat) (hr : ∀ i, i < A.length → (row A i).length ≤ 140737488355327) (H : List Bool) :
    DecFacts k m (oM A) H (cauR k m).1 (cauR k m).2 (evD A H) (oM (picM k.toNat m.toNat H)) (invR (picM k.toNat m.toNat H)).1 (oM (mulM (unM (invR (picM k.toNat m.toNat H)).1) ((selM A H).take k.toNat))) (oM (decM k.toNat m.toNat A H)) 0 (invR (picM k.toNat m.toNat H)).2 := by
  have hrng : (cauR k m).2 = 0 → 1 ≤ k ∧ 1 ≤ m ∧ k + m ≤ 255 := fun h => by
    unfold cauR at h
    by_cases h1 : 1 ≤ k ∧ 1 ≤ m ∧ m ≤ 255 - k
    · omega
    · rw [if_neg h1] at h
      exact absurd h (by decide)
  have heven : code_even.f (selL (oM A) H H.length) ((selL (oM A) H H.length).length : Int) = some (evD A H) := by
    rw [selL_oM, oM_length]
    unfold evD code_even.f
    rfl
  have hcau : (cauR k m).2 = 0 → (cauR k m).1 = oM (cauM k.toNat m.toNat) := fun h => by
    have := hrng h
    unfold cauR
    rw [if_pos (by omega)]
  have hlen : (selL (oM A) H H.length).length = (selN H H.length).length := by unfold selL; rw [List.length_map]
  refine ⟨evCauchy k m hk, hrng, heven, fun h0 he hS hH hl => ?_, matrix_Inverse.f_oM _, fun h0 he hS hH hl => ?_, fun h0 he hS hH hl => ?_⟩
  · have hg := hrng h0
    obtain ⟨kn, rfl⟩ := Int.eq_ofNat_of_zero_le (show 0 ≤ k by omega)
    obtain ⟨mn, rfl⟩ := Int.eq_ofNat_of_zero_le (show 0 ≤ m by omega)
    rw [hcau h0, selR_ints]
    simp only [Int.toNat_natCast]
    have hp := pic_inverse (k := kn) (m := mn) (by omega) (by omega) (H := H) (by omega) (by omega)
    have h := evRows (cauM kn mn) (by rw [(cauM_reg kn mn).1]; omega) (ints ((selN H H.length).take kn))
    rw [hp.1] at h
    exact h
  · have hg := hrng h0
    obtain ⟨kn, rfl⟩ := Int.eq_ofNat_of_zero_le (show 0 ≤ k by omega)
    obtain ⟨mn, rfl⟩ := Int.eq_ofNat_of_zero_le (show 0 ≤ m by omega)
    obtain ⟨_, _, X, hX, hR, _⟩ := pic_inverse (k := kn) (m := mn) (by omega) (by omega) (H := H) (by omega) (by omega)
    simp only [Int.toNat_natCast]
    have hlen2 : kn ≤ (selM A H).length := by rw [selM_length]; omega
    rw [he, selL_oM, oM_length] at heven
    have hD := even_reg heven (by omega)
    rw [hX, unM_oM, selL_oM]
    have e : (oM (selM A H)).take kn = oM ((selM A H).take kn) := by unfold oM; rw [List.map_take]
    rw [e]
    exact evCombine hR (reg_take hD hlen2) (by omega) (by omega) (by omega) (row_len hr 0 (by omega))
  · have hg := hrng h0
    rw [hcau h0]
    obtain ⟨kn, rfl⟩ := Int.eq_ofNat_of_zero_le (show 0 ≤ k by omega)
    obtain ⟨mn, rfl⟩ := Int.eq_ofNat_of_zero_le (show 0 ≤ m by omega)
    obtain ⟨_, _, X, hX, hR, _⟩ := pic_inverse (k := kn) (m := mn) (by omega) (by omega) (H := H) (by omega) (by omega)
    unfold decM
    simp only [Int.toNat_natCast]
    have hlen2 : kn ≤ (selM A H).length := by rw [selM_length]; omega
    rw [he, selL_oM, oM_length] at heven
    have hD := even_reg heven (by omega)
    rw [hX, unM_oM]
    exact evCombine (cauM_reg kn mn) (mulM_reg hR (reg_take hD hlen2) (by omega)) (by omega) (by omega) (by omega) (row_len hr 0 (by omega))
/-- What Decode answers. -/
def decR (k m : Int) (A : Mat) (H : List Bool) : List (List Int) × Int :=
  if codeB k m = true ∧ (A.length : Int) = k + m ∧ (H.length : Int) = k + m then
    (if 0 < (selM A H).length ∧ evD A H = false then ([], 1) else if ((selM A H).length : Int) < k then ([], 4) else (oM (decM k.toNat m.toNat A H), 0))
  else ([], 1)
theorem decO_eq (k m : Int) (A : Mat) (H : List Bool) : decO k m (oM A) H (cauR k m).2 (evD A H) (oM (decM k.toNat m.toNat A H)) = decR k m A H := by
  unfold decO decR
  rw [selL_oM, oM_length, oM_length]
  rcases codeB_form k m with ⟨h1, k', m', rfl, rfl, _, _, _, e⟩ | ⟨h1, e⟩
  · rw [e, h1]
    simp only [true_and]
  · rw [e, h1]
    rw [if_neg (fun h => absurd h.1 (by decide)), if_neg (fun h => absurd h.1 (by decide))]
end Go.Proofs.YtnfgiamdmfkcjaaDoor.Red
namespace Go.Proofs.YtnfgiamdmfkcjaaDoor.H
open Go.RowKit Go.Proofs.YtnfgiamdmfkcjaaDoorW.PrintWords Go.Proofs.YtnfgiamdmfkcjaaDoor.Leaf Go.Proofs.YtnfgiamdmfkcjaaDoor.Gf Go.Proofs.YtnfgiamdmfkcjaaDoor.Red Go.Proofs.YtnfgiamdmfkcjaaDoor.Mx Go.Proofs.YtnfgiamdmfkcjaaDoor.P
def code_Decode.f (a0 a1 : Int) (l2 : List (List Int)) (l3 : List Bool) : Option (List (List Int) × Int) :=
  if l2.all byteRow = true ∧ -9223372036854775808 ≤ a0 ∧ (l2.all fun r => decide (r.length ≤ 140737488355327)) = true then some (decR a0 a1 (unM l2) l3) else none
theorem code_Decode.calls (a0 : Int) (a1 : Int) (A2 : Option Addr) (c2 : Nat) (l2 : List (List Int)) (A3 : Option Addr) (c3 : Nat) (l3 : List Bool) (r1 : List (List Int)) (r2 : Int) (w : World) (hr2 : Kd.C (Kd.slice 5 (Kd.int .u8)) w A2 l2.length l2) (hc2 : l2.length ≤ c2) (hr3 : Kd.C Kd.bool w A3 l3.length l3) (hc3 : l3.length ≤ c3) (h : code_Decode.f a0 a1 l2 l3 = some (r1, r2)) :
    Calls Tryd.prog 15 #[.int .i64 a0, .int .i64 a1, .slice A2 l2.length c2, .slice A3 l3.length c3] w fun e w' => ∃ v0_ : Value, e = .returned (.tuple #[v0_, .int .i64 r2]) ∧ Kd.N (Kd.slice 5 (Kd.int .u8)) 22 w' w.heap.size (fun k_ => (w.heap.size ≤ k_)) v0_ r1 ∧ Below w.heap.size w w' := by
  unfold code_Decode.f at h
  by_cases hby : l2.all byteRow = true ∧ -9223372036854775808 ≤ a0 ∧ (l2.all fun r => decide (r.length ≤ 140737488355327)) = true
  · rw [if_pos hby] at h
    obtain ⟨hb, ha, hl⟩ := hby
    obtain ⟨A, rfl⟩ : ∃ A : Mat, l2 = oM A := ⟨unM l2, (oM_unM l2 hb).symm⟩
    rw [unM_oM] at h
    have hr : ∀ i, i < A.length → (row A i).length ≤ 140737488355327 := fun i hi => by
      have hm : ofL (A[i]) ∈ oM A := List.mem_map.2 ⟨_, List.getElem_mem hi, rfl⟩
      have h2 := of_decide_eq_true (List.all_eq_true.1 hl _ hm)
      rw [ofL_length] at h2
      have e : row A i = A[i] := by unfold row; rw [List.getD_eq_getElem?_getD, List.getElem?_eq_getElem hi]; rfl
      rw [e]
      exact h2
    have hc := Decode.calls a0 a1 A2 c2 (oM A) A3 c3 l3 _ _ _ _ _ _ _ _ _ w hr2 hc2 hr3 hc3 (dec_facts a0 a1 ha A hr l3)
    rw [decO_eq, Option.some.inj h] at hc
    exact hc
  · rw [if_neg hby] at h
    cases h
end Go.Proofs.YtnfgiamdmfkcjaaDoor.H
namespace Go.Proofs.YtnfgiamdmfkcjaaDoor.P
open Go.Proofs.YtnfgiamdmfkcjaaDoor.Leaf
open Go.RowKit Go.Proofs.YtnfgiamdmfkcjaaDoorW.PrintWords Go.Proofs.YtnfgiamdmfkcjaaDoorW.PrintLast Go.Proofs.YtnfgiamdmfkcjaaDoorW.PrintMore
attribute [local go_sem] max2_int min2_int max_two min_two max_three min_three max_four min_four   -- for this text's walks alone
set_option linter.unusedVariables false
set_option linter.unusedSimpArgs false
def bytes_trimLeftByte.l0 : Nat → List Int → Int → Option (List Int)
 | 0, _, _ => none
 | k + 1, x0, x1 => if (x0.length : Int) > 0 then (if 0 < (x0.length : Int) then (if (rd x0 0) = x1 then (if 1 ≤ (x0.length : Int) then (bytes_trimLeftByte.l0 k (x0.drop 1) x1) else (none)) else (if (x0.length : Int) = 0 then (some ([] : List Int)) else (some x0))) else (none)) else (if (x0.length : Int) = 0 then (some ([] : List Int)) else (some x0))
def bytes_trimLeftByte.f (k : Nat) (l0 : List Int) (a1 : Int) : Option (List Int) := bytes_trimLeftByte.l0 k l0 a1
theorem bytes_trimLeftByte.mono_l : ∀ k, (∀ y0 y1, LeO (bytes_trimLeftByte.l0 k y0 y1) (bytes_trimLeftByte.l0 (k + 1) y0 y1))
 | 0 => fun _ _ r h => by simp [bytes_trimLeftByte.l0] at h
 | k + 1 => by
  have ih0 := bytes_trimLeftByte.mono_l k
  ·intro y0 y1
   unfold bytes_trimLeftByte.l0
   repeat' first
   | (with_reducible exact ih0 _ _)
   | (with_reducible exact LeO.refl _)
   | (with_reducible exact LeO.none _)
   | (with_reducible refine LeO.ite ?_ ?_)
   | (with_reducible refine LeO.bind ?_ (fun _ => ?_))
   | exact ih0 _ _
   | exact LeO.none _
   | refine LeO.ite ?_ ?_
   | refine LeO.bind ?_ (fun _ => ?_)
theorem bytes_trimLeftByte.mono : ∀ a0 a1 k, LeO (bytes_trimLeftByte.f k a0 a1) (bytes_trimLeftByte.f (k + 1) a0 a1) := by
 intro a0 a1 k
 have ih0 := bytes_trimLeftByte.mono_l k
 unfold bytes_trimLeftByte.f
 repeat' first
   | (with_reducible exact ih0 _ _)
   | (with_reducible exact LeO.refl _)
   | (with_reducible exact LeO.none _)
   | (with_reducible refine LeO.ite ?_ ?_)
   | (with_reducible refine LeO.bind ?_ (fun _ => ?_))
   | exact ih0 _ _
   | exact LeO.none _
   | refine LeO.ite ?_ ?_
   | refine LeO.bind ?_ (fun _ => ?_)
set_option maxHeartbeats 8000000 in
set_option maxRecDepth 100000 in
theorem bytes_trimLeftByte.calls (k : Nat) (P0_ : Nat → Prop) (A0 : Option Addr) (c0 : Nat) (l0 : List Int) (a1 : Int) (r : List Int) (w : World) (hs0 : Kd.V (Kd.int .u8) 5 w w.heap.size (fun k_ => P0_ k_) (.slice A0 l0.length c0) l0) (h : bytes_trimLeftByte.f k l0 a1 = some r) :
  Calls Tryd.prog 56 #[.slice A0 l0.length c0, .int .u8 a1] w fun e w' => ∃ v0_ : Value, e = .returned (v0_) ∧ Kd.V (Kd.int .u8) 5 w' w.heap.size (fun k_ => (P0_ k_ ∨ w.heap.size ≤ k_)) v0_ r ∧ Below w.heap.size w w' := by
 have HO0 := Aside0.mk (show Kd.V (Kd.int .u8) 5 w w.heap.size (fun k_ => (P0_ k_ ∨ w.heap.size ≤ k_)) (.slice A0 l0.length c0) l0 from Kd.V_mono hs0 (fun k_ hk => .inl hk))
 have HB := Aside0.mk (Below.refl w.heap.size w)
 have H : (bytes_trimLeftByte.l0 k l0 a1) = some r := h
 clear h
 have H' := Aside0.mk H
 clear H
 go_enter Tryd.func56, Tryd.ntmps56
 go_wp2
 go_loopg [0] k (fun kq v0 w' => ∃ (x0_1 : List Int), Aside0 (bytes_trimLeftByte.l0 kq x0_1 a1 = some r) ∧ Aside0 (kq ≤ k) ∧ Aside0 (Kd.V (Kd.int .u8) 5 w' w.heap.size (fun k_ => (P0_ k_ ∨ w.heap.size ≤ k_)) v0 x0_1) ∧ Aside0 (Below w.heap.size w w'))
 case atStart => exact ⟨(l0), H', ⟨Nat.le_refl _⟩, ⟨by (with_reducible repeat (first | apply Kd.V_alloc | apply Kd.V_drewN | apply Kd.V_drew)); exact HO0.out⟩, ⟨by repeat (first | (with_reducible first | exact HB.out | apply below_alloc | apply pw_below_drewN | apply below_drew1) | exact HB.out)⟩⟩
 case round =>
  clear H'
  try clear p2
  obtain ⟨x0_1, HA, HK1, HO_0, HB⟩ := hrel
  cases gk with
  | zero => exact absurd HA.out (by simp [bytes_trimLeftByte.l0])
  | succ k1 =>
   have H := HA.out
   clear HA
   simp only [bytes_trimLeftByte.l0] at H
   by_cases c3 : (x0_1.length : Int) > 0
   ·rw [if_pos c3] at H
    have c3b0 : decide (0 < (x0_1.length : Int)) = true := decide_eq_true c3
    have c3b1 : decide (0 < x0_1.length) = true := decide_eq_true (by omega)
    clear c3
    by_cases c4 : 0 < (x0_1.length : Int)
    ·rw [if_pos c4] at H
     have c4b0 : decide (0 < (x0_1.length : Int)) = true := decide_eq_true c4
     have c4b1 : decide (0 < x0_1.length) = true := decide_eq_true (by omega)
     clear c4
     by_cases c5 : (rd x0_1 0) = a1
     ·rw [if_pos c5] at H
      have c5b0 : ((rd x0_1 0) == a1) = true := beq_iff_eq.mpr c5
      have c5b1 : ((rd x0_1 0) != a1) = false := bne_eq_false_iff_eq.mpr c5
      clear c5
      by_cases c6 : 1 ≤ (x0_1.length : Int)
      ·rw [if_pos c6] at H
       have c6b0 := eq_true c6
       have c6b1 : decide (1 ≤ (x0_1.length : Int)) = true := decide_eq_true c6
       clear c6
       obtain ⟨y102, hy102⟩ : ∃ y_ : List Int, y_ = (x0_1.drop 1) := ⟨_, rfl⟩
       replace H : (bytes_trimLeftByte.l0 k1 y102 a1) = some r := by first | (rw [hy102]; with_reducible exact H) | (have H2_ := (Option.bind_some _ _).symm.trans H; rw [hy102]; with_reducible exact H2_) | (have H2_ := (Option.bind_some _ _).symm.trans H; with_reducible exact H2_) | with_reducible exact H | (rw [hy102]; exact H) | exact H
       have Ny102 := Aside0.mk hy102
       clear hy102
       have H' := Aside0.mk H
       clear H
       obtain ⟨Ao7, co7, eo7⟩ := Kd.V_slice HO_0.out
       subst eo7
       have p101 : 0 ≤ (0 : Int) := (by omega)
       have q101 : 0 < (x0_1.length : Int) := of_decide_eq_true (by first | (with_reducible assumption) | assumption)
       obtain ⟨ad101, e101, hx101_0⟩ := Kd.at_int (Kd.V_reads' HO_0.out).2.2 0 p101 q101
       cases e101
       have qi101 : (0 < x0_1.length) = True := eq_true (by omega)
       (try rw [show ((0 : Int)).toNat = 0 from rfl] at hx101_0)
       (try rw [Addr.add_zero'] at hx101_0)
       replace p101 := eq_true p101
       replace q101 := eq_true q101
       have q8 : (1 : Int) ≤ ((x0_1.length : Int) : Int) := of_decide_eq_true (by first | (with_reducible assumption) | assumption)
       obtain ⟨i08, hi08, _, hsz8, _⟩ := info_parts info5
       have hroom8 : x0_1.length ≤ co7 := (Kd.V_reads' HO_0.out).2.1
       have hC8 : Kd.F (Kd.int .u8) _ _ (some ad101) x0_1.length x0_1 := (Kd.V_at (base := w.heap.size) HO_0.out).2.2
       have hcut8 := cut_from (P := Tryd.prog) 22 5 .i64 Tryd.underlying22 hi08 1 hsz8 (some ad101) x0_1.length co7 1 (by omega) q8
       have hr8 := Kd.F_cut (m := (1 : Int).toNat) (c := co7) hC8 (by omega) hroom8
       obtain ⟨A8, hA8⟩ : ∃ A1, A1 = (if co7 = (1 : Int).toNat then (some ad101) else ((some ad101) : Option Addr).map (·.add ((1 : Int).toNat * 1))) := ⟨_, rfl⟩
       obtain ⟨c8, hc8⟩ : ∃ c1, c1 = co7 - (1 : Int).toNat := ⟨_, rfl⟩
       have hy8 : y102.length = x0_1.length - (1 : Int).toNat := (by rw [Ny102.out, List.length_drop] <;> omega)
       rw [show (x0_1).drop (1 : Int).toNat = y102 from Ny102.out.symm] at hr8
       replace hr8 : Kd.F (Kd.int .u8) _ _ A8 y102.length y102 := (by rw [hA8]; exact hr8)
       rw [← hy8, ← hA8, ← hc8] at hcut8
       have HO106 := Aside0.mk (show Kd.V (Kd.int .u8) 5 _ w.heap.size _ (.slice A8 y102.length c8) y102 from Kd.V_mk (by rw [hy8, hc8]; exact Nat.sub_le_sub_right hroom8 _) hr8)
       have HC106 := Aside0.mk (show y102.length ≤ c8 from by rw [hy8, hc8]; exact Nat.sub_le_sub_right hroom8 _)
       clear hr8 hC8 hroom8 hi08 hsz8 hc8
       have KY8 := Aside0.mk hy8
       have KA8 := Aside0.mk hA8
       clear hy8 hA8
       replace q8 := eq_true q8
       go_wp2
       go_roundg k1
       case measure => have := HK1.out; omega
       case rel => exact ⟨(y102), H', ⟨by have := HK1.out; omega⟩, ⟨by (with_reducible repeat (first | apply Kd.V_alloc | apply Kd.V_drewN | apply Kd.V_drew)); exact HO106.out⟩, ⟨by repeat (first | (with_reducible first | exact HB.out | apply below_alloc | apply pw_below_drewN | apply below_drew1) | exact HB.out)⟩⟩
      ·rw [if_neg c6] at H
       exact absurd H (by simp)
     ·rw [if_neg c5] at H
      have c5b0 : ((rd x0_1 0) == a1) = false := beq_eq_false_iff_ne.mpr c5
      have c5b1 : ((rd x0_1 0) != a1) = true := bne_iff_ne.mpr c5
      by_cases c9 : (x0_1.length : Int) = 0
      ·rw [if_pos c9] at H
       have c9b0 : ((x0_1.length : Int) == 0) = true := beq_iff_eq.mpr c9
       have c9b1 : ((x0_1.length : Int) != 0) = false := bne_eq_false_iff_eq.mpr c9
       clear c9
       obtain rfl := Option.some.inj H
       obtain ⟨Ao10, co10, eo10⟩ := Kd.V_slice HO_0.out
       subst eo10
       have p101 : 0 ≤ (0 : Int) := (by omega)
       have q101 : 0 < (x0_1.length : Int) := of_decide_eq_true (by first | (with_reducible assumption) | assumption)
       obtain ⟨ad101, e101, hx101_0⟩ := Kd.at_int (Kd.V_reads' HO_0.out).2.2 0 p101 q101
       cases e101
       have qi101 : (0 < x0_1.length) = True := eq_true (by omega)
       (try rw [show ((0 : Int)).toNat = 0 from rfl] at hx101_0)
       (try rw [Addr.add_zero'] at hx101_0)
       replace p101 := eq_true p101
       replace q101 := eq_true q101
       go_wp2
       go_ret
       exact ⟨_, by first | rfl | (simp [errW_none, errW_some] <;> rfl) | (simp [*, errW_none, errW_some] <;> rfl), (by first | exact Kd.V_nil _ _ _ _ _ | exact Kd.V_mono (Kd.R_V (by first | exact Kd.R_nil _ _ _ _ _ | exact Kd.N_nil _ _ _ _ _ | exact Kd.V_nil _ _ _ _ _ | exact Kd.Q_nil _ _ _ _ _ | exact Kd.S_nil _ _ _ _ _)) (fun k_ hk => by first | exact ⟨(.inr (hk.1)), hk.2⟩ | exact (.inr (hk)))), by repeat (first | (with_reducible first | exact HB.out | apply below_alloc | apply pw_below_drewN | apply below_drew1) | exact HB.out)⟩
      ·rw [if_neg c9] at H
       have c9b0 : ((x0_1.length : Int) == 0) = false := beq_eq_false_iff_ne.mpr c9
       have c9b1 : ((x0_1.length : Int) != 0) = true := bne_iff_ne.mpr c9
       have c9b2 : ¬ (x0_1 = []) := fun h_ => c9 (by rw [h_]; rfl)
       obtain rfl := Option.some.inj H
       obtain ⟨Ao11, co11, eo11⟩ := Kd.V_slice HO_0.out
       subst eo11
       have p101 : 0 ≤ (0 : Int) := (by omega)
       have q101 : 0 < (x0_1.length : Int) := of_decide_eq_true (by first | (with_reducible assumption) | assumption)
       obtain ⟨ad101, e101, hx101_0⟩ := Kd.at_int (Kd.V_reads' HO_0.out).2.2 0 p101 q101
       cases e101
       have qi101 : (0 < x0_1.length) = True := eq_true (by omega)
       (try rw [show ((0 : Int)).toNat = 0 from rfl] at hx101_0)
       (try rw [Addr.add_zero'] at hx101_0)
       replace p101 := eq_true p101
       replace q101 := eq_true q101
       go_wp2
       go_ret
       exact ⟨_, by first | rfl | (simp [errW_none, errW_some] <;> rfl) | (simp [*, errW_none, errW_some] <;> rfl), by (with_reducible repeat (first | apply Kd.V_alloc | apply Kd.V_drewN | apply Kd.V_drew)); exact HO_0.out, by repeat (first | (with_reducible first | exact HB.out | apply below_alloc | apply pw_below_drewN | apply below_drew1) | exact HB.out)⟩
    ·rw [if_neg c4] at H
     exact absurd H (by simp)
   ·rw [if_neg c3] at H
    have c3b0 : decide (0 < (x0_1.length : Int)) = false := decide_eq_false c3
    have c3b1 : decide (0 < x0_1.length) = false := decide_eq_false (by omega)
    clear c3
    by_cases c12 : (x0_1.length : Int) = 0
    ·rw [if_pos c12] at H
     have c12b0 : ((x0_1.length : Int) == 0) = true := beq_iff_eq.mpr c12
     have c12b1 : ((x0_1.length : Int) != 0) = false := bne_eq_false_iff_eq.mpr c12
     clear c12
     obtain rfl := Option.some.inj H
     obtain ⟨Ao13, co13, eo13⟩ := Kd.V_slice HO_0.out
     subst eo13
     go_wp2
     go_ret
     exact ⟨_, by first | rfl | (simp [errW_none, errW_some] <;> rfl) | (simp [*, errW_none, errW_some] <;> rfl), (by first | exact Kd.V_nil _ _ _ _ _ | exact Kd.V_mono (Kd.R_V (by first | exact Kd.R_nil _ _ _ _ _ | exact Kd.N_nil _ _ _ _ _ | exact Kd.V_nil _ _ _ _ _ | exact Kd.Q_nil _ _ _ _ _ | exact Kd.S_nil _ _ _ _ _)) (fun k_ hk => by first | exact ⟨(.inr (hk.1)), hk.2⟩ | exact (.inr (hk)))), by repeat (first | (with_reducible first | exact HB.out | apply below_alloc | apply pw_below_drewN | apply below_drew1) | exact HB.out)⟩
    ·rw [if_neg c12] at H
     have c12b0 : ((x0_1.length : Int) == 0) = false := beq_eq_false_iff_ne.mpr c12
     have c12b1 : ((x0_1.length : Int) != 0) = true := bne_iff_ne.mpr c12
     have c12b2 : ¬ (x0_1 = []) := fun h_ => c12 (by rw [h_]; rfl)
     obtain rfl := Option.some.inj H
     obtain ⟨Ao14, co14, eo14⟩ := Kd.V_slice HO_0.out
     subst eo14
     go_wp2
     go_ret
     exact ⟨_, by first | rfl | (simp [errW_none, errW_some] <;> rfl) | (simp [*, errW_none, errW_some] <;> rfl), by (with_reducible repeat (first | apply Kd.V_alloc | apply Kd.V_drewN | apply Kd.V_drew)); exact HO_0.out, by repeat (first | (with_reducible first | exact HB.out | apply below_alloc | apply pw_below_drewN | apply below_drew1) | exact HB.out)⟩
end Go.Proofs.YtnfgiamdmfkcjaaDoor.P
namespace Go.Proofs.YtnfgiamdmfkcjaaDoor.P
open Go.Proofs.YtnfgiamdmfkcjaaDoor.Leaf
open Go.RowKit Go.Proofs.YtnfgiamdmfkcjaaDoorW.PrintWords Go.Proofs.YtnfgiamdmfkcjaaDoorW.PrintLast Go.Proofs.YtnfgiamdmfkcjaaDoorW.PrintMore
attribute [local go_sem] max2_int min2_int max_two min_two max_three min_three max_four min_four   -- for this text's walks alone
set_option linter.unusedVariables false
set_option linter.unusedSimpArgs false
def bytes_trimRightByte.l0 : Nat → List Int → Int → Option (List Int)
 | 0, _, _ => none
 | k + 1, x0, x1 => if (x0.length : Int) > 0 then (if 0 ≤ (wrap64 ((x0.length : Int) - 1)) then (if (wrap64 ((x0.length : Int) - 1)) < (x0.length : Int) then (if (rd x0 (wrap64 ((x0.length : Int) - 1))) = x1 then (if (wrap64 ((x0.length : Int) - 1)) ≤ (x0.length : Int) then (bytes_trimRightByte.l0 k (x0.take ((wrap64 ((x0.length : Int) - 1)) : Int).toNat) x1) else (none)) else (some x0)) else (none)) else (none)) else (some x0)
def bytes_trimRightByte.f (k : Nat) (l0 : List Int) (a1 : Int) : Option (List Int) := bytes_trimRightByte.l0 k l0 a1
theorem bytes_trimRightByte.mono_l : ∀ k, (∀ y0 y1, LeO (bytes_trimRightByte.l0 k y0 y1) (bytes_trimRightByte.l0 (k + 1) y0 y1))
 | 0 => fun _ _ r h => by simp [bytes_trimRightByte.l0] at h
 | k + 1 => by
  have ih0 := bytes_trimRightByte.mono_l k
  ·intro y0 y1
   unfold bytes_trimRightByte.l0
   repeat' first
   | (with_reducible exact ih0 _ _)
   | (with_reducible exact LeO.refl _)
   | (with_reducible exact LeO.none _)
   | (with_reducible refine LeO.ite ?_ ?_)
   | (with_reducible refine LeO.bind ?_ (fun _ => ?_))
   | exact ih0 _ _
   | exact LeO.none _
   | refine LeO.ite ?_ ?_
   | refine LeO.bind ?_ (fun _ => ?_)
theorem bytes_trimRightByte.mono : ∀ a0 a1 k, LeO (bytes_trimRightByte.f k a0 a1) (bytes_trimRightByte.f (k + 1) a0 a1) := by
 intro a0 a1 k
 have ih0 := bytes_trimRightByte.mono_l k
 unfold bytes_trimRightByte.f
 repeat' first
   | (with_reducible exact ih0 _ _)
   | (with_reducible exact LeO.refl _)
   | (with_reducible exact LeO.none _)
   | (with_reducible refine LeO.ite ?_ ?_)
   | (with_reducible refine LeO.bind ?_ (fun _ => ?_))
   | exact ih0 _ _
   | exact LeO.none _
   | refine LeO.ite ?_ ?_
   | refine LeO.bind ?_ (fun _ => ?_)
set_option maxHeartbeats 8000000 in
set_option maxRecDepth 100000 in
theorem bytes_trimRightByte.calls (k : Nat) (P0_ : Nat → Prop) (A0 : Option Addr) (c0 : Nat) (l0 : List Int) (a1 : Int) (r : List Int) (w : World) (hs0 : Kd.V (Kd.int .u8) 5 w w.heap.size (fun k_ => P0_ k_) (.slice A0 l0.length c0) l0) (h : bytes_trimRightByte.f k l0 a1 = some r) :
  Calls Tryd.prog 57 #[.slice A0 l0.length c0, .int .u8 a1] w fun e w' => ∃ v0_ : Value, e = .returned (v0_) ∧ Kd.V (Kd.int .u8) 5 w' w.heap.size (fun k_ => (P0_ k_ ∨ w.heap.size ≤ k_)) v0_ r ∧ Below w.heap.size w w' := by
 have HO0 := Aside0.mk (show Kd.V (Kd.int .u8) 5 w w.heap.size (fun k_ => (P0_ k_ ∨ w.heap.size ≤ k_)) (.slice A0 l0.length c0) l0 from Kd.V_mono hs0 (fun k_ hk => .inl hk))
 have HB := Aside0.mk (Below.refl w.heap.size w)
 have H : (bytes_trimRightByte.l0 k l0 a1) = some r := h
 clear h
 have H' := Aside0.mk H
 clear H
 go_enter Tryd.func57, Tryd.ntmps57
 go_wp2
 go_loopg [0] k (fun kq v0 w' => ∃ (x0_1 : List Int), Aside0 (bytes_trimRightByte.l0 kq x0_1 a1 = some r) ∧ Aside0 (kq ≤ k) ∧ Aside0 (Kd.V (Kd.int .u8) 5 w' w.heap.size (fun k_ => (P0_ k_ ∨ w.heap.size ≤ k_)) v0 x0_1) ∧ Aside0 (Below w.heap.size w w'))
 case atStart => exact ⟨(l0), H', ⟨Nat.le_refl _⟩, ⟨by (with_reducible repeat (first | apply Kd.V_alloc | apply Kd.V_drewN | apply Kd.V_drew)); exact HO0.out⟩, ⟨by repeat (first | (with_reducible first | exact HB.out | apply below_alloc | apply pw_below_drewN | apply below_drew1) | exact HB.out)⟩⟩
 case round =>
  clear H'
  try clear p2
  obtain ⟨x0_1, HA, HK1, HO_0, HB⟩ := hrel
  cases gk with
  | zero => exact absurd HA.out (by simp [bytes_trimRightByte.l0])
  | succ k1 =>
   have H := HA.out
   clear HA
   simp only [bytes_trimRightByte.l0] at H
   by_cases c3 : (x0_1.length : Int) > 0
   ·rw [if_pos c3] at H
    have c3b0 : decide (0 < (x0_1.length : Int)) = true := decide_eq_true c3
    have c3b1 : decide (0 < x0_1.length) = true := decide_eq_true (by omega)
    clear c3
    obtain ⟨ji4, hji4⟩ : ∃ j_ : Int, (wrap64 ((x0_1.length : Int) - 1)) = j_ := ⟨_, rfl⟩
    replace H : (if 0 ≤ (ji4) then (if (ji4) < (x0_1.length : Int) then (if (rd x0_1 (ji4)) = a1 then (if (ji4) ≤ (x0_1.length : Int) then (bytes_trimRightByte.l0 k1 (x0_1.take ((ji4) : Int).toNat) a1) else (none)) else (some x0_1)) else (none)) else (none)) = some r := by first | (rw [hji4] at H; exact H) | (simp only [hji4] at H ⊢; exact H)
    have hji4w : (IntKind.i64.wrap ((x0_1.length : Int) - 1)) = ji4 := (i64_w _).trans hji4
    by_cases c5 : 0 ≤ (ji4)
    ·rw [if_pos c5] at H
     have c5b0 : decide (0 ≤ (ji4)) = true := decide_eq_true c5
     clear c5
     by_cases c6 : (ji4) < (x0_1.length : Int)
     ·rw [if_pos c6] at H
      have c6b0 : decide ((ji4) < (x0_1.length : Int)) = true := decide_eq_true c6
      clear c6
      by_cases c7 : (rd x0_1 (ji4)) = a1
      ·rw [if_pos c7] at H
       have c7b0 : ((rd x0_1 (ji4)) == a1) = true := beq_iff_eq.mpr c7
       have c7b1 : ((rd x0_1 (ji4)) != a1) = false := bne_eq_false_iff_eq.mpr c7
       clear c7
       have c8b0 := eq_true (of_decide_eq_true (by first | (with_reducible assumption) | assumption) : 0 ≤ (ji4))
       by_cases c9 : (ji4) ≤ (x0_1.length : Int)
       ·rw [if_pos c9] at H
        have c9b0 := eq_true c9
        have c9b1 : decide ((ji4) ≤ (x0_1.length : Int)) = true := decide_eq_true c9
        clear c9
        obtain ⟨y102, hy102⟩ : ∃ y_ : List Int, y_ = (x0_1.take ((ji4) : Int).toNat) := ⟨_, rfl⟩
        replace H : (bytes_trimRightByte.l0 k1 y102 a1) = some r := by first | (rw [hy102]; with_reducible exact H) | (have H2_ := (Option.bind_some _ _).symm.trans H; rw [hy102]; with_reducible exact H2_) | (have H2_ := (Option.bind_some _ _).symm.trans H; with_reducible exact H2_) | with_reducible exact H | (rw [hy102]; exact H) | exact H
        have Ny102 := Aside0.mk hy102
        clear hy102
        have H' := Aside0.mk H
        clear H
        obtain ⟨Ao10, co10, eo10⟩ := Kd.V_slice HO_0.out
        subst eo10
        have p101 : 0 ≤ ((ji4) : Int) := of_decide_eq_true (by first | (with_reducible assumption) | assumption)
        have q101 : (ji4) < (x0_1.length : Int) := of_decide_eq_true (by first | (with_reducible assumption) | assumption)
        obtain ⟨ad101, e101, hx101_0⟩ := Kd.at_int (Kd.V_reads' HO_0.out).2.2 (ji4) p101 q101
        cases e101
        replace p101 := eq_true p101
        replace q101 := eq_true q101
        have q11 : ((ji4) : Int) ≤ ((x0_1.length : Int) : Int) := of_decide_eq_true (by first | (with_reducible assumption) | assumption)
        obtain ⟨i011, hi011, _, hsz11, _⟩ := info_parts info5
        have hroom11 : x0_1.length ≤ co10 := (Kd.V_reads' HO_0.out).2.1
        have hC11 : Kd.F (Kd.int .u8) _ _ (some ad101) x0_1.length x0_1 := (Kd.V_at (base := w.heap.size) HO_0.out).2.2
        have hcut11 := cut_to (P := Tryd.prog) 22 5 .i64 Tryd.underlying22 hi011 (some ad101) x0_1.length co10 (ji4) (of_decide_eq_true (by first | (with_reducible assumption) | assumption)) q11 hroom11
        have hr11 := Kd.F_take (m := ((ji4) : Int).toNat) hC11 (by omega)
        have hy11 : y102.length = ((ji4) : Int).toNat := (by rw [Ny102.out, List.length_take]; omega)
        rw [← Ny102.out] at hr11
        rw [← hy11] at hcut11
        have HO106 := Aside0.mk (show Kd.V (Kd.int .u8) 5 _ w.heap.size _ (.slice (some ad101) y102.length co10) y102 from Kd.V_mk (by omega) hr11)
        have HC106 := Aside0.mk (show y102.length ≤ co10 from by omega)
        clear hr11 hC11 hroom11 hi011 hsz11
        have KY11 := Aside0.mk hy11
        clear hy11
        replace q11 := eq_true q11
        go_wp2
        go_roundg k1
        case measure => have := HK1.out; omega
        case rel => exact ⟨(y102), (by first | exact H' | (simp only [hji4]; exact H')), ⟨by have := HK1.out; omega⟩, ⟨by (with_reducible repeat (first | apply Kd.V_alloc | apply Kd.V_drewN | apply Kd.V_drew)); exact HO106.out⟩, ⟨by repeat (first | (with_reducible first | exact HB.out | apply below_alloc | apply pw_below_drewN | apply below_drew1) | exact HB.out)⟩⟩
       ·rw [if_neg c9] at H
        exact absurd H (by simp)
      ·rw [if_neg c7] at H
       have c7b0 : ((rd x0_1 (ji4)) == a1) = false := beq_eq_false_iff_ne.mpr c7
       have c7b1 : ((rd x0_1 (ji4)) != a1) = true := bne_iff_ne.mpr c7
       obtain rfl := Option.some.inj H
       obtain ⟨Ao12, co12, eo12⟩ := Kd.V_slice HO_0.out
       subst eo12
       have p101 : 0 ≤ ((ji4) : Int) := of_decide_eq_true (by first | (with_reducible assumption) | assumption)
       have q101 : (ji4) < (x0_1.length : Int) := of_decide_eq_true (by first | (with_reducible assumption) | assumption)
       obtain ⟨ad101, e101, hx101_0⟩ := Kd.at_int (Kd.V_reads' HO_0.out).2.2 (ji4) p101 q101
       cases e101
       replace p101 := eq_true p101
       replace q101 := eq_true q101
       go_wp2
       go_ret
       exact ⟨_, by first | rfl | (simp [errW_none, errW_some] <;> rfl) | (simp only [← hji4]; first | rfl | (simp [errW_none, errW_some] <;> rfl)) | (simp [*, errW_none, errW_some] <;> rfl), by (with_reducible repeat (first | apply Kd.V_alloc | apply Kd.V_drewN | apply Kd.V_drew)); exact HO_0.out, by repeat (first | (with_reducible first | exact HB.out | apply below_alloc | apply pw_below_drewN | apply below_drew1) | exact HB.out)⟩
     ·rw [if_neg c6] at H
      exact absurd H (by simp)
    ·rw [if_neg c5] at H
     exact absurd H (by simp)
   ·rw [if_neg c3] at H
    have c3b0 : decide (0 < (x0_1.length : Int)) = false := decide_eq_false c3
    have c3b1 : decide (0 < x0_1.length) = false := decide_eq_false (by omega)
    clear c3
    obtain rfl := Option.some.inj H
    obtain ⟨Ao13, co13, eo13⟩ := Kd.V_slice HO_0.out
    subst eo13
    go_wp2
    go_ret
    exact ⟨_, by first | rfl | (simp [errW_none, errW_some] <;> rfl) | (simp [*, errW_none, errW_some] <;> rfl), by (with_reducible repeat (first | apply Kd.V_alloc | apply Kd.V_drewN | apply Kd.V_drew)); exact HO_0.out, by repeat (first | (with_reducible first | exact HB.out | apply below_alloc | apply pw_below_drewN | apply below_drew1) | exact HB.out)⟩
end Go.Proofs.YtnfgiamdmfkcjaaDoor.P
namespace Go.Proofs.YtnfgiamdmfkcjaaDoor.H
open Go.RowKit Go.Proofs.YtnfgiamdmfkcjaaDoorW.PrintWords Go.Proofs.YtnfgiamdmfkcjaaDoorW.PrintLast Go.Proofs.YtnfgiamdmfkcjaaDoorW.PrintMore Go.Proofs.YtnfgiamdmfkcjaaDoor.Leaf Go.Proofs.YtnfgiamdmfkcjaaDoor.P
set_option linter.unusedVariables false
set_option linter.unusedSimpArgs false
def bytes_Trim.f (k : Nat) (l0 : List Int) (a1 : ByteArray) : Option (List Int) :=
  if a1.data = #[0] then (if l0.length = 0 then some [] else (bytes_trimRightByte.f k l0 0).bind fun t => bytes_trimLeftByte.f k t 0) else none
theorem bytes_Trim.mono (k : Nat) (l0 : List Int) (a1 : ByteArray) : LeO (bytes_Trim.f k l0 a1) (bytes_Trim.f (k + 1) l0 a1) := by
  unfold bytes_Trim.f
  refine LeO.ite (LeO.ite (LeO.refl _) (LeO.bind (bytes_trimRightByte.mono _ _ _) (fun _ => bytes_trimLeftByte.mono _ _ _))) (LeO.none _)
def TR6 : Bool × List (List Nat × List Nat) := (true, [([], []), ([], []), ([1], [1]), ([0, 2], [0, 2]), ([], []), ([4], [4]), ([3, 5, 3], [3, 5]), ([6, 6, 0, 1, 2, 3, 4, 5, 6], [6])])
def BR6 : List Nat := [0, 0, 2, 7, 0, 16, 63, 127]
theorem TR6.tab : rtab .any (opsOf Tryd.f33 6) = TR6 := by kernel_rfl
theorem BR6.bits : waitsOk TR6.2 BR6 = true := by kernel_rfl
set_option maxHeartbeats 8000000 in
set_option maxRecDepth 100000 in
theorem bytes_Trim.calls (k : Nat) (P0_ : Nat → Prop) (A0 : Option Addr) (c0 : Nat) (l0 : List Int) (a1 : ByteArray) (r : List Int) (w : World) (hs0 : Kd.V (Kd.int .u8) 5 w w.heap.size (fun k_ => P0_ k_) (.slice A0 l0.length c0) l0) (h : bytes_Trim.f k l0 a1 = some r) :
    Calls Tryd.prog 33 #[.slice A0 l0.length c0, .string a1] w fun e w' => ∃ v0_ : Value, e = .returned (v0_) ∧ Kd.V (Kd.int .u8) 5 w' w.heap.size (fun k_ => (P0_ k_ ∨ w.heap.size ≤ k_)) v0_ r ∧ Below w.heap.size w w' := by
  unfold bytes_Trim.f at h
  by_cases hz : a1.data = #[0]
  · rw [if_pos hz] at h
    obtain rfl : a1 = ⟨#[0]⟩ := by cases a1; simpa using hz
    clear hz
    by_cases h0 : l0.length = 0
    · rw [if_pos h0] at h
      obtain rfl := Option.some.inj h
      have c3b0 : ((l0.length : Int) == 0) = true := beq_iff_eq.mpr (by omega)
      clear h h0
      go_enter Tryd.func33, Tryd.ntmps33
      go_wp2
      go_ret
      exact ⟨_, rfl, Kd.V_nil _ _ _ _ _, Below.refl _ _⟩
    · rw [if_neg h0] at h
      obtain ⟨t, h1, h2⟩ := Option.bind_eq_some_iff.mp h
      have A15 := Aside0.mk h1
      have A17 := Aside0.mk h2
      have c3b0 : ((l0.length : Int) == 0) = false := beq_eq_false_iff_ne.mpr (by omega)
      have HO_0 := Aside0.mk hs0
      have HB := Aside0.mk (Below.refl w.heap.size w)
      clear h h1 h2 h0 hs0
      go_enter Tryd.func33, Tryd.ntmps33
      go_wp2
      have n0_ := Aside0.mk (Kd.V_drew HO_0.out)
      have n1_ := Aside0.mk (below_drew1 HB.out)
      clear HO_0 HB
      have HO_0 := n0_
      have HB := n1_
      clear n0_ n1_
      refine start_ (n := 8) (S := fun w' => True) (ds := []) #[false, false, false, false, false, false, false, false] (by kernel_rfl) rfl rfl trivial (fun hHeld => ?_); refine with_tabW TR6.tab BR6.bits (fun HT_ HW_ => ?_)
      generalize w.drew = w18 at HO_0 HB hHeld ⊢
      refine pure_ (i := 0) (N := some 21) (v := ?_) (a' := ?_) #[true, false, false, false, false, false, false, false] rfl rfl (any_of HT_.out (by kernel_rfl)) (fun _ _ _ h => h) (Or.inl ⟨by rfl, ?_⟩) ?_ ?_
      rotate_left
      · intro w'
        go_simp
        with_reducible rfl
      rotate_left
      · simp only [Act.put, List.setIfInBounds_toArray, List.set_cons_zero, List.set_cons_succ, i64_w, i32_w]
        rfl
      refine pure_ (i := 1) (N := some 22) (v := ?_) (a' := ?_) #[true, true, false, false, false, false, false, false] rfl rfl (any_of HT_.out (by kernel_rfl)) (fun _ _ _ h => h) (Or.inl ⟨by rfl, ?_⟩) ?_ ?_
      rotate_left
      · intro w'
        go_simp
        with_reducible rfl
      rotate_left
      · simp only [Act.put, List.setIfInBounds_toArray, List.set_cons_zero, List.set_cons_succ, i64_w, i32_w]
        rfl
      refine pure_ (i := 4) (N := some 25) (v := ?_) (a' := ?_) #[true, true, false, false, true, false, false, false] rfl rfl (any_of HT_.out (by kernel_rfl)) (fun _ _ _ h => h) (Or.inl ⟨by rfl, ?_⟩) ?_ ?_
      rotate_left
      · intro w'
        go_simp
        with_reducible rfl
      rotate_left
      · simp only [Act.put, List.setIfInBounds_toArray, List.set_cons_zero, List.set_cons_succ, i64_w, i32_w]
        rfl
      refine take_ (i := 2) (N := some 23) (v := ?_) (a' := ?_) #[true, true, true, false, true, false, false, false] rfl rfl (take_ofW HT_.out HW_.out (by kernel_rfl)) (fun _ _ _ h => h) (Or.inl ⟨by rfl, ?_⟩) hHeld ?_ ?_
      rotate_left
      · intro w' _
        go_simp
        with_reducible rfl
      rotate_left
      · simp only [Act.put, List.setIfInBounds_toArray, List.set_cons_zero, List.set_cons_succ, i64_w, i32_w]
        rfl
      refine take_ (i := 5) (N := some 26) (v := ?_) (a' := ?_) #[true, true, true, false, true, true, false, false] rfl rfl (take_ofW HT_.out HW_.out (by kernel_rfl)) (fun _ _ _ h => h) (Or.inl ⟨by rfl, ?_⟩) hHeld ?_ ?_
      rotate_left
      · intro w' _
        go_simp
        with_reducible rfl
      rotate_left
      · simp only [Act.put, List.setIfInBounds_toArray, List.set_cons_zero, List.set_cons_succ, i64_w, i32_w]
        rfl
      refine one_ (i := 3) (N := some 24) #[true, true, true, true, true, true, false, false] rfl rfl (one_of HT_.out (by kernel_rfl)) (by decide) (fun K hK => ?_)
      refine goes_ Tryd.func57 (by kernel_rfl) rfl #[.slice A0 l0.length c0, .int .u8 0] (by rfl) rfl rfl (by (try simp only [List.map_toArray, List.map_cons, List.map_nil]); first | done | rfl) ?_
      with_reducible refine (bytes_trimRightByte.calls k P0_ _ _ l0 0 t _ ?side1 A15.out).mono ?_
      (case side1 => exact HO_0.out)
      rintro e w19 ⟨v102, rfl, ho0, hb⟩
      refine ⟨_, rfl, ?_⟩
      have HS18 := Aside0.mk HB.out.size
      have n1_ := Aside0.mk (below_step HB.out hb)
      have HO1 := Aside0.mk ho0
      have HS19 := Aside0.mk hb.size
      clear HB HO_0 hb ho0
      have HB := n1_
      clear n1_
      obtain ⟨Ao20, co20, eo20⟩ := Kd.V_slice HO1.out
      (first | subst eo20 | (injection eo20 with f1_ f2_ f3_; have f4_ := f1_.symm; have f5_ := f3_.symm; clear f1_ f2_ f3_; subst f4_; subst f5_))
      refine hK.out _ _ trivial (fun hHeld => ?_)
      clear hK K
      refine norm_ (a' := ?_) ?_ ?_
      rotate_left
      · show Act.put _ (some 24) _ = _
        simp only [Act.put, List.setIfInBounds_toArray, List.set_cons_zero, List.set_cons_succ, i64_w, i32_w]
        rfl
      refine one_ (i := 6) (N := some 27) #[true, true, true, true, true, true, true, false] rfl rfl (one_of HT_.out (by kernel_rfl)) (by decide) (fun K hK => ?_)
      refine goes_ Tryd.func56 (by kernel_rfl) rfl #[.slice Ao20 t.length co20, .int .u8 0] (by rfl) rfl rfl (by (try simp only [List.map_toArray, List.map_cons, List.map_nil]); first | done | rfl) ?_
      with_reducible refine (bytes_trimLeftByte.calls k (fun k_ => (P0_ k_ ∨ w18.heap.size ≤ k_)) _ _ t 0 r _ ?side1 A17.out).mono ?_
      (case side1 => exact HO1.out)
      rintro e w21 ⟨v105, rfl, ho0, hb⟩
      refine ⟨_, rfl, ?_⟩
      have n1_ := Aside0.mk (below_step HB.out hb)
      have HO2 := Aside0.mk ho0
      clear HB HO1 hb ho0
      have HB := n1_
      clear n1_
      refine hK.out _ _ trivial (fun hHeld => ?_)
      clear hK K
      refine norm_ (a' := ?_) ?_ ?_
      rotate_left
      · show Act.put _ (some 27) _ = _
        simp only [Act.put, List.setIfInBounds_toArray, List.set_cons_zero, List.set_cons_succ, i64_w, i32_w]
        rfl
      refine pure_ (i := 7) (N := some 4) (v := ?_) (a' := ?_) #[true, true, true, true, true, true, true, true] rfl rfl (any_of HT_.out (by kernel_rfl)) (fun _ _ _ h => h) (Or.inl ⟨by rfl, ?_⟩) ?_ ?_
      rotate_left
      · intro w'
        go_simp
        with_reducible rfl
      rotate_left
      · simp only [Act.put, List.setIfInBounds_toArray, List.set_cons_zero, List.set_cons_succ, i64_w, i32_w]
        rfl
      refine done_ (done_of HT_.out (by kernel_rfl)) ?_
      try go_wp2
      go_ret
      refine ⟨_, rfl, Kd.V_mono HO2.out (fun k_ hk => ?_), HB.out⟩
      have h1 := HS18.out
      have h2 := HS19.out
      rcases hk with (hk | hk) | hk
      · exact .inl hk
      · exact .inr (by omega)
      · exact .inr (by omega)
  · rw [if_neg hz] at h
    cases h
end Go.Proofs.YtnfgiamdmfkcjaaDoor.H
