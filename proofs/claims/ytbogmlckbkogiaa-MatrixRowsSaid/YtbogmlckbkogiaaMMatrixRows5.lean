/- The reference's Rank, part two: the walk. Conditions: a matrix of bytes that may be. -/
import Derived.Test.YtbogmlckbkogiaaMMatrixRows2
import Derived.Test.YtbogmlckbkogiaaMMatrixRows4
import Derived.Test.YtbogmlckbkogiaaMMatrixRows1
import Derived.StillTailTactics
import Derived.BigQuiet
import Derived.BigRegion
import Derived.Test.YtbogmlckbkogiaaMMatrixRows3
namespace Go.Proofs.Ytbogmlckbkogiaa.H
open Go.RowKit Go.Proofs.YtbogmlckbkogiaaW.PrintWords Go.Proofs.YtbogmlckbkogiaaW.PrintLast Go.Proofs.Ytbogmlckbkogiaa.Leaf Go.Proofs.Ytbogmlckbkogiaa.Gf Go.Proofs.Ytbogmlckbkogiaa.Red Go.Proofs.Ytbogmlckbkogiaa.P
set_option linter.unusedVariables false
set_option linter.unusedSimpArgs false
def mooringref02_Rank.f (l0 : List (List Int)) : Option Int := if l0.all byteRow = true ∧ mayB (unM l0) = true then some (((redF (row (unM l0) 0).length 0 0 (unM l0) (zeroM (unM l0).length 1)).1 : Nat) : Int) else none
theorem take_oM (A : Mat) (i : Nat) (hi : i < A.length) : oM (A.take i) ++ [ofL (row A i)] = oM (A.take (i + 1)) := by
  rw [oM_one, oM_append, List.take_succ_eq_append_getElem hi]
  unfold row
  rw [List.getD_eq_getElem?_getD, List.getElem?_eq_getElem hi]
  rfl
theorem rkF_start {n m : Nat} {A : Mat} (hn : 0 < n) (hA : Reg A n m) : rkF m 0 0 A = (redF m 0 0 A (zeroM n 1)).1 := rkF_eq m 0 0 A A _ (by omega) hn hA hA (zeroM_reg n 1) (fun _ _ _ => rfl)
/-- Where the search stands. -/
def Found (A : Mat) (c d i : Nat) (v : Value) : Prop := (v = .int .i64 (-1) ∧ ∀ j, d ≤ j → j < i → el A j c = 0#8) ∨ ∃ t : Nat, v = .int .i64 (t : Int) ∧ d ≤ t ∧ t < i ∧ el A t c ≠ 0#8 ∧ ∀ j, d ≤ j → j < t → el A j c = 0#8
theorem pivot_none {n m : Nat} {A : Mat} (hA : Reg A n m) {d c : Nat} (h : ∀ i, d ≤ i → i < n → el A i c = 0#8) : pivot A d c < 0 := by
  apply Classical.byContradiction
  intro hn
  obtain ⟨t, _, h2, h3, _⟩ := pivot_hit hA hn
  exact h3 (h _ (by omega) h2)
theorem pivot_some {n m : Nat} {A : Mat} (hA : Reg A n m) {d c t : Nat} (hd : d ≤ t) (ht : t < n) (hx : el A t c ≠ 0#8) (h : ∀ i, d ≤ i → i < t → el A i c = 0#8) : pivot A d c = ((t - d : Nat) : Int) := by
  have hn : ¬ pivot A d c < 0 := fun hn => hx (pivot_miss hA hn t hd ht)
  obtain ⟨s, h1, h2, h3, h4⟩ := pivot_hit hA hn
  rw [h1]
  by_cases e : d + s < t
  · exact absurd (h _ (by omega) e) h3
  · by_cases e2 : t < d + s
    · exact absurd (h4 t hd e2) hx
    · congr 1
      omega
def rank_T : Bool × List (List Nat × List Nat) := (true, [([], []), ([], []), ([0, 1], [0, 1]), ([2], [2]), ([], []), ([], []), ([], []), ([5, 6], [5, 6]), ([7], [7]), ([], []), ([8, 9], [8, 9]), ([10], [10]), ([], []), ([], []), ([], []), ([13, 14], [13, 14]), ([15], [15]), ([], []), ([16, 17], [16, 17]), ([18], [18]), ([12, 19], [12, 19]), ([11, 20], [11, 20]), ([3, 4, 0, 1, 2, 3, 4, 5, 6, 7, 8, 9, 10, 11, 12, 13, 14, 15, 16, 17, 18, 19, 20, 21], [3, 4]), ([22, 21, 20, 0, 1, 2, 3, 4, 5, 6, 7, 8, 9, 10, 11, 12, 13, 14, 15, 16, 17, 18, 19, 20, 21], [21, 22])])
def rank_B : List Nat := [0, 0, 3, 7, 0, 0, 0, 96, 224, 0, 992, 2016, 0, 0, 0, 24576, 57344, 0, 253952, 516096, 1044480, 2097120, 4194303, 8388607]
theorem rank_tab25 : rtab .any (opsOf Try.f54 25) = rank_T := by kernel_rfl
theorem rank_bits25 : waitsOk rank_T.2 rank_B = true := by kernel_rfl
set_option maxHeartbeats 8000000 in
set_option maxRecDepth 100000 in
theorem mooringref02_Rank.calls (A0 : Option Addr) (c0 : Nat) (l0 : List (List Int)) (r : Int) (w : World) (hr0 : Kd.C (Kd.slice 5 (Kd.int .u8)) w A0 l0.length l0) (hc0 : l0.length ≤ c0) (h : mooringref02_Rank.f l0 = some r) :
    Calls Try.prog 54 #[.slice A0 l0.length c0] w fun e w' => e = .returned (.int .i64 r) ∧ Below w.heap.size w w' := by
  unfold mooringref02_Rank.f at h
  by_cases hby : l0.all byteRow = true ∧ mayB (unM l0) = true
  · rw [if_pos hby] at h
    obtain ⟨A, hA⟩ : ∃ A, A = unM l0 := ⟨_, rfl⟩
    have hl0 : l0 = oM A := by rw [hA]; exact (oM_unM l0 hby.1).symm
    obtain ⟨hreg, p1, p2, p3, p4⟩ := mayB_reg hby.2
    rw [← hA] at h hreg p1 p2 p3 p4
    clear hA hby
    subst hl0
    obtain rfl := Option.some.inj h
    rw [← rkF_start p1 hreg]
    clear h
    have hlen : (oM A).length = A.length := oM_length A
    generalize hn : A.length = n at *
    generalize hmm : (row A 0).length = m at *
    obtain ⟨As, cs, hcell, hrows⟩ := rows_vals hr0
    obtain ⟨ad, rfl, hce⟩ := hcell (by omega)
    have hce' : Aside0 (∀ i, i < n → w.cell? (ad.add i) = some (.slice (As i) m (cs i)) ∧ m ≤ cs i ∧ Kd.C (Kd.int .u8) w (As i) (ofL (row A i)).length (ofL (row A i))) := ⟨fun i hi => by
      have h1 := hce i (by omega)
      have h2 := hrows i (by omega)
      have e : (oM A).getD i [] = ofL (row A i) := map_getD A i
      rw [e, ofL_length, hreg.2 i hi] at h1 h2
      rw [ofL_length, hreg.2 i hi]
      exact ⟨h1, h2.1, h2.2⟩⟩
    rw [hlen]
    rw [hlen] at hc0
    have HREG := Aside0.mk hreg
    have HN := Aside0.mk hn
    clear hce hrows hcell hr0 hreg hn hmm hlen
    have HB := Aside0.mk (Below.refl w.heap.size w)
    go_enter Try.func54, Try.ntmps54
    go_wp2_with (first | ((with_reducible refine gate_dst (N := 13) rfl ?_); refine Kd.S_lit (Kd.slice 5 (Kd.int .u8)) _ 22 ?hg (N := 13) ?hd (xs := ([] : List (List Int))) (inner := []) (ok := fun _ => True) (okp := fun _ => True) ?hr ?hp (fun _ hk => hk) trivial (Below.refl _ _) (Nat.le_refl _) (by simp) ?_; (case hd => rfl); (case hg => rfl); (case hr => first | (go_simp; done) | (go_simp; rfl)); (case hp => exact (Reps.none _ _)); intro v102 w2 ho3 hb hg_ hnew_; clear hg_ hnew_; have HS0 := Aside0.mk ho3; have HB2 := Aside0.mk (below_step HB.out hb); clear HB; have HB := HB2; clear HB2 hb ho3))
    go_loopg [3, 4] n (fun gg v3 v4 w' => ∃ i : Nat, i + gg = n ∧ v4 = .int .i64 (i : Int) ∧ Aside0 (Kd.S (Kd.slice 5 (Kd.int .u8)) 22 w' w.heap.size (fun _ => True) v3 (oM (A.take i))) ∧ Aside0 (Below w.heap.size w w'))
    case atStart => exact ⟨0, Nat.zero_add _, rfl, HS0, HB⟩
    case round =>
      clear HS0 HB
      obtain ⟨i, hig, rfl, HS, HB⟩ := hrel
      by_cases hi : i < n
      · have hi' : (i : Int) < (n : Int) := by omega
        have hi0 : (0 : Int) ≤ (i : Int) := by omega
        obtain ⟨hx, hmc, hC⟩ := hce'.out i hi
        have hx2 := pw_cell_below HB.out hx
        have HCi := Aside0.mk hC
        have hll : (ofL (row A i)).length = m := by rw [ofL_length]; exact HREG.out.2 i hi
        have HLL := Aside0.mk hll
        clear hx hC hll
        have HTK := Aside0.mk (take_oM A i (by rw [HN.out]; exact hi))
        have HTL : Aside0 ((oM (A.take i)).length < 5864062014805) := ⟨by rw [oM_length, List.length_take, HN.out]; omega⟩
        replace hx2 : wr.cell? (ad.add i) = some (.slice (As i) (ofL (row A i)).length (cs i)) := by rw [HLL.out]; exact hx2
        go_wp2_with (first
          | ((with_reducible refine gate_dst (N := 21) rfl ?_); refine Kd.R_lit (Kd.int .u8) _ 5 ?hg (N := 21) ?hd (xs := ([] : List Int)) (inner := []) (ok := fun _ => True) (okp := fun _ => True) ?hr ?hp (fun _ hk => hk) trivial (Below.refl _ _) (Nat.le_refl _) (by simp) ?_; (case hd => rfl); (case hg => rfl); (case hr => first | (go_simp; done) | (go_simp; rfl)); (case hp => exact (Reps.none _ _)); intro v21 w3 ho3 hb hg_ hnew_; clear hg_ hnew_; have n0_ := Aside0.mk (Kd.S_elder' HS.out (Kd.R_base ho3) hb); have n1_ := Aside0.mk (Kd.R_lower ho3 (below_size HB.out)); have n2_ := Aside0.mk (below_step HB.out hb); have n3_ := pw_cell_below hb hx2; clear HS HB hx2; have HS := n0_; have HR := n1_; have HB := n2_; have hx2 := n3_; clear n0_ n1_ n2_ n3_ hb ho3)
          | ((with_reducible refine gate_builtin (b := .append) (xs := #[.tmp 21, .tmp 25]) rfl ?_); at_builtin; refine Kd.R_append_rows (Kd.int .u8) (w0 := w) w.heap.size rfl (.tmp 21) (.tmp 25) 22 5 (.int .u8 0) 1 rfl Try.underlying22 Go.Proofs.Ytbogmlckbkogiaa.P.info5 rfl (by decide) (by omega) v21 [] (ofL (row A i)) _ _ _ (fun _ => True) (fun _ => False) rfl rfl ?aO ?aR (fun _ _ h => h) (fun _ h => h.elim) ?aF ?aB ?aS ?aL ?_; (case aR => exact (Kd.C_below HCi.out HB.out)); (case aB => exact HB.out); (case aF => exact (fun _ _ => trivial)); (case aO => exact HR.out); (case aS => exact below_size HB.out); (case aL => have := HLL.out; simp only [List.length_nil]; omega); intro v26 w5 ho hb hg hat; rw [List.nil_append] at ho; have n0_ := Aside0.mk (Kd.S_after HS.out hg hat); have n1_ := Aside0.mk ho; have n2_ := Aside0.mk hb; clear HS HR HB hx2; have HS := n0_; have HR := n1_; have HB := n2_; clear n0_ n1_ n2_ ho hb hg hat; obtain ⟨Ao, co, eo⟩ := Kd.R_slice HR.out; subst eo)
          | ((with_reducible refine gate_builtin (b := .append) (xs := #[.tmp 20, .tmp 27]) rfl ?_); at_builtin; refine Kd.S_append (Kd.slice 5 (Kd.int .u8)) (w0 := w) w.heap.size rfl (.tmp 20) (.tmp 27) 51 22 (.slice none 0 0) 24 rfl Try.underlying51 Go.Proofs.Ytbogmlckbkogiaa.P.info22 rfl (by decide) (by omega) u3 (oM (A.take i)) (ofL (row A i)) [.slice Ao (ofL (row A i)).length co] (fun _ => True) (fun k_ => some k_ = (.slice Ao (ofL (row A i)).length co : Value).ownBlock) rfl rfl ?aP (fun k_ hk_ => ((Kd.R_mono (ok' := fun k_ => ((fun _ => True)) k_ ∧ some k_ ≠ (u3 : Value).ownBlock) (Kd.R_apart' (HR.out) (Kd.S_typed HS.out) (by decide)) (fun k_ hk => ⟨trivial, hk.2⟩))).1 k_ hk_.symm) ?aF ?aO ?aB ?aS ?aL ?_; (case aP => exact Kd.M_row (Kd.R_mono (Kd.R_tight rfl (Kd.R_mono (ok' := fun k_ => ((fun _ => True)) k_ ∧ some k_ ≠ (u3 : Value).ownBlock) (Kd.R_apart' (HR.out) (Kd.S_typed HS.out) (by decide)) (fun k_ hk => ⟨trivial, hk.2⟩))) (fun _ h_ => h_))); (case aB => exact HB.out); (case aF => exact (fun _ _ => trivial)); (case aO => exact (Kd.S_mono HS.out (fun k_ hk => ⟨trivial, fun e_ => hk.2 e_⟩))); (case aS => exact below_size HB.out); (case aL => have := HTL.out; omega); intro v28 w6 ho hb hg hat; rw [HTK.out] at ho; have n0_ := Aside0.mk ho; have n1_ := Aside0.mk hb; clear HS HR HB; have HS := n0_; have HB := n1_; clear n0_ n1_ ho hb hg hat))
        go_roundg (n - (i + 1))
        case measure => omega
        case rel => exact ⟨i + 1, by omega, by go_num, HS, HB⟩
      · have hi' : ¬ (i : Int) < (n : Int) := by omega
        have hin : i = n := by omega
        have HSA : Aside0 (Kd.S (Kd.slice 5 (Kd.int .u8)) 22 wr w.heap.size (fun _ => True) u3 (A.map ofL)) := ⟨by
          have := HS.out
          rw [hin, show n = A.length from HN.out.symm, List.take_length] at this
          exact this⟩
        obtain ⟨gb, cb, rfl, hS1⟩ := S1.of_S HSA.out HREG.out p1 p3
        have H1 := Aside0.mk hS1
        clear HS HSA hS1 hin hig
        go_wp2
        go_loopg [5, 6] m (fun gg v5 v6 w' => ∃ (dd kk : Nat) (A' : Mat), kk + gg = m ∧ dd ≤ n ∧ v5 = .int .i64 (dd : Int) ∧ v6 = .int .i64 (kk : Int) ∧ Aside0 (rkF gg kk dd A' = rkF m 0 0 A) ∧ Aside0 (S1 w' w.heap.size gb cb n m A') ∧ Aside0 (Below w.heap.size w w'))
        case atStart => exact ⟨0, 0, A, Nat.zero_add _, Nat.zero_le _, rfl, rfl, ⟨rfl⟩, H1, HB⟩
        case round =>
          clear H1 HB
          obtain ⟨dd, kk, A', hkg, hdn, rfl, rfl, HF, H1, HB⟩ := hrel
          have hx0 : wr.cell? ad = some (.slice (As 0) m (cs 0)) := by
            have := pw_cell_below HB.out (hce'.out 0 p1).1
            rwa [Addr.add_zero'] at this
          have hn0 : (0 : Int) < (n : Int) := by omega
          by_cases hk : kk < m
          · have hk' : (kk : Int) < (m : Int) := by omega
            have hF2 : rkF ((m - (kk + 1)) + 1) kk dd A' = rkF m 0 0 A := by rw [show (m - (kk + 1)) + 1 = gk by omega]; exact HF.out
            simp only [rkF] at hF2
            have HF2 := Aside0.mk hF2
            clear hF2 HF
            go_wp2
            go_loopg [7, 8] (n - dd) (fun gg v7 v8 w' => ∃ (i : Nat), dd ≤ i ∧ i + gg = n ∧ v8 = .int .i64 (i : Int) ∧ Aside0 (Found A' kk dd i v7) ∧ w' = wr)
            case atStart => exact ⟨dd, Nat.le_refl _, by omega, rfl, ⟨.inl ⟨rfl, fun j h1 h2 => by omega⟩⟩, rfl⟩
            case round =>
              obtain ⟨i, hdi, hig, rfl, HFd, rfl⟩ := hrel
              by_cases hi : i < n
              · have hi' : (i : Int) < (n : Int) := by omega
                have hi0 : (0 : Int) ≤ (i : Int) := by omega
                have hk0 : (0 : Int) ≤ (kk : Int) := by omega
                obtain ⟨bi, ci, hci, hfi, hri⟩ := H1.out.read i hi
                have hxc := (hri.cell kk (by rw [ofL_length, H1.out.reg.1.2 i hi]; exact hk)).1
                rw [rd_ofL] at hxc
                clear hri
                rcases HFd.out with ⟨rfl, hz⟩ | ⟨t, rfl, h1, h2, h3, h4⟩
                · have HZ := Aside0.mk hz
                  clear hz HFd
                  by_cases hx : el A' i kk = 0#8
                  · have hxz : ofB (at0 (row A' i) kk) = 0 := (ofB_eq_zero _).2 hx
                    have HX := Aside0.mk hx
                    rw [hxz] at hxc
                    clear hx hxz
                    go_wp2
                    go_roundg (n - (i + 1))
                    case measure => omega
                    case rel => exact ⟨i + 1, by omega, by omega, by go_num, ⟨.inl ⟨rfl, fun j h1 h2 => by
                      by_cases e : j = i
                      · rw [e]; exact HX.out
                      · exact HZ.out j h1 (by omega)⟩⟩, rfl⟩
                  · have hxz : ofB (at0 (row A' i) kk) ≠ 0 := fun h => hx ((ofB_eq_zero _).1 h)
                    have HX := Aside0.mk hx
                    have t4 : (ofB (at0 (row A' i) kk) != 0) = true := by simp [hxz]
                    have t5 : (ofB (at0 (row A' i) kk) == 0) = false := by simp [hxz]
                    generalize ofB (at0 (row A' i) kk) = x at *
                    clear hx hxz
                    go_wp2
                    go_roundg (n - (i + 1))
                    case measure => omega
                    case rel => exact ⟨i + 1, by omega, by omega, by go_num, ⟨.inr ⟨i, rfl, by omega, by omega, HX.out, HZ.out⟩⟩, rfl⟩
                · have HT := Aside0.mk (show dd ≤ t ∧ t < i ∧ el A' t kk ≠ 0#8 ∧ ∀ j, dd ≤ j → j < t → el A' j kk = 0#8 from ⟨h1, h2, h3, h4⟩)
                  have t6 : decide ((t : Int) < 0) = false := decide_eq_false (by omega)
                  clear h1 h2 h3 h4 HFd
                  go_wp2
                  go_roundg (n - (i + 1))
                  case measure => omega
                  case rel => exact ⟨i + 1, by omega, by omega, by go_num, ⟨.inr ⟨t, rfl, HT.out.1, by have := HT.out.2.1; omega, HT.out.2.2.1, HT.out.2.2.2⟩⟩, rfl⟩
              · have hi' : ¬ (i : Int) < (n : Int) := by omega
                have hin : i = n := by omega
                rw [hin] at HFd
                clear hin hig hdi
                rcases HFd.out with ⟨rfl, hz⟩ | ⟨t, rfl, h1, h2, h3, h4⟩
                · have hp := pivot_none H1.out.reg.1 hz
                  have HF3 : Aside0 (rkF (m - (kk + 1)) (kk + 1) dd A' = rkF m 0 0 A) := ⟨by have := HF2.out; rw [if_pos hp] at this; exact this⟩
                  clear hz HFd hp HF2
                  go_wp2
                  go_roundg (m - (kk + 1))
                  case measure => omega
                  case rel => exact ⟨dd, kk + 1, A', by omega, hdn, rfl, by go_num, HF3, H1, HB⟩
                · have hp := pivot_some H1.out.reg.1 h1 h2 h3 h4
                  have HF3 : Aside0 (rkF (m - (kk + 1)) (kk + 1) (dd + 1) (rkE kk dd (n - (dd + 1)) (dd + 1) (swapM A' t dd)) = rkF m 0 0 A) := ⟨by
                    have := HF2.out
                    rw [hp, if_neg (by omega), Int.toNat_natCast, H1.out.reg.1.1, show t - dd + dd = t by omega] at this
                    exact this⟩
                  have HX := Aside0.mk h3
                  have hd : dd < n := by omega
                  have t6 : decide ((t : Int) < 0) = false := decide_eq_false (by omega)
                  clear h3 h4 HFd hp HF2
                  go_wp2
                  have hi1 : (0 : Int) ≤ (t : Int) := by omega
                  have hi2 : (t : Int) < (n : Int) := by omega
                  have hi3 : (0 : Int) ≤ (dd : Int) := by omega
                  have hi4 : (dd : Int) < (n : Int) := by omega
                  obtain ⟨bt, ct, hct, hft, hrt⟩ := H1.out.read t h2
                  obtain ⟨bd, cd, hcd, hfd, hrd⟩ := H1.out.read dd hd
                  clear hrt hrd
                  obtain ⟨v1, hv1⟩ := cell?_setCell_some (w := wr) (p := ⟨gb, t, none⟩) (x := .slice (some ⟨bd, 0, none⟩) m cd) (q := ⟨gb, dd, none⟩) (v := .slice (some ⟨bd, 0, none⟩) m cd) hcd
                  have hv1f : (wr.setCell ⟨gb, t, none⟩ (.slice (some ⟨bd, 0, none⟩) m cd)).frozen? ⟨gb, dd, none⟩ = false := by rw [World.frozen?_setCell]; exact hfd
                  go_region
                  obtain ⟨hS1, hB1⟩ := H1.out.exch HB.out h2 hd hct hcd
                  have H2 := Aside0.mk hS1
                  have HB2 := Aside0.mk hB1
                  clear H1 HB hv1 hv1f hct hft hcd hfd hS1 hB1 hi1 hi2 hx0
                  generalize ((wr.setCell ⟨gb, t, none⟩ (.slice (some ⟨bd, 0, none⟩) m cd)).setCell ⟨gb, dd, none⟩ (.slice (some ⟨bt, 0, none⟩) m ct)).drew = w2 at *
                  obtain ⟨A1, hA1⟩ : ∃ A1, A1 = swapM A' t dd := ⟨_, rfl⟩
                  rw [← hA1] at HF3 H2
                  clear hA1
                  have hd9 : IntKind.i64.wrap ((dd : Int) + 1) = (dd : Int) + 1 := IntWalk.i64_in _ (by omega)
                  go_wp2
                  go_loopg [9] (n - (dd + 1)) (fun gg v9 w' => ∃ (i : Nat) (Ai : Mat), dd + 1 ≤ i ∧ i + gg = n ∧ v9 = .int .i64 (i : Int) ∧ Aside0 (rkE kk dd gg i Ai = rkE kk dd (n - (dd + 1)) (dd + 1) A1) ∧ Aside0 (S1 w' w.heap.size gb cb n m Ai) ∧ Aside0 (Below w.heap.size w w'))
                  case atStart => exact ⟨dd + 1, A1, Nat.le_refl _, by omega, by go_num, ⟨rfl⟩, H2, HB2⟩
                  case round =>
                    clear H2 HB2
                    obtain ⟨i, Ai, hdi, hig, rfl, HE, H1, HB⟩ := hrel
                    by_cases hi : i < n
                    · have hi' : (i : Int) < (n : Int) := by omega
                      have hi0 : (0 : Int) ≤ (i : Int) := by omega
                      have hk0 : (0 : Int) ≤ (kk : Int) := by omega
                      have hAl : (row Ai i).length = m := H1.out.reg.1.2 i hi
                      have hAd : (row Ai dd).length = m := H1.out.reg.1.2 dd hd
                      have HE2 : Aside0 (rkE kk dd (n - (i + 1)) (i + 1) (Ai.set i (amG (mul (el Ai i kk) (inv (el Ai dd kk))) (row Ai dd) m 0 (row Ai i))) = rkE kk dd (n - (dd + 1)) (dd + 1) A1) := ⟨by
                        have h := HE.out
                        rw [show gk = (n - (i + 1)) + 1 by omega] at h
                        simp only [rkE] at h
                        rw [hAl] at h
                        exact h⟩
                      clear HE
                      obtain ⟨bi, ci, hci, hfi, hri⟩ := H1.out.read i hi
                      obtain ⟨bd, cd, hcd, hfd, hrd⟩ := H1.out.read dd hd
                      have hxc := (hri.cell kk (by rw [ofL_length, hAl]; exact hk)).1
                      have hzc := (hrd.cell kk (by rw [ofL_length, hAd]; exact hk)).1
                      rw [rd_ofL] at hxc hzc
                      have HRI : Aside0 (Ai.length = n ∧ (row Ai i).length = m ∧ (row Ai dd).length = m) := ⟨⟨H1.out.reg.1.1, hAl, hAd⟩⟩
                      clear hri hrd hfi hfd hAl hAd
                      have hdiv : Aside0 (∀ W, Calls Try.prog 37 #[.int .u8 (ofB (at0 (row Ai i) kk)), .int .u8 (ofB (at0 (row Ai dd) kk))] W fun e w' => e = .returned (.tuple #[.int .u8 (ofB (mul (el Ai i kk) (inv (el Ai dd kk)))), .bool (decide (at0 (row Ai dd) kk ≠ 0#8))]) ∧ Drawn0 W w') := ⟨fun W => by
                        obtain ⟨f, hf⟩ := (refDiv (at0 (row Ai i) kk) (at0 (row Ai dd) kk)).rounds
                        exact mooringref01_Div.calls f _ _ _ _ W hf⟩
                      obtain ⟨Q, hQ⟩ : ∃ Q, Q = mul (el Ai i kk) (inv (el Ai dd kk)) := ⟨_, rfl⟩
                      rw [← hQ] at HE2 hdiv
                      clear hQ
                      generalize decide (at0 (row Ai dd) kk ≠ 0#8) = bb at hdiv
                      generalize ofB (at0 (row Ai i) kk) = x at *
                      generalize ofB (at0 (row Ai dd) kk) = z at *
                      obtain ⟨qv, hqv⟩ : ∃ qv, qv = ofB Q := ⟨_, rfl⟩
                      rw [← hqv] at hdiv
                      have HQV := Aside0.mk hqv
                      clear hqv
                      go_wp2
                      go_quiet (first | (go_at_call 37; (with_reducible refine (hdiv.out _).mono ?_); rintro e w' ⟨rfl, ⟨nd, rfl⟩⟩; (try first | exact ⟨rfl, _, World.drewN_drewN _ _ _⟩ | exact ⟨rfl, _, Eq.trans (World.drewN_drewN _ _ _) (congrArg (World.drewN _) (Nat.add_assoc _ _ _))⟩)))
                      have H5 : Aside0 (S1 (wr.drewN nq) w.heap.size gb cb n m Ai) := ⟨H1.out.below (pw_below_drewN (Below.refl _ _) nq)⟩
                      have HB5 : Aside0 (Below w.heap.size w (wr.drewN nq)) := ⟨pw_below_drewN HB.out nq⟩
                      clear H1 HB hci hcd hxc hzc hdiv
                      generalize wr.drewN nq = w5 at *
                      go_wp2
                      go_loopg [12] m (fun gg v12 w' => ∃ (j : Nat) (r : List B), j + gg = m ∧ v12 = .int .i64 (j : Int) ∧ r.length = m ∧ Aside0 (amG Q (row Ai dd) gg j r = amG Q (row Ai dd) m 0 (row Ai i)) ∧ Aside0 (S1 w' w.heap.size gb cb n m (Ai.set i r)) ∧ Aside0 (Below w.heap.size w w'))
                      case atStart => exact ⟨0, row Ai i, Nat.zero_add _, rfl, HRI.out.2.1, ⟨rfl⟩, ⟨by rw [set_self _ _ (by rw [HRI.out.1]; exact hi)]; exact H5.out⟩, HB5⟩
                      case round =>
                        clear H5 HB5
                        obtain ⟨j, r, hjg, rfl, hrl, HAG, H1, HB⟩ := hrel
                        have hri' : row (Ai.set i r) i = r := row_set_self _ _ _ (by rw [HRI.out.1]; exact hi)
                        have hrd' : row (Ai.set i r) dd = row Ai dd := by rw [row_set _ _ _ _ (by rw [HRI.out.1]; exact hi), if_neg (by omega)]
                        obtain ⟨bi, ci, hci, hfi, hri⟩ := H1.out.read i hi
                        by_cases hj : j < m
                        · have hj' : (j : Int) < (m : Int) := by omega
                          have hj0 : (0 : Int) ≤ (j : Int) := by omega
                          obtain ⟨bd, cd, hcd, hfd, hrd⟩ := H1.out.read dd hd
                          rw [hri'] at hri
                          rw [hrd'] at hrd
                          have hx := (hri.cell j (by rw [ofL_length, hrl]; exact hj)).1
                          have hz := (hrd.cell j (by rw [ofL_length, HRI.out.2.2]; exact hj)).1
                          rw [rd_ofL] at hx hz
                          have HFZ : Aside0 (∀ W, S1 W w.heap.size gb cb n m (Ai.set i r) → True ∧ (W.cell? ⟨gb, i, none⟩ = some (.slice (some ⟨bi, 0, none⟩) m ci) → W.frozen? ⟨bi, j, none⟩ = false)) := ⟨fun W hW => ⟨trivial, fun hc => by
                            have := hW.look hi hc
                            rw [hri'] at this
                            exact (this.cell j (by rw [ofL_length, hrl]; exact hj)).2⟩⟩
                          have hmul : Aside0 (∀ W, Calls Try.prog 38 #[.int .u8 qv, .int .u8 (ofB (at0 (row Ai dd) j))] W fun e w' => e = .returned (.int .u8 (ofB (mul Q (at0 (row Ai dd) j)))) ∧ Drawn0 W w') := ⟨fun W => by
                            rw [HQV.out]
                            obtain ⟨f, hf⟩ := (refMul Q (at0 (row Ai dd) j)).rounds
                            exact mooringref01_Mul.calls f _ _ _ W hf⟩
                          have hxr := xor_ofB (at0 r j) (mul Q (at0 (row Ai dd) j))
                          have HRI' := Aside0.mk hri'
                          clear hri hrd hfi hfd hri' hrd'
                          obtain ⟨y, hy⟩ : ∃ y, y = at0 r j ^^^ mul Q (at0 (row Ai dd) j) := ⟨_, rfl⟩
                          rw [← hy] at hxr
                          have HY := Aside0.mk hy
                          clear hy
                          generalize ofB (at0 r j) = x at *
                          generalize ofB (at0 (row Ai dd) j) = z at *
                          generalize ofB (mul Q (at0 (row Ai dd) j)) = tt at *
                          go_upto_region 25 with (fail)
                          refine start_ (n := 24) (S := (fun w' => w'.cell? ⟨gb, i, none⟩ = some (.slice (some ⟨bi, 0, none⟩) m ci) ∧ w'.cell? ⟨gb, dd, none⟩ = some (.slice (some ⟨bd, 0, none⟩) m cd) ∧ w'.cell? ⟨bi, j, none⟩ = some (.int .u8 x) ∧ w'.cell? ⟨bd, j, none⟩ = some (.int .u8 z))) (ds := [23]) #[false, false, false, false, false, false, false, false, false, false, false, false, false, false, false, false, false, false, false, false, false, false, false, false] (by kernel_rfl) rfl rfl ⟨hci, hcd, hx, hz⟩ (fun hHeld => ?_); refine with_tabW rank_tab25 rank_bits25 (fun HT_ HW_ => ?_)
                          have H5 : Aside0 (S1 wr.drew w.heap.size gb cb n m (Ai.set i r)) := ⟨H1.out.drew⟩
                          have HB5 : Aside0 (Below w.heap.size w wr.drew) := ⟨below_drew HB.out⟩
                          clear H1 HB hci hcd hx hz
                          generalize wr.drew = w6 at H5 HB5 hHeld ⊢
                          refine pure_ (i := 0) (N := some 108) (v := ?_) (a' := ?_) #[true, false, false, false, false, false, false, false, false, false, false, false, false, false, false, false, false, false, false, false, false, false, false, false] rfl rfl (any_of HT_.out (by kernel_rfl)) (fun _ _ _ h => h) (Or.inl ⟨by rfl, ?_⟩) ?_ ?_
                          rotate_left
                          · intro w'
                            go_simp
                            with_reducible rfl
                          rotate_left
                          · simp only [Act.put, List.setIfInBounds_toArray, List.set_cons_zero, List.set_cons_succ, i64_w, i32_w]
                            rfl
                          refine pure_ (i := 1) (N := some 109) (v := ?_) (a' := ?_) #[true, true, false, false, false, false, false, false, false, false, false, false, false, false, false, false, false, false, false, false, false, false, false, false] rfl rfl (any_of HT_.out (by kernel_rfl)) (fun _ _ _ h => h) (Or.inl ⟨by rfl, ?_⟩) ?_ ?_
                          rotate_left
                          · intro w'
                            go_simp
                            with_reducible rfl
                          rotate_left
                          · simp only [Act.put, List.setIfInBounds_toArray, List.set_cons_zero, List.set_cons_succ, i64_w, i32_w]
                            rfl
                          refine pure_ (i := 2) (N := some 110) (v := ?_) (a' := ?_) #[true, true, true, false, false, false, false, false, false, false, false, false, false, false, false, false, false, false, false, false, false, false, false, false] rfl rfl (any_of HT_.out (by kernel_rfl)) (fun _ _ _ h => h) (Or.inl ⟨by rfl, ?_⟩) ?_ ?_
                          rotate_left
                          · intro w'
                            go_simp
                            with_reducible rfl
                          rotate_left
                          · simp only [Act.put, List.setIfInBounds_toArray, List.set_cons_zero, List.set_cons_succ, i64_w, i32_w]
                            rfl
                          refine pure_ (i := 4) (N := some 112) (v := ?_) (a' := ?_) #[true, true, true, false, true, false, false, false, false, false, false, false, false, false, false, false, false, false, false, false, false, false, false, false] rfl rfl (any_of HT_.out (by kernel_rfl)) (fun _ _ _ h => h) (Or.inl ⟨by rfl, ?_⟩) ?_ ?_
                          rotate_left
                          · intro w'
                            go_simp
                            with_reducible rfl
                          rotate_left
                          · simp only [Act.put, List.setIfInBounds_toArray, List.set_cons_zero, List.set_cons_succ, i64_w, i32_w]
                            rfl
                          refine pure_ (i := 5) (N := some 113) (v := ?_) (a' := ?_) #[true, true, true, false, true, true, false, false, false, false, false, false, false, false, false, false, false, false, false, false, false, false, false, false] rfl rfl (any_of HT_.out (by kernel_rfl)) (fun _ _ _ h => h) (Or.inl ⟨by rfl, ?_⟩) ?_ ?_
                          rotate_left
                          · intro w'
                            go_simp
                            with_reducible rfl
                          rotate_left
                          · simp only [Act.put, List.setIfInBounds_toArray, List.set_cons_zero, List.set_cons_succ, i64_w, i32_w]
                            rfl
                          refine pure_ (i := 6) (N := some 114) (v := ?_) (a' := ?_) #[true, true, true, false, true, true, true, false, false, false, false, false, false, false, false, false, false, false, false, false, false, false, false, false] rfl rfl (any_of HT_.out (by kernel_rfl)) (fun _ _ _ h => h) (Or.inl ⟨by rfl, ?_⟩) ?_ ?_
                          rotate_left
                          · intro w'
                            go_simp
                            with_reducible rfl
                          rotate_left
                          · simp only [Act.put, List.setIfInBounds_toArray, List.set_cons_zero, List.set_cons_succ, i64_w, i32_w]
                            rfl
                          refine pure_ (i := 7) (N := some 115) (v := ?_) (a' := ?_) #[true, true, true, false, true, true, true, true, false, false, false, false, false, false, false, false, false, false, false, false, false, false, false, false] rfl rfl (any_of HT_.out (by kernel_rfl)) (fun _ _ _ h => h) (Or.inl ⟨by rfl, ?_⟩) ?_ ?_
                          rotate_left
                          · intro w'
                            go_simp
                            with_reducible rfl
                          rotate_left
                          · simp only [Act.put, List.setIfInBounds_toArray, List.set_cons_zero, List.set_cons_succ, i64_w, i32_w]
                            rfl
                          refine pure_ (i := 9) (N := some 117) (v := ?_) (a' := ?_) #[true, true, true, false, true, true, true, true, false, true, false, false, false, false, false, false, false, false, false, false, false, false, false, false] rfl rfl (any_of HT_.out (by kernel_rfl)) (fun _ _ _ h => h) (Or.inl ⟨by rfl, ?_⟩) ?_ ?_
                          rotate_left
                          · intro w'
                            go_simp
                            with_reducible rfl
                          rotate_left
                          · simp only [Act.put, List.setIfInBounds_toArray, List.set_cons_zero, List.set_cons_succ, i64_w, i32_w]
                            rfl
                          refine pure_ (i := 12) (N := some 120) (v := ?_) (a' := ?_) #[true, true, true, false, true, true, true, true, false, true, false, false, true, false, false, false, false, false, false, false, false, false, false, false] rfl rfl (any_of HT_.out (by kernel_rfl)) (fun _ _ _ h => h) (Or.inl ⟨by rfl, ?_⟩) ?_ ?_
                          rotate_left
                          · intro w'
                            go_simp
                            with_reducible rfl
                          rotate_left
                          · simp only [Act.put, List.setIfInBounds_toArray, List.set_cons_zero, List.set_cons_succ, i64_w, i32_w]
                            rfl
                          refine pure_ (i := 13) (N := some 121) (v := ?_) (a' := ?_) #[true, true, true, false, true, true, true, true, false, true, false, false, true, true, false, false, false, false, false, false, false, false, false, false] rfl rfl (any_of HT_.out (by kernel_rfl)) (fun _ _ _ h => h) (Or.inl ⟨by rfl, ?_⟩) ?_ ?_
                          rotate_left
                          · intro w'
                            go_simp
                            with_reducible rfl
                          rotate_left
                          · simp only [Act.put, List.setIfInBounds_toArray, List.set_cons_zero, List.set_cons_succ, i64_w, i32_w]
                            rfl
                          refine pure_ (i := 14) (N := some 122) (v := ?_) (a' := ?_) #[true, true, true, false, true, true, true, true, false, true, false, false, true, true, true, false, false, false, false, false, false, false, false, false] rfl rfl (any_of HT_.out (by kernel_rfl)) (fun _ _ _ h => h) (Or.inl ⟨by rfl, ?_⟩) ?_ ?_
                          rotate_left
                          · intro w'
                            go_simp
                            with_reducible rfl
                          rotate_left
                          · simp only [Act.put, List.setIfInBounds_toArray, List.set_cons_zero, List.set_cons_succ, i64_w, i32_w]
                            rfl
                          refine pure_ (i := 15) (N := some 123) (v := ?_) (a' := ?_) #[true, true, true, false, true, true, true, true, false, true, false, false, true, true, true, true, false, false, false, false, false, false, false, false] rfl rfl (any_of HT_.out (by kernel_rfl)) (fun _ _ _ h => h) (Or.inl ⟨by rfl, ?_⟩) ?_ ?_
                          rotate_left
                          · intro w'
                            go_simp
                            with_reducible rfl
                          rotate_left
                          · simp only [Act.put, List.setIfInBounds_toArray, List.set_cons_zero, List.set_cons_succ, i64_w, i32_w]
                            rfl
                          refine pure_ (i := 17) (N := some 125) (v := ?_) (a' := ?_) #[true, true, true, false, true, true, true, true, false, true, false, false, true, true, true, true, false, true, false, false, false, false, false, false] rfl rfl (any_of HT_.out (by kernel_rfl)) (fun _ _ _ h => h) (Or.inl ⟨by rfl, ?_⟩) ?_ ?_
                          rotate_left
                          · intro w'
                            go_simp
                            with_reducible rfl
                          rotate_left
                          · simp only [Act.put, List.setIfInBounds_toArray, List.set_cons_zero, List.set_cons_succ, i64_w, i32_w]
                            rfl
                          refine take_ (i := 3) (N := some 111) (v := ?_) (a' := ?_) #[true, true, true, true, true, true, true, true, false, true, false, false, true, true, true, true, false, true, false, false, false, false, false, false] rfl rfl (take_ofW HT_.out HW_.out (by kernel_rfl)) (fun _ _ _ h => h) (Or.inl ⟨by rfl, ?_⟩) hHeld ?_ ?_
                          rotate_left
                          · rintro w' ⟨s0, s1, s2, s3⟩
                            go_simp
                            with_reducible rfl
                          rotate_left
                          · simp only [Act.put, List.setIfInBounds_toArray, List.set_cons_zero, List.set_cons_succ, i64_w, i32_w]
                            rfl
                          refine take_ (i := 8) (N := some 116) (v := ?_) (a' := ?_) #[true, true, true, true, true, true, true, true, true, true, false, false, true, true, true, true, false, true, false, false, false, false, false, false] rfl rfl (take_ofW HT_.out HW_.out (by kernel_rfl)) (fun _ _ _ h => h) (Or.inl ⟨by rfl, ?_⟩) hHeld ?_ ?_
                          rotate_left
                          · rintro w' ⟨s0, s1, s2, s3⟩
                            go_simp
                            with_reducible rfl
                          rotate_left
                          · simp only [Act.put, List.setIfInBounds_toArray, List.set_cons_zero, List.set_cons_succ, i64_w, i32_w]
                            rfl
                          refine pure_ (i := 10) (N := some 118) (v := ?_) (a' := ?_) #[true, true, true, true, true, true, true, true, true, true, true, false, true, true, true, true, false, true, false, false, false, false, false, false] rfl rfl (any_of HT_.out (by kernel_rfl)) (fun _ _ _ h => h) (Or.inl ⟨by rfl, ?_⟩) ?_ ?_
                          rotate_left
                          · intro w'
                            go_simp
                            with_reducible rfl
                          rotate_left
                          · simp only [Act.put, List.setIfInBounds_toArray, List.set_cons_zero, List.set_cons_succ, i64_w, i32_w]
                            rfl
                          refine take_ (i := 11) (N := some 119) (v := ?_) (a' := ?_) #[true, true, true, true, true, true, true, true, true, true, true, true, true, true, true, true, false, true, false, false, false, false, false, false] rfl rfl (take_ofW HT_.out HW_.out (by kernel_rfl)) (fun _ _ _ h => h) (Or.inl ⟨by rfl, ?_⟩) hHeld ?_ ?_
                          rotate_left
                          · rintro w' ⟨s0, s1, s2, s3⟩
                            go_simp
                            with_reducible rfl
                          rotate_left
                          · simp only [Act.put, List.setIfInBounds_toArray, List.set_cons_zero, List.set_cons_succ, i64_w, i32_w]
                            rfl
                          refine take_ (i := 16) (N := some 124) (v := ?_) (a' := ?_) #[true, true, true, true, true, true, true, true, true, true, true, true, true, true, true, true, true, true, false, false, false, false, false, false] rfl rfl (take_ofW HT_.out HW_.out (by kernel_rfl)) (fun _ _ _ h => h) (Or.inl ⟨by rfl, ?_⟩) hHeld ?_ ?_
                          rotate_left
                          · rintro w' ⟨s0, s1, s2, s3⟩
                            go_simp
                            with_reducible rfl
                          rotate_left
                          · simp only [Act.put, List.setIfInBounds_toArray, List.set_cons_zero, List.set_cons_succ, i64_w, i32_w]
                            rfl
                          refine pure_ (i := 18) (N := some 126) (v := ?_) (a' := ?_) #[true, true, true, true, true, true, true, true, true, true, true, true, true, true, true, true, true, true, true, false, false, false, false, false] rfl rfl (any_of HT_.out (by kernel_rfl)) (fun _ _ _ h => h) (Or.inl ⟨by rfl, ?_⟩) ?_ ?_
                          rotate_left
                          · intro w'
                            go_simp
                            with_reducible rfl
                          rotate_left
                          · simp only [Act.put, List.setIfInBounds_toArray, List.set_cons_zero, List.set_cons_succ, i64_w, i32_w]
                            rfl
                          refine take_ (i := 19) (N := some 127) (v := ?_) (a' := ?_) #[true, true, true, true, true, true, true, true, true, true, true, true, true, true, true, true, true, true, true, true, false, false, false, false] rfl rfl (take_ofW HT_.out HW_.out (by kernel_rfl)) (fun _ _ _ h => h) (Or.inl ⟨by rfl, ?_⟩) hHeld ?_ ?_
                          rotate_left
                          · rintro w' ⟨s0, s1, s2, s3⟩
                            go_simp
                            with_reducible rfl
                          rotate_left
                          · simp only [Act.put, List.setIfInBounds_toArray, List.set_cons_zero, List.set_cons_succ, i64_w, i32_w]
                            rfl
                          refine one_ (i := 20) (N := some 128) #[true, true, true, true, true, true, true, true, true, true, true, true, true, true, true, true, true, true, true, true, true, false, false, false] rfl rfl (one_of HT_.out (by kernel_rfl)) (by decide) (fun K hK => ?_)
                          refine goes_ Try.func38 (by kernel_rfl) rfl #[.int .u8 qv, .int .u8 z] (by rfl) rfl rfl (by (try simp only [List.map_toArray, List.map_cons, List.map_nil]); first | done | rfl) ?_
                          refine (hmul.out _).mono ?_
                          rintro e w7 ⟨rfl, ⟨nd, rfl⟩⟩
                          refine ⟨_, rfl, ?_⟩
                          have H6 : Aside0 (S1 (w6.drewN nd) w.heap.size gb cb n m (Ai.set i r)) := ⟨H5.out.below (pw_below_drewN (Below.refl _ _) nd)⟩
                          have HB6 : Aside0 (Below w.heap.size w (w6.drewN nd)) := ⟨pw_below_drewN HB5.out nd⟩
                          have hf6 := (HFZ.out _ H6.out).2 hHeld.1
                          have hx6 : (w6.drewN nd).cell? ⟨bi, j, none⟩ = some (.int .u8 x) := hHeld.2.2.1
                          refine hK.out _ _ ⟨hHeld.1, hHeld.2.1, hHeld.2.2.1, hHeld.2.2.2⟩ (fun hHeld => ?_)
                          clear hK K H5 HB5
                          have HHI := Aside0.mk hHeld.1
                          generalize w6.drewN nd = w8 at H6 HB6 hHeld hf6 hx6 HHI ⊢
                          refine norm_ (a' := ?_) ?_ ?_
                          rotate_left
                          · show Act.put _ (some 128) _ = _
                            simp only [Act.put, List.setIfInBounds_toArray, List.set_cons_zero, List.set_cons_succ, i64_w, i32_w]
                            rfl
                          refine pure_ (i := 21) (N := some 129) (v := ?_) (a' := ?_) #[true, true, true, true, true, true, true, true, true, true, true, true, true, true, true, true, true, true, true, true, true, true, false, false] rfl rfl (any_of HT_.out (by kernel_rfl)) (fun _ _ _ h => h) (Or.inl ⟨by rfl, ?_⟩) ?_ ?_
                          rotate_left
                          · intro w'
                            go_simp
                            with_reducible rfl
                          rotate_left
                          · simp only [Act.put, List.setIfInBounds_toArray, List.set_cons_zero, List.set_cons_succ, i64_w, i32_w]
                            rfl
                          refine pure_ (i := 22) (N := some 130) (v := ?_) (a' := ?_) #[true, true, true, true, true, true, true, true, true, true, true, true, true, true, true, true, true, true, true, true, true, true, true, false] rfl rfl (any_of HT_.out (by kernel_rfl)) (fun _ _ _ h => h) (Or.inl ⟨by rfl, ?_⟩) ?_ ?_
                          rotate_left
                          · intro w'
                            go_simp
                            with_reducible rfl
                          rotate_left
                          · simp only [Act.put, List.setIfInBounds_toArray, List.set_cons_zero, List.set_cons_succ, i64_w, i32_w]
                            rfl
                          refine last_ (i := 23) (N := none) #[true, true, true, true, true, true, true, true, true, true, true, true, true, true, true, true, true, true, true, true, true, true, true, true] rfl rfl (one_of HT_.out (by kernel_rfl)) (by decide) (fun K hK => ?_)
                          refine skip_ (w1 := ?_) (by rfl) rfl ?_ ?_
                          rotate_left
                          · go_simp
                            rfl
                          refine hK.out _ _ ?_
                          clear hK K
                          refine done_ (done_of HT_.out (by kernel_rfl)) ?_
                          clear HT_ HW_ hHeld
                          clear hmul HFZ
                          obtain ⟨hp1, hp2, _⟩ := H6.out.put HB6.out hi HHI.out j y
                          rw [HRI'.out, set_set'] at hp1
                          have HP1 := Aside0.mk hp1
                          have HP2 := Aside0.mk hp2
                          clear hp1 hp2 H6 HB6 hf6 hx6
                          go_wp2
                          go_roundg (m - (j + 1))
                          case measure => omega
                          case rel => exact ⟨j + 1, r.set j y, by omega, by go_num, by rw [List.length_set]; exact hrl, ⟨by rw [← HAG.out, show gk = (m - (j + 1)) + 1 by omega, HY.out]; rfl⟩, HP1, HP2⟩
                        · have hj' : ¬ (j : Int) < (m : Int) := by omega
                          have hg0 : gk = 0 := by omega
                          have HR2 : Aside0 (r = amG Q (row Ai dd) m 0 (row Ai i)) := ⟨by rw [← HAG.out, hg0]; rfl⟩
                          clear HAG hg0 hjg hri
                          go_wp2
                          go_roundg (n - (i + 1))
                          case measure => omega
                          case rel => exact ⟨i + 1, _, by omega, by omega, by go_num, ⟨by rw [HR2.out]; exact HE2.out⟩, H1, HB⟩
                    · have hi' : ¬ (i : Int) < (n : Int) := by omega
                      have hg0 : gk = 0 := by omega
                      have HF4 : Aside0 (rkF (m - (kk + 1)) (kk + 1) (dd + 1) Ai = rkF m 0 0 A) := ⟨by
                        rw [← HF3.out]
                        have h := HE.out
                        rw [hg0] at h
                        rw [show Ai = rkE kk dd (n - (dd + 1)) (dd + 1) A1 from h]⟩
                      clear HE HF3 hg0 hig
                      go_wp2
                      go_roundg (m - (kk + 1))
                      case measure => omega
                      case rel => exact ⟨dd + 1, kk + 1, Ai, by omega, by omega, by go_num, by go_num, HF4, H1, HB⟩
          · have hk' : ¬ (kk : Int) < (m : Int) := by omega
            have hg0 : gk = 0 := by omega
            have HF4 : Aside0 (rkF m 0 0 A = dd) := ⟨by rw [← HF.out, hg0]; rfl⟩
            clear HF hg0 hkg
            go_wp2
            go_ret
            rw [HF4.out]
            exact ⟨rfl, HB.out⟩
  · rw [if_neg hby] at h
    cases h
end Go.Proofs.Ytbogmlckbkogiaa.H

-- Printed by a wrapper (wip/tools/myprint.py) of the kit's print, with hand-written contracts as given leaves.
namespace Go.Proofs.Ytbogmlckbkogiaa.P
open Go.Proofs.Ytbogmlckbkogiaa.Leaf
open Go.RowKit Go.Proofs.YtbogmlckbkogiaaW.PrintWords Go.Proofs.YtbogmlckbkogiaaW.PrintLast Go.Proofs.YtbogmlckbkogiaaW.PrintMore
attribute [local go_sem] max2_int min2_int max_two min_two max_three min_three max_four min_four   -- for this text's walks alone
set_option linter.unusedVariables false
set_option linter.unusedSimpArgs false

/-! ### matrix_Rows: function 69 -/
mutual
def matrix_Rows.j0 : Nat → List (List Int) → List Int → Bool → Option ((List (List Int)) × Int)
  | 0, _, _, _ => none
  | k + 1, x0, x1, x21 => if x21 = true then (some (([] : List (List Int)), 1)) else (matrix_Rows.l0 k x0 ([] : List (List Int)) x1 (x1.length : Int) 0)
def matrix_Rows.l0 : Nat → List (List Int) → List (List Int) → List Int → Int → Int → Option ((List (List Int)) × Int)
  | 0, _, _, _, _, _ => none
  | k + 1, x0, x6, x22, x23, x24 => if x24 < x23 then (if 0 ≤ x24 then (if x24 < (x22.length : Int) then (if (rd x22 x24) < 0 then (some (([] : List (List Int)), 1)) else (if (rd x22 x24) ≥ (x0.length : Int) then (some (([] : List (List Int)), 1)) else (if 0 ≤ (rd x22 x24) then (if (rd x22 x24) < (x0.length : Int) then ((slices_Clone_byte_byte.f (rd_L1 x0 (rd x22 x24))).bind fun t104 => (if x6.length < 5864062014805 then (matrix_Rows.l0 k x0 (x6 ++ [t104]) x22 x23 (wrap64 (x24 + 1))) else (none))) else (none)) else (none)))) else (none)) else (none)) else (some (x6, 0))
end
def matrix_Rows.f (k : Nat) (l0 : List (List Int)) (l1 : List Int) : Option ((List (List Int)) × Int) := (matrix_Check.f k l0).bind fun t101 => (if t101 = 0 then (if (l1.length : Int) = 0 then (matrix_Rows.j0 k l0 l1 true) else (matrix_Rows.j0 k l0 l1 (decide ((l1.length : Int) > 255)))) else (matrix_Rows.j0 k l0 l1 true))
theorem matrix_Rows.mono_l : ∀ k, (∀ y0 y1 y2, LeO (matrix_Rows.j0 k y0 y1 y2) (matrix_Rows.j0 (k + 1) y0 y1 y2)) ∧ (∀ y0 y1 y2 y3 y4, LeO (matrix_Rows.l0 k y0 y1 y2 y3 y4) (matrix_Rows.l0 (k + 1) y0 y1 y2 y3 y4))
  | 0 => ⟨fun _ _ _ r h => by simp [matrix_Rows.j0] at h, fun _ _ _ _ _ r h => by simp [matrix_Rows.l0] at h⟩
  | k + 1 => by
    obtain ⟨ih0, ih1⟩ := matrix_Rows.mono_l k
    refine ⟨?_, ?_⟩
    · intro y0 y1 y2
      unfold matrix_Rows.j0
      repeat' first
      | (with_reducible exact ih0 _ _ _)
      | (with_reducible exact ih1 _ _ _ _ _)
      | (with_reducible exact matrix_Check.mono _ _)
      | (with_reducible exact LeO.refl _)
      | (with_reducible exact LeO.none _)
      | (with_reducible refine LeO.ite ?_ ?_)
      | (with_reducible refine LeO.bind ?_ (fun _ => ?_))
      | exact ih0 _ _ _
      | exact ih1 _ _ _ _ _
      | exact matrix_Check.mono _ _
      | exact LeO.none _
      | refine LeO.ite ?_ ?_
      | refine LeO.bind ?_ (fun _ => ?_)
    · intro y0 y1 y2 y3 y4
      unfold matrix_Rows.l0
      repeat' first
      | (with_reducible exact ih0 _ _ _)
      | (with_reducible exact ih1 _ _ _ _ _)
      | (with_reducible exact matrix_Check.mono _ _)
      | (with_reducible exact LeO.refl _)
      | (with_reducible exact LeO.none _)
      | (with_reducible refine LeO.ite ?_ ?_)
      | (with_reducible refine LeO.bind ?_ (fun _ => ?_))
      | exact ih0 _ _ _
      | exact ih1 _ _ _ _ _
      | exact matrix_Check.mono _ _
      | exact LeO.none _
      | refine LeO.ite ?_ ?_
      | refine LeO.bind ?_ (fun _ => ?_)
theorem matrix_Rows.mono : ∀ a0 a1 k, LeO (matrix_Rows.f k a0 a1) (matrix_Rows.f (k + 1) a0 a1) := by
  intro a0 a1 k
  obtain ⟨ih0, ih1⟩ := matrix_Rows.mono_l k
  unfold matrix_Rows.f
  repeat' first
      | (with_reducible exact ih0 _ _ _)
      | (with_reducible exact ih1 _ _ _ _ _)
      | (with_reducible exact matrix_Check.mono _ _)
      | (with_reducible exact LeO.refl _)
      | (with_reducible exact LeO.none _)
      | (with_reducible refine LeO.ite ?_ ?_)
      | (with_reducible refine LeO.bind ?_ (fun _ => ?_))
      | exact ih0 _ _ _
      | exact ih1 _ _ _ _ _
      | exact matrix_Check.mono _ _
      | exact LeO.none _
      | refine LeO.ite ?_ ?_
      | refine LeO.bind ?_ (fun _ => ?_)
set_option maxHeartbeats 8000000 in
set_option maxRecDepth 100000 in
theorem matrix_Rows.calls (k : Nat) (A0 : Option Addr) (c0 : Nat) (l0 : List (List Int)) (A1 : Option Addr) (c1 : Nat) (l1 : List Int) (r1 : List (List Int)) (r2 : Int) (w : World) (hr0 : Kd.C (Kd.slice 5 (Kd.int .u8)) w A0 l0.length l0) (hc0 : l0.length ≤ c0) (hr1 : Kd.C (Kd.int .i64) w A1 l1.length l1) (hc1 : l1.length ≤ c1) (h : matrix_Rows.f k l0 l1 = some (r1, r2)) :
    Calls Try.prog 69 #[.slice A0 l0.length c0, .slice A1 l1.length c1] w fun e w' => ∃ v0_ : Value, e = .returned (.tuple #[v0_, .int .i64 r2]) ∧ Kd.S (Kd.slice 5 (Kd.int .u8)) 22 w' w.heap.size (fun _ => True) v0_ r1 ∧ Below w.heap.size w w' := by
  have HR0 := Aside0.mk hr0
  have HC0 := Aside0.mk hc0
  clear hr0 hc0
  have HR1 := Aside0.mk hr1
  have HC1 := Aside0.mk hc1
  clear hr1 hc1
  have HB := Aside0.mk (Below.refl w.heap.size w)
  have H : ((matrix_Check.f k l0).bind fun t101 => (if t101 = 0 then (if (l1.length : Int) = 0 then (matrix_Rows.j0 k l0 l1 true) else (matrix_Rows.j0 k l0 l1 (decide ((l1.length : Int) > 255)))) else (matrix_Rows.j0 k l0 l1 true))) = some (r1, r2) := h
  clear h
  have HC3 := Aside0.mk H
  clear H
  go_enter Try.func69, Try.ntmps69
  go_upto_region 1 with (fail)
  go_cut [21] (fun v21 wc => ∃ (kq : Nat) (x21_2 : Bool), v21 = .bool x21_2 ∧ Aside0 (matrix_Rows.j0 kq l0 l1 x21_2 = some (r1, r2)) ∧ Aside0 (kq ≤ k) ∧ Aside0 (Below w.heap.size w wc))
  case first =>
    have H := HC3.out
    clear HC3
    replace H := Option.bind_eq_some_iff.mp H
    obtain ⟨t101, A40, H⟩ := H
    replace H : (if t101 = 0 then (if (l1.length : Int) = 0 then (matrix_Rows.j0 k l0 l1 true) else (matrix_Rows.j0 k l0 l1 (decide ((l1.length : Int) > 255)))) else (matrix_Rows.j0 k l0 l1 true)) = some (r1, r2) := H
    have A4 := Aside0.mk A40
    clear A40
    by_cases c5 : t101 = 0
    · rw [if_pos c5] at H
      have c5b0 : (t101 == 0) = true := beq_iff_eq.mpr c5
      have c5b1 : (t101 != 0) = false := bne_eq_false_iff_eq.mpr c5
      clear c5
      (first | rw [c5b0] | (simp only [i64_w, i32_w]; rw [c5b0]) | skip)
      by_cases c6 : (l1.length : Int) = 0
      · rw [if_pos c6] at H
        have c6b0 : ((l1.length : Int) == 0) = true := beq_iff_eq.mpr c6
        have c6b1 : ((l1.length : Int) != 0) = false := bne_eq_false_iff_eq.mpr c6
        clear c6
        have H' := Aside0.mk H
        clear H
        go_wp2_with (first | ((with_reducible refine gate_callee (f := 65) rfl ?_); refine goesL_ (some 10) rfl rfl Try.func65 (by kernel_rfl) rfl #[.slice A0 l0.length c0] rfl (by (try simp only [List.map_toArray, List.map_cons, List.map_nil]); first | done | rfl | (simp only [List.length_drop, List.length_take]; rfl)) ?_; (with_reducible refine (matrix_Check.calls k _ _ l0 t101 _ ?side1 ?side2 A4.out).mono ?_); (case side1 => repeat (first | exact (Kd.C_below HR0.out HB.out) | (with_reducible refine Kd.C_alloc ?_ _) | (with_reducible refine Kd.C_drewN ?_ _) | (with_reducible refine Kd.C_drew ?_))); (case side2 => exact HC0.out); rintro e w' ⟨rfl, ⟨nd, rfl⟩⟩; refine ⟨_, rfl, ?_⟩))
        go_meet
        case rel => exact ⟨_, (true), (by first | rfl | (simp; done) | (simp [*]; done)), H', ⟨by first | omega | exact Nat.le_refl _⟩, ⟨by repeat (first | (with_reducible first | exact HB.out | apply below_alloc | apply pw_below_drewN | apply below_drew1) | exact HB.out)⟩⟩
      · rw [if_neg c6] at H
        have c6b0 : ((l1.length : Int) == 0) = false := beq_eq_false_iff_ne.mpr c6
        have c6b1 : ((l1.length : Int) != 0) = true := bne_iff_ne.mpr c6
        have c6b2 : ¬ (l1 = []) := fun h_ => c6 (by rw [h_]; rfl)
        have H' := Aside0.mk H
        clear H
        go_wp2_with (first | ((with_reducible refine gate_callee (f := 65) rfl ?_); refine goesL_ (some 10) rfl rfl Try.func65 (by kernel_rfl) rfl #[.slice A0 l0.length c0] rfl (by (try simp only [List.map_toArray, List.map_cons, List.map_nil]); first | done | rfl | (simp only [List.length_drop, List.length_take]; rfl)) ?_; (with_reducible refine (matrix_Check.calls k _ _ l0 t101 _ ?side1 ?side2 A4.out).mono ?_); (case side1 => repeat (first | exact (Kd.C_below HR0.out HB.out) | (with_reducible refine Kd.C_alloc ?_ _) | (with_reducible refine Kd.C_drewN ?_ _) | (with_reducible refine Kd.C_drew ?_))); (case side2 => exact HC0.out); rintro e w' ⟨rfl, ⟨nd, rfl⟩⟩; refine ⟨_, rfl, ?_⟩))
        go_meet
        case rel => exact ⟨_, (decide ((l1.length : Int) > 255)), (by first | rfl | (simp; done) | (simp [*]; done)), H', ⟨by first | omega | exact Nat.le_refl _⟩, ⟨by repeat (first | (with_reducible first | exact HB.out | apply below_alloc | apply pw_below_drewN | apply below_drew1) | exact HB.out)⟩⟩
    · rw [if_neg c5] at H
      have c5b0 : (t101 == 0) = false := beq_eq_false_iff_ne.mpr c5
      have c5b1 : (t101 != 0) = true := bne_iff_ne.mpr c5
      (first | rw [c5b0] | (simp only [i64_w, i32_w]; rw [c5b0]) | skip)
      have H' := Aside0.mk H
      clear H
      go_wp2_with (first | ((with_reducible refine gate_callee (f := 65) rfl ?_); refine goesL_ (some 10) rfl rfl Try.func65 (by kernel_rfl) rfl #[.slice A0 l0.length c0] rfl (by (try simp only [List.map_toArray, List.map_cons, List.map_nil]); first | done | rfl | (simp only [List.length_drop, List.length_take]; rfl)) ?_; (with_reducible refine (matrix_Check.calls k _ _ l0 t101 _ ?side1 ?side2 A4.out).mono ?_); (case side1 => repeat (first | exact (Kd.C_below HR0.out HB.out) | (with_reducible refine Kd.C_alloc ?_ _) | (with_reducible refine Kd.C_drewN ?_ _) | (with_reducible refine Kd.C_drew ?_))); (case side2 => exact HC0.out); rintro e w' ⟨rfl, ⟨nd, rfl⟩⟩; refine ⟨_, rfl, ?_⟩))
      go_meet
      case rel => exact ⟨_, (true), (by first | rfl | (simp; done) | (simp [*]; done)), H', ⟨by first | omega | exact Nat.le_refl _⟩, ⟨by repeat (first | (with_reducible first | exact HB.out | apply below_alloc | apply pw_below_drewN | apply below_drew1) | exact HB.out)⟩⟩
  case rest =>
    clear HC3
    try clear c1
    try clear p2
    try clear c5
    try clear c5b0
    try clear c5b1
    try clear c6
    try clear c6b0
    try clear c6b1
    try clear c6b2
    obtain ⟨kq, x21_2, rfl, HA, HJ2, HB⟩ := hcut
    cases kq with
    | zero => exact absurd HA.out (by simp [matrix_Rows.j0])
    | succ kj2 =>
      have H := HA.out
      clear HA
      simp only [matrix_Rows.j0] at H
      by_cases c7 : x21_2 = true
      · subst c7
        have H1 : (some (([] : List (List Int)), 1)) = some (r1, r2) := by rw [if_pos rfl] at H; exact H
        clear H
        have H := H1
        clear H1
        simp only [Option.some.injEq, Prod.mk.injEq] at H
        obtain ⟨rfl, rfl⟩ := H
        go_wp2
        go_ret2
        exact ⟨_, by first | rfl | (simp [errW_none, errW_some] <;> rfl) | (simp [*, errW_none, errW_some] <;> rfl), by first | exact Kd.S_nil _ _ _ _ _ | exact Kd.N_nil _ _ _ _ _ | exact Kd.V_nil _ _ _ _ _ | exact Kd.Q_nil _ _ _ _ _ | exact Kd.R_nil _ _ _ _ _, by repeat (first | (with_reducible first | exact HB.out | apply below_alloc | apply pw_below_drewN | apply below_drew1) | exact HB.out)⟩
      · replace c7 := Bool.eq_false_iff.mpr c7
        subst c7
        have H1 : (matrix_Rows.l0 kj2 l0 ([] : List (List Int)) l1 (l1.length : Int) 0) = some (r1, r2) := by rw [if_neg (show ¬ (false = true) by decide)] at H; exact H
        clear H
        have H := H1
        clear H1
        have H' := Aside0.mk H
        clear H
        go_wp2
        go_loopg [6, 24] kj2 (fun kq v6 v24 w' => ∃ (x6_2 : List (List Int)) (x24_2 : Int), v24 = .int .i64 x24_2 ∧ Aside0 (matrix_Rows.l0 kq l0 x6_2 l1 (l1.length : Int) x24_2 = some (r1, r2)) ∧ Aside0 (kq ≤ kj2) ∧ Aside0 (Kd.S (Kd.slice 5 (Kd.int .u8)) 22 w' w.heap.size (fun _ => True) v6 x6_2) ∧ Aside0 (Below w.heap.size w w'))
        case atStart => exact ⟨(([] : List (List Int))), (0), (by first | rfl | (simp; done) | (simp [*]; done)), H', ⟨Nat.le_refl _⟩, ⟨by first | exact Kd.S_nil _ _ _ _ _ | exact Kd.N_nil _ _ _ _ _ | exact Kd.V_nil _ _ _ _ _ | exact Kd.Q_nil _ _ _ _ _ | exact Kd.R_nil _ _ _ _ _⟩, ⟨by repeat (first | (with_reducible first | exact HB.out | apply below_alloc | apply pw_below_drewN | apply below_drew1) | exact HB.out)⟩⟩
        case round =>
          clear H'
          try clear c1
          try clear p2
          try clear c5
          try clear c5b0
          try clear c5b1
          try clear c6
          try clear c6b0
          try clear c6b1
          try clear c6b2
          try clear c7
          try clear p2
          obtain ⟨x6_2, x24_2, rfl, HA, HK2, HO_6, HB⟩ := hrel
          cases gk with
          | zero => exact absurd HA.out (by simp [matrix_Rows.l0])
          | succ k2 =>
            have H := HA.out
            clear HA
            simp only [matrix_Rows.l0] at H
            by_cases c8 : x24_2 < (l1.length : Int)
            · rw [if_pos c8] at H
              have c8b0 : decide (x24_2 < (l1.length : Int)) = true := decide_eq_true c8
              clear c8
              by_cases c9 : 0 ≤ x24_2
              · rw [if_pos c9] at H
                have c9b0 : decide (0 ≤ x24_2) = true := decide_eq_true c9
                clear c9
                by_cases c10 : x24_2 < (l1.length : Int)
                · rw [if_pos c10] at H
                  have c10b0 : decide (x24_2 < (l1.length : Int)) = true := decide_eq_true c10
                  clear c10
                  by_cases c11 : (rd l1 x24_2) < 0
                  · rw [if_pos c11] at H
                    have c11b0 : decide ((rd l1 x24_2) < 0) = true := decide_eq_true c11
                    clear c11
                    simp only [Option.some.injEq, Prod.mk.injEq] at H
                    obtain ⟨rfl, rfl⟩ := H
                    have p102 : 0 ≤ (x24_2 : Int) := of_decide_eq_true (by first | (with_reducible assumption) | assumption)
                    have q102 : x24_2 < (l1.length : Int) := of_decide_eq_true (by first | (with_reducible assumption) | assumption)
                    obtain ⟨ad102, e102, hx102_0⟩ := Kd.at_int HR1.out x24_2 p102 q102
                    cases e102
                    replace hx102_0 := (HB.out.cell (World.block_lt_of_cell? w _ hx102_0)).trans hx102_0
                    replace p102 := eq_true p102
                    replace q102 := eq_true q102
                    go_wp2
                    go_ret2
                    exact ⟨_, by first | rfl | (simp [errW_none, errW_some] <;> rfl) | (simp [*, errW_none, errW_some] <;> rfl), by first | exact Kd.S_nil _ _ _ _ _ | exact Kd.N_nil _ _ _ _ _ | exact Kd.V_nil _ _ _ _ _ | exact Kd.Q_nil _ _ _ _ _ | exact Kd.R_nil _ _ _ _ _, by repeat (first | (with_reducible first | exact HB.out | apply below_alloc | apply pw_below_drewN | apply below_drew1) | exact HB.out)⟩
                  · rw [if_neg c11] at H
                    have c11b0 : decide ((rd l1 x24_2) < 0) = false := decide_eq_false c11
                    clear c11
                    by_cases c12 : (rd l1 x24_2) ≥ (l0.length : Int)
                    · rw [if_pos c12] at H
                      have c12b0 : decide ((l0.length : Int) ≤ (rd l1 x24_2)) = true := decide_eq_true c12
                      clear c12
                      simp only [Option.some.injEq, Prod.mk.injEq] at H
                      obtain ⟨rfl, rfl⟩ := H
                      have p102 : 0 ≤ (x24_2 : Int) := of_decide_eq_true (by first | (with_reducible assumption) | assumption)
                      have q102 : x24_2 < (l1.length : Int) := of_decide_eq_true (by first | (with_reducible assumption) | assumption)
                      obtain ⟨ad102, e102, hx102_0⟩ := Kd.at_int HR1.out x24_2 p102 q102
                      cases e102
                      replace hx102_0 := (HB.out.cell (World.block_lt_of_cell? w _ hx102_0)).trans hx102_0
                      replace p102 := eq_true p102
                      replace q102 := eq_true q102
                      go_wp2
                      go_ret2
                      exact ⟨_, by first | rfl | (simp [errW_none, errW_some] <;> rfl) | (simp [*, errW_none, errW_some] <;> rfl), by first | exact Kd.S_nil _ _ _ _ _ | exact Kd.N_nil _ _ _ _ _ | exact Kd.V_nil _ _ _ _ _ | exact Kd.Q_nil _ _ _ _ _ | exact Kd.R_nil _ _ _ _ _, by repeat (first | (with_reducible first | exact HB.out | apply below_alloc | apply pw_below_drewN | apply below_drew1) | exact HB.out)⟩
                    · rw [if_neg c12] at H
                      have c12b0 : decide ((l0.length : Int) ≤ (rd l1 x24_2)) = false := decide_eq_false c12
                      clear c12
                      by_cases c13 : 0 ≤ (rd l1 x24_2)
                      · rw [if_pos c13] at H
                        have c13b0 : decide (0 ≤ (rd l1 x24_2)) = true := decide_eq_true c13
                        clear c13
                        by_cases c14 : (rd l1 x24_2) < (l0.length : Int)
                        · rw [if_pos c14] at H
                          have c14b0 : decide ((rd l1 x24_2) < (l0.length : Int)) = true := decide_eq_true c14
                          clear c14
                          replace H := Option.bind_eq_some_iff.mp H
                          obtain ⟨t104, A150, H⟩ := H
                          replace H : (if x6_2.length < 5864062014805 then (matrix_Rows.l0 k2 l0 (x6_2 ++ [t104]) l1 (l1.length : Int) (wrap64 (x24_2 + 1))) else (none)) = some (r1, r2) := H
                          have A15 := Aside0.mk A150
                          clear A150
                          by_cases c16 : x6_2.length < 5864062014805
                          · rw [if_pos c16] at H
                            have LMc16 := Aside0.mk c16
                            clear c16
                            obtain ⟨y107, hy107⟩ : ∃ y_ : List (List Int), y_ = (x6_2 ++ [t104]) := ⟨_, rfl⟩
                            replace H : (matrix_Rows.l0 k2 l0 y107 l1 (l1.length : Int) (wrap64 (x24_2 + 1))) = some (r1, r2) := by first | (rw [hy107]; with_reducible exact H) | (have H2_ := (Option.bind_some _ _).symm.trans H; rw [hy107]; with_reducible exact H2_) | (have H2_ := (Option.bind_some _ _).symm.trans H; with_reducible exact H2_) | with_reducible exact H | (rw [hy107]; exact H) | exact H
                            have Ny107 := Aside0.mk hy107
                            clear hy107
                            have H' := Aside0.mk H
                            clear H
                            have p102 : 0 ≤ (x24_2 : Int) := of_decide_eq_true (by first | (with_reducible assumption) | assumption)
                            have q102 : x24_2 < (l1.length : Int) := of_decide_eq_true (by first | (with_reducible assumption) | assumption)
                            obtain ⟨ad102, e102, hx102_0⟩ := Kd.at_int HR1.out x24_2 p102 q102
                            cases e102
                            replace hx102_0 := (HB.out.cell (World.block_lt_of_cell? w _ hx102_0)).trans hx102_0
                            replace p102 := eq_true p102
                            replace q102 := eq_true q102
                            have p103 : 0 ≤ ((rd l1 x24_2) : Int) := of_decide_eq_true (by first | (with_reducible assumption) | assumption)
                            have q103 : (rd l1 x24_2) < (l0.length : Int) := of_decide_eq_true (by first | (with_reducible assumption) | assumption)
                            obtain ⟨ad103, A103_0, c103_0, e103, hx103_0, hl103_0, hi103_0⟩ := at_L1 HR0.out (rd l1 x24_2) p103 q103
                            cases e103
                            replace hx103_0 := (HB.out.cell (World.block_lt_of_cell? w _ hx103_0)).trans hx103_0
                            have HR103_0 := Aside0.mk hi103_0
                            have HC103_0 := Aside0.mk hl103_0
                            clear hi103_0 hl103_0
                            replace p103 := eq_true p103
                            replace q103 := eq_true q103
                            go_wp2_with (first | ((with_reducible refine gate_callee (f := 89) rfl ?_); refine goesL_ (some 41) rfl rfl Try.func89 (by kernel_rfl) rfl #[.slice A103_0 (rd_L1 l0 (rd l1 x24_2)).length c103_0] rfl (by (try simp only [List.map_toArray, List.map_cons, List.map_nil]); first | done | rfl | (simp only [List.length_drop, List.length_take]; rfl)) ?_; (with_reducible refine (slices_Clone_byte_byte.calls _ _ (rd_L1 l0 (rd l1 x24_2)) t104 _ ?side1 ?side2 A15.out).mono ?_); (case side1 => repeat (first | exact (Kd.C_below HR103_0.out HB.out) | (with_reducible refine Kd.C_alloc ?_ _) | (with_reducible refine Kd.C_drewN ?_ _) | (with_reducible refine Kd.C_drew ?_))); (case side2 => exact HC103_0.out); rintro e w17 ⟨v105, rfl, ho0, hb⟩; refine ⟨_, rfl, ?_⟩; have n0_ := Aside0.mk (Kd.S_elder' (by (with_reducible repeat (first | apply Kd.S_alloc | apply Kd.S_drewN | apply Kd.S_drew)); exact HO_6.out) (Kd.R_base ho0) hb); have n1_ := Aside0.mk (Kd.R_lower ho0 (below_size (by repeat (first | (with_reducible first | exact HB.out | apply below_alloc | apply pw_below_drewN | apply below_drew1) | exact HB.out)))); have n2_ := Aside0.mk (below_step (by repeat (first | (with_reducible first | exact HB.out | apply below_alloc | apply pw_below_drewN | apply below_drew1) | exact HB.out)) hb); clear HO_6; clear HB; have HO_6 := n0_; have HO106 := n1_; have HB := n2_; clear n0_ n1_ n2_; (try clear hb); (try clear hb2); (try clear hk); (try clear hi); (try clear ho0); obtain ⟨Ao19, co19, eo19⟩ := Kd.R_slice HO106.out; subst eo19) | ((with_reducible refine gate_builtin (b := .append) (xs := #[.tmp 36, .tmp 42]) rfl ?_); (try (refine gate_guard (by rfl) ?_; dsimp only)); at_builtin; refine Kd.S_append (Kd.slice 5 (Kd.int .u8)) (w0 := w) w.heap.size rfl (.tmp 36) (.tmp 42) 51 22 (.slice none 0 0) 24 rfl Try.underlying51 info22 rfl (by decide) (by omega) u6 x6_2 t104 [.slice Ao19 t104.length co19] (fun _ => True) (fun k_ => some k_ = (.slice Ao19 t104.length co19 : Value).ownBlock) rfl rfl ?aP (fun k_ hk_ => ((Kd.R_mono (ok' := fun k_ => ((fun _ => True)) k_ ∧ some k_ ≠ (u6 : Value).ownBlock) (Kd.R_apart' (HO106.out) (Kd.S_typed HO_6.out) (by decide)) (fun k_ hk => ⟨trivial, hk.2⟩))).1 k_ hk_.symm) ?aF ?aO ?aB ?aS ?aL ?_; (case aP => exact Kd.M_row (Kd.R_mono (Kd.R_tight rfl (Kd.R_mono (ok' := fun k_ => ((fun _ => True)) k_ ∧ some k_ ≠ (u6 : Value).ownBlock) (Kd.R_apart' (HO106.out) (Kd.S_typed HO_6.out) (by decide)) (fun k_ hk => ⟨trivial, hk.2⟩))) (fun _ h_ => h_))); (case aB => exact (by repeat (first | (with_reducible first | exact HB.out | apply below_alloc | apply pw_below_drewN | apply below_drew1) | exact HB.out))); (case aF => exact (fun _ _ => trivial)); (case aO => exact (by (with_reducible repeat (first | apply Kd.S_alloc | apply Kd.S_drewN | apply Kd.S_drew)); exact Kd.S_mono HO_6.out (fun k_ hk => ⟨trivial, fun e_ => hk.2 e_⟩))); (case aS => exact (below_size (by repeat (first | (with_reducible first | exact HB.out | apply below_alloc | apply pw_below_drewN | apply below_drew1) | exact HB.out)))); (case aL => have := LMc16.out; omega); intro v108 w18 ho hb hg hat; rw [← Ny107.out] at ho; have n0_ := Aside0.mk (hb); have n1_ := Aside0.mk (ho); clear HB; clear HO_6; clear HO106; have HB := n0_; have HO109 := n1_; clear n0_ n1_; clear ho hb hg hat))
                            go_roundg k2
                            case measure => have := HJ2.out; have := HK2.out; omega
                            case rel => exact ⟨(y107), (wrap64 (x24_2 + 1)), (by first | rfl | (simp; done) | (simp [*]; done)), H', ⟨by have := HJ2.out; have := HK2.out; omega⟩, ⟨by (with_reducible repeat (first | apply Kd.S_alloc | apply Kd.S_drewN | apply Kd.S_drew)); exact HO109.out⟩, ⟨by repeat (first | (with_reducible first | exact HB.out | apply below_alloc | apply pw_below_drewN | apply below_drew1) | exact HB.out)⟩⟩
                          · rw [if_neg c16] at H
                            exact absurd H (by simp)
                        · rw [if_neg c14] at H
                          exact absurd H (by simp)
                      · rw [if_neg c13] at H
                        exact absurd H (by simp)
                · rw [if_neg c10] at H
                  exact absurd H (by simp)
              · rw [if_neg c9] at H
                exact absurd H (by simp)
            · rw [if_neg c8] at H
              have c8b0 : decide (x24_2 < (l1.length : Int)) = false := decide_eq_false c8
              clear c8
              simp only [Option.some.injEq, Prod.mk.injEq] at H
              obtain ⟨rfl, rfl⟩ := H
              go_wp2
              go_ret2
              exact ⟨_, by first | rfl | (simp [errW_none, errW_some] <;> rfl) | (simp [*, errW_none, errW_some] <;> rfl), by (with_reducible repeat (first | apply Kd.S_alloc | apply Kd.S_drewN | apply Kd.S_drew)); exact HO_6.out, by repeat (first | (with_reducible first | exact HB.out | apply below_alloc | apply pw_below_drewN | apply below_drew1) | exact HB.out)⟩

end Go.Proofs.Ytbogmlckbkogiaa.P

/- What Rows comes to. Conditions: told at each. -/
namespace Go.Proofs.Ytbogmlckbkogiaa.Red
open Go.RowKit Go.Proofs.YtbogmlckbkogiaaW.PrintWords Go.Proofs.Ytbogmlckbkogiaa.Leaf Go.Proofs.Ytbogmlckbkogiaa.Gf Go.Proofs.Ytbogmlckbkogiaa.H Go.Proofs.Ytbogmlckbkogiaa.Mx Go.Proofs.Ytbogmlckbkogiaa.P
set_option linter.unusedVariables false
set_option linter.unusedSimpArgs false
/-! ### Rows -/
def rowsM (A : Mat) (l : List Int) : Mat := l.map fun i => row A i.toNat
theorem rows_ok (A : Mat) (hr : ∀ i, i < A.length → (row A i).length < 140737488355328) (l : List Int) (hl : l.length ≤ 255) (h : ∀ j, j < l.length → 0 ≤ rd l (j : Int) ∧ rd l (j : Int) < A.length) (d : Nat) : ∀ i : Nat, i + d = l.length →
    Ev (fun k => matrix_Rows.l0 k (oM A) (oM (rowsM A (l.take i))) l (l.length : Int) (i : Int)) (oM (rowsM A l), 0) := by
  induction d with
  | zero =>
    intro i hi
    obtain rfl : i = l.length := by omega
    rw [List.take_length]
    refine Ev.step (f := fun _ => some (oM (rowsM A l), 0)) (fun f => ?_) (Ev.now _)
    simp only [matrix_Rows.l0]
    rw [if_neg (by omega)]
  | succ d ih =>
    intro i hi
    obtain ⟨h1, h2⟩ := h i (by omega)
    refine Ev.step (f := fun k => matrix_Rows.l0 k (oM A) (oM (rowsM A (l.take (i + 1)))) l (l.length : Int) ((i + 1 : Nat) : Int)) (fun f => ?_) (ih (i + 1) (by omega))
    have e1 : rd_L1 (oM A) (rd l (i : Int)) = ofL (row A (rd l (i : Int)).toNat) := map_getD A _
    have e2 : (rowsM A (l.take i)).length = i := by unfold rowsM; rw [List.length_map, List.length_take]; omega
    have e3 : rowsM A (l.take i) ++ [row A (rd l (i : Int)).toNat] = rowsM A (l.take (i + 1)) := by
      unfold rowsM
      rw [List.take_succ_eq_append_getElem (by omega), List.map_append]
      have e4 : rd l (i : Int) = l[i] := by
        unfold rd
        rw [Int.toNat_natCast, List.getD_eq_getElem?_getD, List.getElem?_eq_getElem (by omega)]
        rfl
      rw [e4]
      rfl
    simp only [matrix_Rows.l0, oM_length, e1, slices_Clone_byte_byte.f, ofL_length, e2]
    rw [if_pos (by omega), if_pos (by omega), if_pos (by omega), if_neg (by omega), if_neg (by omega), if_pos (by omega), if_pos (by omega), if_pos (hr _ (by omega)), Option.bind_some, if_pos (by omega), oM_one, oM_append, e3, w64 _ (by omega) (by omega)]
    rfl
theorem rows_bad (A : Mat) (hr : ∀ i, i < A.length → (row A i).length < 140737488355328) (l : List Int) (hl : l.length ≤ 255) (j : Nat) (hj : j < l.length) (hb : rd l (j : Int) < 0 ∨ rd l (j : Int) ≥ A.length) (d : Nat) : ∀ (i : Nat) (X : List (List Int)), i + d = j → X.length = i →
    Ev (fun k => matrix_Rows.l0 k (oM A) X l (l.length : Int) (i : Int)) ([], 1) := by
  induction d with
  | zero =>
    intro i X hi hX
    obtain rfl : i = j := by omega
    refine Ev.step (f := fun _ => some ([], 1)) (fun f => ?_) (Ev.now _)
    simp only [matrix_Rows.l0, oM_length]
    rw [if_pos (by omega), if_pos (by omega), if_pos (by omega)]
    by_cases h1 : rd l (i : Int) < 0
    · rw [if_pos h1]
    · rw [if_neg h1, if_pos (by omega)]
  | succ d ih =>
    intro i X hi hX
    by_cases h1 : rd l (i : Int) < 0
    · refine Ev.step (f := fun _ => some ([], 1)) (fun f => ?_) (Ev.now _)
      simp only [matrix_Rows.l0, oM_length]
      rw [if_pos (by omega), if_pos (by omega), if_pos (by omega), if_pos h1]
    · by_cases h2 : rd l (i : Int) ≥ A.length
      · refine Ev.step (f := fun _ => some ([], 1)) (fun f => ?_) (Ev.now _)
        simp only [matrix_Rows.l0, oM_length]
        rw [if_pos (by omega), if_pos (by omega), if_pos (by omega), if_neg h1, if_pos (by omega)]
      · have e1 : rd_L1 (oM A) (rd l (i : Int)) = ofL (row A (rd l (i : Int)).toNat) := map_getD A _
        refine Ev.step (f := fun k => matrix_Rows.l0 k (oM A) (X ++ [ofL (row A (rd l (i : Int)).toNat)]) l (l.length : Int) ((i + 1 : Nat) : Int)) (fun f => ?_) (ih (i + 1) _ (by omega) (by rw [List.length_append, hX]; rfl))
        simp only [matrix_Rows.l0, oM_length, e1, slices_Clone_byte_byte.f, ofL_length, hX]
        rw [if_pos (by omega), if_pos (by omega), if_pos (by omega), if_neg (by omega), if_neg (by omega), if_pos (by omega), if_pos (by omega), if_pos (hr _ (by omega)), Option.bind_some, if_pos (by omega), w64 _ (by omega) (by omega)]
        rfl
/-- May such rows be had? -/
def rowsB (A : Mat) (l : List Int) : Bool := mayB A && decide (0 < l.length) && decide (l.length ≤ 255) && l.all fun v => decide (0 ≤ v) && decide (v < A.length)
def rowsR (A : Mat) (l : List Int) : List (List Int) × Int := if rowsB A l = true then (oM (rowsM A l), 0) else ([], 1)
theorem rd_mem (l : List Int) (j : Nat) (hj : j < l.length) : rd l (j : Int) ∈ l := by
  unfold rd
  rw [Int.toNat_natCast, List.getD_eq_getElem?_getD, List.getElem?_eq_getElem hj]
  exact List.getElem_mem hj
theorem evRows (A : Mat) (hs : A.length ≤ 9223372036854775807) (l : List Int) : Ev (fun k => matrix_Rows.f k (oM A) l) (rowsR A l) := by
  have j1 : Ev (fun k => matrix_Rows.j0 k (oM A) l true) ([], 1) := Ev.step (f := fun _ => some ([], 1)) (fun k => by simp only [matrix_Rows.j0, if_true]) (Ev.now _)
  unfold matrix_Rows.f rowsR
  refine Ev.bind (evCheck A hs) ?_
  cases h1 : mayB A with
  | false =>
    rw [show rowsB A l = false by unfold rowsB; rw [h1]; rfl]
    simp only [Bool.false_eq_true, if_false, show ((1 : Int) = 0) = False from eq_false (by decide)]
    exact j1
  | true =>
    simp only [if_true]
    by_cases h2 : l.length = 0
    · rw [show rowsB A l = false by unfold rowsB; rw [decide_eq_false (by omega)]; simp]
      simp only [show ((l.length : Int) = 0) = True from eq_true (by omega), if_true, Bool.false_eq_true, if_false]
      exact j1
    · simp only [show ((l.length : Int) = 0) = False from eq_false (by omega), if_false]
      by_cases h3 : l.length > 255
      · rw [show rowsB A l = false by unfold rowsB; rw [decide_eq_false (show ¬ l.length ≤ 255 by omega)]; simp]
        simp only [show decide ((l.length : Int) > 255) = true from decide_eq_true (by omega), Bool.false_eq_true, if_false]
        exact j1
      · simp only [show decide ((l.length : Int) > 255) = false from decide_eq_false (by omega)]
        obtain ⟨hA, a1, a2, a3, a4⟩ := mayB_reg h1
        have hr : ∀ i, i < A.length → (row A i).length < 140737488355328 := fun i hi => by rw [hA.2 i hi]; omega
        refine Ev.step (f := fun k => matrix_Rows.l0 k (oM A) (oM (rowsM A (l.take 0))) l (l.length : Int) ((0 : Nat) : Int)) (fun k => by simp only [matrix_Rows.j0, Bool.false_eq_true, if_false]; rfl) ?_
        cases h4 : (l.all fun v => decide (0 ≤ v) && decide (v < A.length)) with
        | true =>
          rw [show rowsB A l = true by unfold rowsB; rw [h1, h4, decide_eq_true (show 0 < l.length by omega), decide_eq_true (show l.length ≤ 255 by omega)]; rfl, if_pos rfl]
          refine rows_ok A hr l (by omega) (fun j hj => ?_) l.length 0 (by omega)
          have := List.all_eq_true.1 h4 _ (rd_mem l j hj)
          simpa using this
        | false =>
          rw [show rowsB A l = false by unfold rowsB; rw [h4]; simp]
          simp only [Bool.false_eq_true, if_false]
          obtain ⟨v, hv, hb⟩ := List.all_eq_false.1 h4
          obtain ⟨j, hj, e⟩ := List.mem_iff_getElem.1 hv
          have e2 : rd l (j : Int) = v := by
            unfold rd
            rw [Int.toNat_natCast, List.getD_eq_getElem?_getD, List.getElem?_eq_getElem hj]
            exact e
          refine rows_bad A hr l (by omega) j hj ?_ j 0 _ (by omega) rfl
          rw [e2]
          have hb' : ¬ (0 ≤ v ∧ v < A.length) := by simpa using hb
          omega
end Go.Proofs.Ytbogmlckbkogiaa.Red

-- Printed by a wrapper (wip/tools/myprint.py) of the kit's print, with hand-written contracts as given leaves.
namespace Go.Proofs.Ytbogmlckbkogiaa.P
open Go.Proofs.Ytbogmlckbkogiaa.Leaf
open Go.RowKit Go.Proofs.YtbogmlckbkogiaaW.PrintWords Go.Proofs.YtbogmlckbkogiaaW.PrintLast Go.Proofs.YtbogmlckbkogiaaW.PrintMore
attribute [local go_sem] max2_int min2_int max_two min_two max_three min_three max_four min_four   -- for this text's walks alone
set_option linter.unusedVariables false
set_option linter.unusedSimpArgs false

/-! ### mooringlaw02_light: function 50 -/
def mooringlaw02_light.f (l0 : List (List Int)) : Option (Bool) := if (l0.length : Int) ≤ 40 then (if (l0.length : Int) = 0 then (some true) else (if 0 < (l0.length : Int) then (some (decide (((rd_L1 l0 0).length : Int) ≤ 40))) else (none))) else (some false)
set_option maxHeartbeats 8000000 in
set_option maxRecDepth 100000 in
theorem mooringlaw02_light.calls (A0 : Option Addr) (c0 : Nat) (l0 : List (List Int)) (r : Bool) (w : World) (hr0 : Kd.C (Kd.slice 5 (Kd.int .u8)) w A0 l0.length l0) (hc0 : l0.length ≤ c0) (h : mooringlaw02_light.f l0 = some r) :
    Calls Try.prog 50 #[.slice A0 l0.length c0] w fun e w' => e = .returned (.bool r) ∧ Drawn0 w w' := by
  have HR0 := Aside0.mk hr0
  have HC0 := Aside0.mk hc0
  clear hr0 hc0
  have H : (if (l0.length : Int) ≤ 40 then (if (l0.length : Int) = 0 then (some true) else (if 0 < (l0.length : Int) then (some (decide (((rd_L1 l0 0).length : Int) ≤ 40))) else (none))) else (some false)) = some r := h
  clear h
  by_cases c2 : (l0.length : Int) ≤ 40
  · rw [if_pos c2] at H
    have c2b0 : decide ((l0.length : Int) ≤ 40) = true := decide_eq_true c2
    have c2b1 : decide (l0.length ≤ 40) = true := decide_eq_true (by omega)
    clear c2
    by_cases c3 : (l0.length : Int) = 0
    · rw [if_pos c3] at H
      have c3b0 : ((l0.length : Int) == 0) = true := beq_iff_eq.mpr c3
      have c3b1 : ((l0.length : Int) != 0) = false := bne_eq_false_iff_eq.mpr c3
      clear c3
      obtain rfl := Option.some.inj H
      go_enter Try.func50, Try.ntmps50
      go_wp2
      go_ret
      exact ⟨by first | rfl | (simp; done) | (simp [*]; done), by repeat (first | exact Drawn0.refl _ | apply Drawn0.step)⟩
    · rw [if_neg c3] at H
      have c3b0 : ((l0.length : Int) == 0) = false := beq_eq_false_iff_ne.mpr c3
      have c3b1 : ((l0.length : Int) != 0) = true := bne_iff_ne.mpr c3
      have c3b2 : ¬ (l0 = []) := fun h_ => c3 (by rw [h_]; rfl)
      by_cases c4 : 0 < (l0.length : Int)
      · rw [if_pos c4] at H
        have c4b0 : decide (0 < (l0.length : Int)) = true := decide_eq_true c4
        have c4b1 : decide (0 < l0.length) = true := decide_eq_true (by omega)
        clear c4
        obtain rfl := Option.some.inj H
        have p101 : 0 ≤ (0 : Int) := (by omega)
        have q101 : 0 < (l0.length : Int) := of_decide_eq_true (by first | (with_reducible assumption) | assumption)
        obtain ⟨ad101, A101_0, c101_0, e101, hx101_0, hl101_0, hi101_0⟩ := at_L1 HR0.out 0 p101 q101
        cases e101
        have qi101 : (0 < l0.length) = True := eq_true (by omega)
        (try rw [show ((0 : Int)).toNat = 0 from rfl] at hx101_0)
        (try rw [Addr.add_zero'] at hx101_0)
        have HR101_0 := Aside0.mk hi101_0
        have HC101_0 := Aside0.mk hl101_0
        clear hi101_0 hl101_0
        replace p101 := eq_true p101
        replace q101 := eq_true q101
        go_enter Try.func50, Try.ntmps50
        go_wp2
        go_ret
        exact ⟨by first | rfl | (simp; done) | (simp [*]; done), by repeat (first | exact Drawn0.refl _ | apply Drawn0.step)⟩
      · rw [if_neg c4] at H
        exact absurd H (by simp)
  · rw [if_neg c2] at H
    have c2b0 : decide ((l0.length : Int) ≤ 40) = false := decide_eq_false c2
    have c2b1 : decide (l0.length ≤ 40) = false := decide_eq_false (by omega)
    clear c2
    obtain rfl := Option.some.inj H
    go_enter Try.func50, Try.ntmps50
    go_wp2
    go_ret
    exact ⟨by first | rfl | (simp; done) | (simp [*]; done), by repeat (first | exact Drawn0.refl _ | apply Drawn0.step)⟩

end Go.Proofs.Ytbogmlckbkogiaa.P

-- Printed by a wrapper (wip/tools/myprint.py) of the kit's print, with hand-written contracts as given leaves.
namespace Go.Proofs.Ytbogmlckbkogiaa.P
open Go.Proofs.Ytbogmlckbkogiaa.Leaf
open Go.RowKit Go.Proofs.YtbogmlckbkogiaaW.PrintWords Go.Proofs.YtbogmlckbkogiaaW.PrintLast Go.Proofs.YtbogmlckbkogiaaW.PrintMore
attribute [local go_sem] max2_int min2_int max_two min_two max_three min_three max_four min_four   -- for this text's walks alone
set_option linter.unusedVariables false
set_option linter.unusedSimpArgs false

/-! ### mooringlaw02_errno: function 66 -/
def mooringlaw02_errno.f (a0 : Bool) : Option (Int) := if a0 = true then (some 0) else (some 1)
set_option maxHeartbeats 8000000 in
set_option maxRecDepth 100000 in
theorem mooringlaw02_errno.calls (a0 : Bool) (r : Int) (w : World) (h : mooringlaw02_errno.f a0 = some r) :
    Calls Try.prog 66 #[.bool a0] w fun e w' => e = .returned (.int .i64 r) ∧ Drawn0 w w' := by
  have H : (if a0 = true then (some 0) else (some 1)) = some r := h
  clear h
  by_cases c2 : a0 = true
  · subst c2
    have H1 : (some 0) = some r := by rw [if_pos rfl] at H; exact H
    clear H
    have H := H1
    clear H1
    obtain rfl := Option.some.inj H
    go_enter Try.func66, Try.ntmps66
    go_wp2
    go_ret
    exact ⟨by first | rfl | (simp; done) | (simp [*]; done), by repeat (first | exact Drawn0.refl _ | apply Drawn0.step)⟩
  · replace c2 := Bool.eq_false_iff.mpr c2
    subst c2
    have H1 : (some 1) = some r := by rw [if_neg (show ¬ (false = true) by decide)] at H; exact H
    clear H
    have H := H1
    clear H1
    obtain rfl := Option.some.inj H
    go_enter Try.func66, Try.ntmps66
    go_wp2
    go_ret
    exact ⟨by first | rfl | (simp; done) | (simp [*]; done), by repeat (first | exact Drawn0.refl _ | apply Drawn0.step)⟩

end Go.Proofs.Ytbogmlckbkogiaa.P

-- Printed by a wrapper (wip/tools/myprint.py) of the kit's print, with hand-written contracts as given leaves.
namespace Go.Proofs.Ytbogmlckbkogiaa.P
open Go.Proofs.Ytbogmlckbkogiaa.Leaf
open Go.RowKit Go.Proofs.YtbogmlckbkogiaaW.PrintWords Go.Proofs.YtbogmlckbkogiaaW.PrintLast Go.Proofs.YtbogmlckbkogiaaW.PrintMore
attribute [local go_sem] max2_int min2_int max_two min_two max_three min_three max_four min_four   -- for this text's walks alone
set_option linter.unusedVariables false
set_option linter.unusedSimpArgs false

/-! ### mooringref02_Same: function 57 -/
def mooringref02_Same.l0 : Nat → List (List Int) → List (List Int) → Int → Option (Bool)
  | 0, _, _, _ => none
  | k + 1, x0, x1, x5 => if x5 < (x0.length : Int) then (if 0 ≤ x5 then (if x5 < (x1.length : Int) then (if (strOfNums (rd_L1 x0 x5)).toList = (strOfNums (rd_L1 x1 x5)).toList then (mooringref02_Same.l0 k x0 x1 (wrap64 (x5 + 1))) else (some false)) else (none)) else (none)) else (some true)
def mooringref02_Same.f (k : Nat) (l0 : List (List Int)) (l1 : List (List Int)) : Option (Bool) := if (l0.length : Int) = (l1.length : Int) then (mooringref02_Same.l0 k l0 l1 0) else (some false)
theorem mooringref02_Same.mono_l : ∀ k, (∀ y0 y1 y2, LeO (mooringref02_Same.l0 k y0 y1 y2) (mooringref02_Same.l0 (k + 1) y0 y1 y2))
  | 0 => fun _ _ _ r h => by simp [mooringref02_Same.l0] at h
  | k + 1 => by
    have ih0 := mooringref02_Same.mono_l k
    · intro y0 y1 y2
      unfold mooringref02_Same.l0
      repeat' first
      | (with_reducible exact ih0 _ _ _)
      | (with_reducible exact LeO.refl _)
      | (with_reducible exact LeO.none _)
      | (with_reducible refine LeO.ite ?_ ?_)
      | (with_reducible refine LeO.bind ?_ (fun _ => ?_))
      | exact ih0 _ _ _
      | exact LeO.none _
      | refine LeO.ite ?_ ?_
      | refine LeO.bind ?_ (fun _ => ?_)
theorem mooringref02_Same.mono : ∀ a0 a1 k, LeO (mooringref02_Same.f k a0 a1) (mooringref02_Same.f (k + 1) a0 a1) := by
  intro a0 a1 k
  have ih0 := mooringref02_Same.mono_l k
  unfold mooringref02_Same.f
  repeat' first
      | (with_reducible exact ih0 _ _ _)
      | (with_reducible exact LeO.refl _)
      | (with_reducible exact LeO.none _)
      | (with_reducible refine LeO.ite ?_ ?_)
      | (with_reducible refine LeO.bind ?_ (fun _ => ?_))
      | exact ih0 _ _ _
      | exact LeO.none _
      | refine LeO.ite ?_ ?_
      | refine LeO.bind ?_ (fun _ => ?_)
set_option maxHeartbeats 8000000 in
set_option maxRecDepth 100000 in
theorem mooringref02_Same.calls (k : Nat) (A0 : Option Addr) (c0 : Nat) (l0 : List (List Int)) (A1 : Option Addr) (c1 : Nat) (l1 : List (List Int)) (r : Bool) (w : World) (hr0 : Kd.C (Kd.slice 5 (Kd.int .u8)) w A0 l0.length l0) (hc0 : l0.length ≤ c0) (hr1 : Kd.C (Kd.slice 5 (Kd.int .u8)) w A1 l1.length l1) (hc1 : l1.length ≤ c1) (h : mooringref02_Same.f k l0 l1 = some r) :
    Calls Try.prog 57 #[.slice A0 l0.length c0, .slice A1 l1.length c1] w fun e w' => e = .returned (.bool r) ∧ Drawn0 w w' := by
  have HR0 := Aside0.mk hr0
  have HC0 := Aside0.mk hc0
  clear hr0 hc0
  have HR1 := Aside0.mk hr1
  have HC1 := Aside0.mk hc1
  clear hr1 hc1
  have H : (if (l0.length : Int) = (l1.length : Int) then (mooringref02_Same.l0 k l0 l1 0) else (some false)) = some r := h
  clear h
  by_cases c3 : (l0.length : Int) = (l1.length : Int)
  · rw [if_pos c3] at H
    have c3b0 : ((l0.length : Int) == (l1.length : Int)) = true := beq_iff_eq.mpr c3
    have c3b1 : ((l0.length : Int) != (l1.length : Int)) = false := bne_eq_false_iff_eq.mpr c3
    have c3b2 : (l0.length == l1.length) = true := by first | simpa using c3 | (simp at c3 ⊢; omega)
    clear c3
    have H' := Aside0.mk H
    clear H
    go_enter Try.func57, Try.ntmps57
    go_wp2
    repeat (go_quiet (fail); try go_wp2)
    go_loopg [5] k (fun kq v5 w' => ∃ (x5_1 : Int), v5 = .int .i64 x5_1 ∧ Aside0 (mooringref02_Same.l0 kq l0 l1 x5_1 = some r) ∧ Aside0 (kq ≤ k) ∧ Drawn0 w w')
    case atStart => exact ⟨(0), (by first | rfl | (simp; done) | (simp [*]; done)), H', ⟨Nat.le_refl _⟩, by repeat (first | exact Drawn0.refl _ | apply Drawn0.step)⟩
    case round =>
      clear H'
      try clear c1
      try clear p2
      try clear c3
      try clear c3b0
      try clear c3b1
      try clear c3b2
      obtain ⟨x5_1, rfl, HA, HK1, ⟨m1, rfl⟩⟩ := hrel
      cases gk with
      | zero => exact absurd HA.out (by simp [mooringref02_Same.l0])
      | succ k1 =>
        have H := HA.out
        clear HA
        simp only [mooringref02_Same.l0] at H
        by_cases c4 : x5_1 < (l0.length : Int)
        · rw [if_pos c4] at H
          have c4b0 : decide (x5_1 < (l0.length : Int)) = true := decide_eq_true c4
          clear c4
          by_cases c5 : 0 ≤ x5_1
          · rw [if_pos c5] at H
            have c5b0 : decide (0 ≤ x5_1) = true := decide_eq_true c5
            clear c5
            by_cases c6 : x5_1 < (l1.length : Int)
            · rw [if_pos c6] at H
              have c6b0 : decide (x5_1 < (l1.length : Int)) = true := decide_eq_true c6
              clear c6
              by_cases c7 : (strOfNums (rd_L1 l0 x5_1)).toList = (strOfNums (rd_L1 l1 x5_1)).toList
              · rw [if_pos c7] at H
                have c7b0 : ((strOfNums (rd_L1 l0 x5_1)).toList == (strOfNums (rd_L1 l1 x5_1)).toList) = true := beq_iff_eq.mpr c7
                have c7b1 : ((strOfNums (rd_L1 l0 x5_1)).toList != (strOfNums (rd_L1 l1 x5_1)).toList) = false := bne_eq_false_iff_eq.mpr c7
                clear c7
                have H' := Aside0.mk H
                clear H
                have p101 : 0 ≤ (x5_1 : Int) := of_decide_eq_true (by first | (with_reducible assumption) | assumption)
                have q101 : x5_1 < (l0.length : Int) := of_decide_eq_true (by first | (with_reducible assumption) | assumption)
                obtain ⟨ad101, A101_0, c101_0, e101, hx101_0, hl101_0, hi101_0⟩ := at_L1 HR0.out x5_1 p101 q101
                cases e101
                have HR101_0 := Aside0.mk hi101_0
                have HC101_0 := Aside0.mk hl101_0
                clear hi101_0 hl101_0
                replace p101 := eq_true p101
                replace q101 := eq_true q101
                have hcv8 := Kd.C_string (P := Try.prog) (A := A101_0) (c := c101_0) Try.underlying22 Try.underlying5 Try.underlying9 HR101_0.out
                have hcv8b := fun (n_ : Nat) => Kd.C_string (P := Try.prog) (A := A101_0) (c := c101_0) Try.underlying22 Try.underlying5 Try.underlying9 (Kd.C_drewN HR101_0.out n_)
                have p102 : 0 ≤ (x5_1 : Int) := of_decide_eq_true (by first | (with_reducible assumption) | assumption)
                have q102 : x5_1 < (l1.length : Int) := of_decide_eq_true (by first | (with_reducible assumption) | assumption)
                obtain ⟨ad102, A102_0, c102_0, e102, hx102_0, hl102_0, hi102_0⟩ := at_L1 HR1.out x5_1 p102 q102
                cases e102
                have HR102_0 := Aside0.mk hi102_0
                have HC102_0 := Aside0.mk hl102_0
                clear hi102_0 hl102_0
                replace p102 := eq_true p102
                replace q102 := eq_true q102
                have hcv9 := Kd.C_string (P := Try.prog) (A := A102_0) (c := c102_0) Try.underlying22 Try.underlying5 Try.underlying9 HR102_0.out
                have hcv9b := fun (n_ : Nat) => Kd.C_string (P := Try.prog) (A := A102_0) (c := c102_0) Try.underlying22 Try.underlying5 Try.underlying9 (Kd.C_drewN HR102_0.out n_)
                go_wp2
                repeat (go_quiet (fail); try go_wp2)
                go_roundg k1
                case measure => have := HK1.out; omega
                case rel => exact ⟨(wrap64 (x5_1 + 1)), (by first | rfl | (simp; done) | (simp [*]; done)), H', ⟨by have := HK1.out; omega⟩, by repeat (first | exact Drawn0.refl _ | apply Drawn0.step)⟩
              · rw [if_neg c7] at H
                have c7b0 : ((strOfNums (rd_L1 l0 x5_1)).toList == (strOfNums (rd_L1 l1 x5_1)).toList) = false := beq_eq_false_iff_ne.mpr c7
                have c7b1 : ((strOfNums (rd_L1 l0 x5_1)).toList != (strOfNums (rd_L1 l1 x5_1)).toList) = true := bne_iff_ne.mpr c7
                obtain rfl := Option.some.inj H
                have p101 : 0 ≤ (x5_1 : Int) := of_decide_eq_true (by first | (with_reducible assumption) | assumption)
                have q101 : x5_1 < (l0.length : Int) := of_decide_eq_true (by first | (with_reducible assumption) | assumption)
                obtain ⟨ad101, A101_0, c101_0, e101, hx101_0, hl101_0, hi101_0⟩ := at_L1 HR0.out x5_1 p101 q101
                cases e101
                have HR101_0 := Aside0.mk hi101_0
                have HC101_0 := Aside0.mk hl101_0
                clear hi101_0 hl101_0
                replace p101 := eq_true p101
                replace q101 := eq_true q101
                have hcv10 := Kd.C_string (P := Try.prog) (A := A101_0) (c := c101_0) Try.underlying22 Try.underlying5 Try.underlying9 HR101_0.out
                have hcv10b := fun (n_ : Nat) => Kd.C_string (P := Try.prog) (A := A101_0) (c := c101_0) Try.underlying22 Try.underlying5 Try.underlying9 (Kd.C_drewN HR101_0.out n_)
                have p102 : 0 ≤ (x5_1 : Int) := of_decide_eq_true (by first | (with_reducible assumption) | assumption)
                have q102 : x5_1 < (l1.length : Int) := of_decide_eq_true (by first | (with_reducible assumption) | assumption)
                obtain ⟨ad102, A102_0, c102_0, e102, hx102_0, hl102_0, hi102_0⟩ := at_L1 HR1.out x5_1 p102 q102
                cases e102
                have HR102_0 := Aside0.mk hi102_0
                have HC102_0 := Aside0.mk hl102_0
                clear hi102_0 hl102_0
                replace p102 := eq_true p102
                replace q102 := eq_true q102
                have hcv11 := Kd.C_string (P := Try.prog) (A := A102_0) (c := c102_0) Try.underlying22 Try.underlying5 Try.underlying9 HR102_0.out
                have hcv11b := fun (n_ : Nat) => Kd.C_string (P := Try.prog) (A := A102_0) (c := c102_0) Try.underlying22 Try.underlying5 Try.underlying9 (Kd.C_drewN HR102_0.out n_)
                go_wp2
                repeat (go_quiet (fail); try go_wp2)
                go_ret
                exact ⟨by first | rfl | (simp; done) | (simp [*]; done), by repeat (first | exact Drawn0.refl _ | apply Drawn0.step)⟩
            · rw [if_neg c6] at H
              exact absurd H (by simp)
          · rw [if_neg c5] at H
            exact absurd H (by simp)
        · rw [if_neg c4] at H
          have c4b0 : decide (x5_1 < (l0.length : Int)) = false := decide_eq_false c4
          clear c4
          obtain rfl := Option.some.inj H
          go_wp2
          repeat (go_quiet (fail); try go_wp2)
          go_ret
          exact ⟨by first | rfl | (simp; done) | (simp [*]; done), by repeat (first | exact Drawn0.refl _ | apply Drawn0.step)⟩
  · rw [if_neg c3] at H
    have c3b0 : ((l0.length : Int) == (l1.length : Int)) = false := beq_eq_false_iff_ne.mpr c3
    have c3b1 : ((l0.length : Int) != (l1.length : Int)) = true := bne_iff_ne.mpr c3
    have c3b2 : (l0.length == l1.length) = false := by first | simpa using c3 | (simp at c3 ⊢; omega)
    obtain rfl := Option.some.inj H
    go_enter Try.func57, Try.ntmps57
    go_wp2
    repeat (go_quiet (fail); try go_wp2)
    go_ret
    exact ⟨by first | rfl | (simp; done) | (simp [*]; done), by repeat (first | exact Drawn0.refl _ | apply Drawn0.step)⟩

end Go.Proofs.Ytbogmlckbkogiaa.P

/- The question of layer 2's statements that is always asked: answered with yes. Conditions: none. -/
namespace Go.Proofs.Ytbogmlckbkogiaa.H
open Go.RowKit Go.Proofs.YtbogmlckbkogiaaW.PrintWords Go.Proofs.YtbogmlckbkogiaaW.PrintLast Go.Proofs.Ytbogmlckbkogiaa.Leaf Go.Proofs.Ytbogmlckbkogiaa.Gf Go.Proofs.Ytbogmlckbkogiaa.Red Go.Proofs.Ytbogmlckbkogiaa.P
set_option linter.unusedVariables false
set_option linter.unusedSimpArgs false
theorem C_rows_of (w : World) (ad : Addr) (xs : List (List Int)) (As : Nat → Option Addr) (cs : Nat → Nat) (hl : xs.length ≤ 9223372036854775807)
    (h : ∀ j, j < xs.length → w.cell? (ad.add j) = some (.slice (As j) (xs.getD j []).length (cs j)) ∧ (xs.getD j []).length ≤ cs j ∧ Kd.C (Kd.int .u8) w (As j) (xs.getD j []).length (xs.getD j [])) : Kd.C KR w (some ad) xs.length xs := by
  refine ⟨rfl, hl, fun _ => ⟨ad, rfl, fun j p hj => ?_⟩⟩
  obtain ⟨hlt, hp⟩ := List.getElem?_eq_some_iff.1 hj
  have hd : xs.getD j [] = p := by rw [List.getD_eq_getElem?_getD, hj]; rfl
  obtain ⟨h1, h2, h3⟩ := h j hlt
  rw [hd] at h1 h2 h3
  refine ⟨[.slice (As j) p.length (cs j)], rfl, ⟨As j, cs j, rfl, h2, h3⟩, fun i u hu => ?_⟩
  cases i with
  | zero =>
    cases hu
    show w.cell? (ad.add (j * 1 + 0)) = _
    rw [Nat.mul_one, Nat.add_zero]
    exact h1
  | succ i => simp at hu
theorem inv2 : invR [[0x02#8]] = (oM [[0x8E#8]], 0) := by decide +kernel
def mooringlaw02_awake.f : Option Bool := some true
set_option maxHeartbeats 1000000 in
set_option maxRecDepth 100000 in
theorem mooringlaw02_awake.calls (r : Bool) (w : World) (h : mooringlaw02_awake.f = some r) : Calls Try.prog 51 #[] w fun e w' => e = .returned (.bool r) ∧ Below w.heap.size w w' := by
  obtain rfl := Option.some.inj h
  clear h
  have hin : Aside0 (∀ W : World, Calls Try.prog 52 #[.slice (some ⟨W.heap.size + 1, 0, none⟩) 1 1] ((W.alloc (.cells #[.int .u8 2] 5 (0, 0))).alloc (.cells #[.slice (some ⟨W.heap.size, 0, none⟩) 1 1] 22 (0, 0))) fun e w' => ∃ (g c : Nat) (A : Option Addr) (c' : Nat) (ad : Addr), e = .returned (.tuple #[.slice (some ⟨g, 0, none⟩) 1 c, .int .i64 0]) ∧ w'.cell? ⟨g, 0, none⟩ = some (.slice (some ad) 1 c') ∧ w'.cell? ad = some (.int .u8 142) ∧ Aside0 (Below W.heap.size W w')) := ⟨fun W => by
    have hb1 : Below W.heap.size W (W.alloc (.cells #[.int .u8 2] 5 (0, 0))) := (Below.refl _ _).alloc (Nat.le_refl _) _
    have hb2 := below_alloc hb1 (.cells #[.slice (some ⟨W.heap.size, 0, none⟩) 1 1] 22 (0, 0))
    have hC1 : Kd.C (Kd.int .u8) (W.alloc (.cells #[.int .u8 2] 5 (0, 0))) (some ⟨W.heap.size, 0, none⟩) 1 [2] := reads_block W _ _ [2] rfl (by decide)
    have hC := C_rows_of ((W.alloc (.cells #[.int .u8 2] 5 (0, 0))).alloc (.cells #[.slice (some ⟨W.heap.size, 0, none⟩) 1 1] 22 (0, 0))) ⟨W.heap.size + 1, 0, none⟩ [[2]] (fun _ => some ⟨W.heap.size, 0, none⟩) (fun _ => 1) (by decide) (fun j hj => by
      obtain rfl : j = 0 := by simpa using hj
      refine ⟨?_, by decide, Kd.C_below hC1 ((Below.refl _ _).alloc (Nat.le_refl _) _)⟩
      rw [Addr.add_zero']
      simp)
    have hcall := matrix_Inverse.calls (some ⟨W.heap.size + 1, 0, none⟩) 1 [[2]] _ _ _ hC (by decide) (show matrix_Inverse.f (oM [[0x02#8]]) = some (oM [[0x8E#8]], 0) by rw [matrix_Inverse.f_oM, inv2])
    refine hcall.mono ?_
    rintro e w' ⟨v, rfl, hS, hb⟩
    obtain ⟨g, c, rfl, _⟩ := Kd.S_form hS (by decide)
    obtain ⟨_, _, hC'⟩ := Kd.S_reads' hS
    obtain ⟨ad, A', c', e, hx, _, hC2⟩ := rows_at hC' 0 (by decide)
    obtain ⟨ad2, e2, hx2⟩ := Kd.at_int hC2 0 (by decide) (by decide)
    cases e
    rw [Addr.add_zero'] at hx
    rw [show ((0 : Int)).toNat = 0 from rfl, Addr.add_zero'] at hx2
    subst e2
    exact ⟨g, c, none, c', ad2, rfl, hx, hx2, ⟨below_step hb2 (hb.mono (by simp))⟩⟩⟩
  have hck : Aside0 (∀ W : World, Calls Try.prog 65 #[.slice none 0 0] W fun e w' => e = .returned (.int .i64 1) ∧ Drawn0 W w') := ⟨fun W => by
    obtain ⟨k, hk⟩ := (evCheck [] (by decide)).rounds
    exact matrix_Check.calls k none 0 [] _ W (Kd.C_nil _ _) (by decide) hk⟩
  go_enter Try.func51, Try.ntmps51
  go_wp2_with fail
  refine (hin.out _).mono ?_
  rintro e w1 ⟨g, c, A, c', ad, rfl, hx1, hx2, hB⟩
  clear hin
  go_wp2_with fail
  refine (hck.out _).mono ?_
  rintro e w2 ⟨rfl, ⟨nq, rfl⟩⟩
  go_wp2
  go_ret
  exact ⟨rfl, pw_below_drewN hB.out nq⟩
end Go.Proofs.Ytbogmlckbkogiaa.H
