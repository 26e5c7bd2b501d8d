/- Words and walks that the claim StoreDecodes leans on (what it does not use is left out). -/
import Derived.Test.YtmajfcdfafhkfaaGreatDoorMStoreDecodes3
import Derived.Test.YtmajfcdfafhkfaaGreatDoorMStoreDecodes1
import Derived.Laws.Externs
import Derived.MapKept
import Derived.WideMake
import Derived.Test.YtmajfcdfafhkfaaGreatDoorMStoreDecodes2
import Derived.Deep.RegionHeld3
import Derived.Deep.RegionWith
import Derived.Deep.DeepCutAuto
import Derived.Lib.Bytes
namespace Go.Proofs.YtmajfcdfafhkfaaGreatDoor.H
open Go.RowKit Go.Proofs.YtmajfcdfafhkfaaGreatDoorW.PrintWords Go.Proofs.YtmajfcdfafhkfaaGreatDoorW.PrintLast Go.Proofs.YtmajfcdfafhkfaaGreatDoor.Leaf Go.Proofs.YtmajfcdfafhkfaaGreatDoor.P
set_option linter.unusedVariables false
set_option linter.unusedSimpArgs false
set_option maxHeartbeats 4000000
set_option maxRecDepth 100000
theorem kb_str (l : List Int) (h : Wr.Byte l) : kb (strOfNums l) = l := by
 unfold kb strOfNums
 induction l with
 | nil => rfl
 | cons x t ih =>
  have hx := h x (List.mem_cons_self ..)
  have := ih (fun y hy => h y (List.mem_cons_of_mem _ hy))
  simp_all
  omega
theorem Bytes_no {w : World} {g : Nat} {A : Option Addr} {c : Nat} {b : List Int} {p : Nat} (h : Rd w g A c b p 0) (m : Nat) (hm : m < 2147483648) (hn : Wr.bts m (b.drop p) = none) :
  Calls Tryz.prog 36 #[.pointer (some ⟨g, 0, none⟩), .int .i64 (m : Int)] w fun e w' => e = .returned (.slice none 0 0) ∧ ∃ e', e' ≠ 0 ∧ Rd w' g A c b p e' ∧ Kp w w' g g := by
 cases e : Wr.num m (b.drop p) with
 | none => exact Bytes_no1 h m hm e
 | some q =>
  obtain ⟨n, r1⟩ := q
  refine Bytes_no2 h m n hm r1 e ?_
  unfold Wr.bts at hn
  rw [e] at hn
  simp only [Option.bind_some] at hn
  split at hn
  ·cases hn
  ·omega
theorem dec_step {N i : Nat} {r0 rest r' : List Int} {acts : List S62} {x : S62} (hi : i < N) (HI : Wr.decL N r0 = (Wr.decL (N - i) rest).map fun r => (acts.map toA ++ r.1, r.2)) (hd : Wr.dec1 rest = some (toA x, r')) (hm : Wr.may (toA x)) :
  Wr.decL N r0 = (Wr.decL (N - (i + 1)) r').map fun r => ((acts ++ [x]).map toA ++ r.1, r.2) := by
 rw [HI, show N - i = (N - (i + 1)) + 1 by omega]
 simp only [Wr.decL, hd, Option.bind_some, if_pos hm, Option.map_map]
 congr 1
 funext r
 simp
theorem dec_stop {N i : Nat} {r0 rest : List Int} {acts : List S62} (hi : i < N) (HI : Wr.decL N r0 = (Wr.decL (N - i) rest).map fun r => (acts.map toA ++ r.1, r.2)) (hd : Wr.dec1 rest = none ∨ ∃ a r, Wr.dec1 rest = some (a, r) ∧ ¬ Wr.may a) :
  Wr.decL N r0 = none := by
 rw [HI, show N - i = (N - (i + 1)) + 1 by omega]
 rcases hd with h | ⟨a, r, h, hm⟩
 ·simp only [Wr.decL, h]; rfl
 ·simp only [Wr.decL, h, Option.bind_some, if_neg hm]; rfl
theorem dec_none {N : Nat} {b r0 : List Int} (hn : Wr.num 256 b = some (N, r0)) (h : Wr.decL N r0 = none) : Wr.dec b = none := by
 unfold Wr.dec
 rw [hn]
 simp only [Option.bind_some, h]
 rfl
/-- What Decode answers. -/
def DecR (W w' : World) (e : Ending) (b : List Int) : Prop :=
 (∃ v l, Wr.dec b = some (l.map toA) ∧ b.length ≤ 13005 ∧ e = .returned (.tuple #[v, .int .i64 0]) ∧ Kd.R k62 62 w' W.heap.size (fun k => W.heap.size ≤ k) v l) ∨
 ((Wr.dec b = none ∨ 13005 < b.length) ∧ e = .returned (.tuple #[.slice none 0 0, .int .i64 5]))
theorem conv_nil (W : World) : (Go.convert 23 9 (.slice none 0 0)).run Tryz.prog W = .ok (.string ⟨#[]⟩) W := str_of W none 0 [] (Kd.C_nil _ _)
theorem bts_byte {w : World} {g : Nat} {A : Option Addr} {c : Nat} {b : List Int} {p m : Nat} {e : Int} {k r : List Int} (h : Rd w g A c b p e) (hb : Wr.bts m (b.drop p) = some (k, r)) : Wr.Byte k := (Wr.bts_some (h.by_.drop p) hb).2.2.1
theorem store_Decode (W : World) (A0 : Option Addr) (c0 : Nat) (b : List Int) (hC0 : Kd.C (Kd.int .u8) W A0 b.length b) (hc0 : b.length ≤ c0) (hl : b.length < 1000000000) (hby : Wr.Byte b) :
  Calls Tryz.prog 10 #[.slice A0 b.length c0] W fun e w' => DecR W w' e b ∧ Below W.heap.size W w' := by
 have HRE := Aside0.mk (read_ W A0 c0 b hC0 hc0 hl hby)
 clear hC0
 cases hcn : Wr.num 256 b with
 | none =>
  have HCN := Aside0.mk hcn
  have HDN : Aside0 (Wr.dec b = none) := ⟨by unfold Wr.dec; rw [hcn]; rfl⟩
  clear hcn
  go_enter Tryz.func10, Tryz.ntmps10
  go_wp2_with (first | (go_at_call 34; refine HRE.out.mono ?_; rintro e w1 ⟨g, A, c, rfl, hRd, hg, hb⟩; have HR := Aside0.mk hRd; have HG := Aside0.mk hg; have HB := Aside0.mk hb; clear hRd hg hb) | (go_at_call 35; refine (Number_no HR.out 256 (by decide) (by rw [List.drop_zero]; exact HCN.out)).mono ?_; rintro e w2 ⟨rfl, e', he', hRd, hKp⟩; have HR2 := Aside0.mk hRd; have HE2 := Aside0.mk he'; have HB2 := Aside0.mk (HB.out.trans (hKp.2.1 W.heap.size HG.out HG.out HB.out.size)); clear he' hRd hKp))
  go_loopg [11] 1 (fun gg s11 wr => s11 = .int .i64 0 ∧ wr = w2)
  case atStart => exact ⟨rfl, rfl⟩
  case round =>
   obtain ⟨rfl, rfl⟩ := hrel
   have hez : (e' != 0) = true := by simpa using HE2.out
   go_wp2_with (first | (go_at_call 38; refine (done_bad HR2.out HE2.out).mono ?_; rintro e w' ⟨rfl, hw_⟩; obtain rfl := hw_.symm))
   go_ret2
   exact ⟨Or.inr ⟨Or.inl HDN.out, rfl⟩, HB2.out⟩
 | some q =>
  obtain ⟨N, r0⟩ := q
  have HCN := Aside0.mk hcn
  have HN256 : Aside0 (N ≤ 256) := ⟨(num_peek (p := 0) (Nat.zero_le _) (by rw [List.drop_zero]; exact hcn)).elim fun _ h => h.2.1⟩
  clear hcn
  go_enter Tryz.func10, Tryz.ntmps10
  go_wp2_with (first | (go_at_call 34; refine HRE.out.mono ?_; rintro e w1 ⟨g, A, c, rfl, hRd, hg, hb⟩; have HR := Aside0.mk hRd; have HG := Aside0.mk hg; have HB := Aside0.mk hb; clear hRd hg hb) | (go_at_call 35; refine (Number_ok HR.out 256 N (by decide) r0 (by rw [List.drop_zero]; exact HCN.out)).mono ?_; rintro e w2 ⟨rfl, p0, hr0, hRd, hKp⟩; have HR2 := Aside0.mk hRd; have HP0 := Aside0.mk hr0; have HB2 := Aside0.mk (HB.out.trans (hKp.2.1 W.heap.size HG.out HG.out HB.out.size)); clear hr0 hRd hKp))
  go_loopg [5, 6, 11] N (fun gg s5 _ s11 wr => ∃ (i p : Nat) (acts : List S62), i ≤ N ∧ N - i ≤ gg ∧ s11 = .int .i64 (i : Int) ∧ Aside0 (Rd wr g A c b p 0) ∧ Aside0 (Kd.R k62 62 wr W.heap.size (fun k => W.heap.size ≤ k ∧ g < k) s5 acts) ∧ Aside0 (Below W.heap.size W wr) ∧ Aside0 (Wr.decL N r0 = (Wr.decL (N - i) (b.drop p)).map fun r => (acts.map toA ++ r.1, r.2)) ∧ Aside0 (acts.length = i))
  case atStart => exact ⟨0, p0, [], Nat.zero_le _, by omega, rfl, HR2, ⟨Kd.R_nil _ _ _ _ _⟩, HB2, ⟨by rw [HP0.out]; cases Wr.decL N (b.drop p0) <;> simp⟩, ⟨rfl⟩⟩
  case round =>
   clear HR HB HR2 HB2 HRE
   obtain ⟨i, p, acts, hi, hgg, rfl, HR, HV, HB, HI, HAL⟩ := hrel
   by_cases hlt : i < N
   ·have hltz : (i : Int) < (N : Int) := by omega
    have hw1 : IntKind.i64.wrap ((i : Int) + 1) = (i : Int) + 1 := IntWalk.i64_in _ (by have := HN256.out; omega)
    have HLT := Aside0.mk hlt
    have hcv0 := conv_nil
    cases h1 : Wr.bts 64 (b.drop p) with
    | none =>
     have HD1 : Aside0 (Wr.dec1 (b.drop p) = none) := ⟨by unfold Wr.dec1; rw [h1]; rfl⟩
     have H36 := Aside0.mk (Bytes_no HR.out 64 (by decide) h1)
     clear h1
     go_wp2_with (first | (go_at_call 36; refine H36.out.mono ?_; clear H36; rintro e w1 ⟨rfl, e', he', hRd, hKp⟩; have hez : (e' != 0) = true := (by simpa using he'); have HE := Aside0.mk he'; have HQG := Aside0.mk hRd.lt; have HAL1 := Aside0.mk hRd.al; have HB1 := Aside0.mk (HB.out.trans (hKp.2.1 W.heap.size HG.out HG.out HB.out.size)); have HR1 := Aside0.mk (hRd.kept (below_alloc (Below.refl _ _) (.cells #[.string ⟨#[]⟩, .bool false, .slice none 0 0] 62))); clear he' hRd hKp) | (go_at_call 35; refine (Number_bad HR1.out HE.out _).mono ?_; rintro e w' ⟨rfl, hw_⟩; obtain rfl := hw_.symm) | (go_at_call 37; refine (err_ HR1.out).mono ?_; rintro e w' ⟨rfl, hw_⟩; obtain rfl := hw_.symm))
     go_ret2
     exact ⟨Or.inr ⟨Or.inl (dec_none HCN.out (dec_stop HLT.out HI.out (Or.inl HD1.out))), rfl⟩, below_alloc HB1.out _⟩
    | some q1 =>
     obtain ⟨kx, r1⟩ := q1
     have H36 := Aside0.mk (Bytes_ok HR.out 64 (by decide) kx r1 h1)
     have HBK := Aside0.mk (kb_str kx (bts_byte HR.out h1))
     cases h2 : Wr.num 1 r1 with
     | none =>
      have HD1 : Aside0 (Wr.dec1 (b.drop p) = none) := ⟨by unfold Wr.dec1; rw [h1]; simp only [Option.bind_some]; rw [h2]; rfl⟩
      have H2 := Aside0.mk h2
      clear h1 h2
      go_wp2_with (first | (go_at_call 36; refine H36.out.mono ?_; clear H36; rintro e w1 ⟨v1, rfl, hRk, p1, hr1, hRd1, hKp1⟩; obtain ⟨A1, c1, rfl, _, hc1, hC1⟩ := R_own hRk; have hcv1 := str_of w1 A1 c1 kx hC1; have HP1 := Aside0.mk hr1; have HB1 := Aside0.mk (HB.out.trans (hKp1.2.1 W.heap.size HG.out HG.out HB.out.size)); have HV1 := Aside0.mk (Kd.R_mono (Kd.R_bound (Kd.R_step HV.out (fun k hk hlt => hKp1.2.2 k hlt (Nat.ne_of_gt hk.2) (Nat.ne_of_gt hk.2)))) (ok' := fun k => (W.heap.size ≤ k ∧ g < k) ∧ k < w1.heap.size) (fun k hk => ⟨hk.1, hk.2.2.1⟩)); have HQG := Aside0.mk hRd1.lt; have HAL1 := Aside0.mk hRd1.al; have HR1 := Aside0.mk (hRd1.kept (below_alloc (Below.refl _ _) (.cells #[.string (strOfNums kx), .bool false, .slice none 0 0] 62))); clear hRk hc1 hC1 hr1 hRd1 hKp1) | (go_at_call 35; refine (Number_no HR1.out 1 (by decide) (by rw [← HP1.out]; exact H2.out)).mono ?_; rintro e w2 ⟨rfl, e', he', hRd, hKp⟩; have hez : (e' != 0) = true := (by simpa using he'); have hq2 : w2.heap[w1.heap.size]? = some (.cells #[.string (strOfNums kx), .bool false, .slice none 0 0] 62 (0, 0)) := (hKp.2.2 _ (by rw [World.size_alloc]; omega) (by have := HQG.out; omega) (by have := HQG.out; omega)).trans (heap_top _ _); have q1 := cell_of_block (k := 1) hq2 rfl; have f1 := blk_frozen hq2 1; have HE := Aside0.mk he'; have HR2 := Aside0.mk hRd; have HB2 := Aside0.mk ((below_alloc HB1.out _).trans (hKp.2.1 W.heap.size HG.out HG.out (below_alloc HB1.out _).size)); clear he' hRd hKp) | (go_at_call 37; refine (err_ (Rd.far HR2.out w1.heap.size 1 (by have := HQG.out; omega) HAL1.out (.bool false))).mono ?_; rintro e w' ⟨rfl, hw_⟩; obtain rfl := hw_.symm))
      go_ret2
      exact ⟨Or.inr ⟨Or.inl (dec_none HCN.out (dec_stop HLT.out HI.out (Or.inl HD1.out))), rfl⟩, HB2.out.setCell HB1.out.size _⟩
     | some q2 =>
      obtain ⟨s, r2⟩ := q2
      have H2 := Aside0.mk h2
      have hs1 : s ≤ 1 := (num_peek (p := 0) (Nat.zero_le _) (by rw [List.drop_zero]; exact h2)).elim fun _ h => h.2.1
      rcases (by omega : s = 0 ∨ s = 1) with rfl | rfl
      ·have HD1 : Aside0 (Wr.dec1 (b.drop p) = some (toA ⟨strOfNums kx, false, []⟩, r2)) := ⟨by
        unfold Wr.dec1 toA
        rw [h1]
        simp only [Option.bind_some]
        rw [h2, HBK.out]
        rfl⟩
       clear h1 h2
       by_cases hm : Wr.may (toA ⟨strOfNums kx, false, []⟩)
       ·have HMY : Aside0 (∀ w, Calls Tryz.prog 27 #[.agg #[.string (strOfNums kx), .bool false, .slice none 0 0]] w fun e w' => e = .returned (.bool true) ∧ Below w.heap.size w w') := ⟨fun w => store_may.calls (strOfNums kx) false none 0 [] true w (Kd.C_nil _ _) (Nat.le_refl _) ((may_f ⟨strOfNums kx, false, []⟩).trans (by rw [decide_eq_true hm]))⟩
        have HM := Aside0.mk hm
        clear hm
        go_wp2_with (first | (go_at_call 36; refine H36.out.mono ?_; clear H36; rintro e w1 ⟨v1, rfl, hRk, p1, hr1, hRd1, hKp1⟩; obtain ⟨A1, c1, rfl, _, hc1, hC1⟩ := R_own hRk; have hcv1 := str_of w1 A1 c1 kx hC1; have HP1 := Aside0.mk hr1; have HB1 := Aside0.mk (HB.out.trans (hKp1.2.1 W.heap.size HG.out HG.out HB.out.size)); have HV1 := Aside0.mk (Kd.R_mono (Kd.R_bound (Kd.R_step HV.out (fun k hk hlt => hKp1.2.2 k hlt (Nat.ne_of_gt hk.2) (Nat.ne_of_gt hk.2)))) (ok' := fun k => (W.heap.size ≤ k ∧ g < k) ∧ k < w1.heap.size) (fun k hk => ⟨hk.1, hk.2.2.1⟩)); have HQG := Aside0.mk hRd1.lt; have HAL1 := Aside0.mk hRd1.al; have HR1 := Aside0.mk (hRd1.kept (below_alloc (Below.refl _ _) (.cells #[.string (strOfNums kx), .bool false, .slice none 0 0] 62))); clear hRk hc1 hC1 hr1 hRd1 hKp1) | (go_at_call 35; refine (Number_ok HR1.out 1 0 (by decide) r2 (by rw [← HP1.out]; exact H2.out)).mono ?_; rintro e w2 ⟨rfl, p2, hr2, hRd, hKp⟩; have hq2 : w2.heap[w1.heap.size]? = some (.cells #[.string (strOfNums kx), .bool false, .slice none 0 0] 62 (0, 0)) := (hKp.2.2 _ (by rw [World.size_alloc]; omega) (by have := HQG.out; omega) (by have := HQG.out; omega)).trans (heap_top _ _); have q1 := cell_of_block (k := 1) hq2 rfl; have f1 := blk_frozen hq2 1; have HP2 := Aside0.mk hr2; have HR2 := Aside0.mk hRd; have HSZ2 : Aside0 (w1.heap.size < w2.heap.size) := ⟨Nat.lt_of_lt_of_le (by rw [World.size_alloc]; omega) hKp.1⟩; have HB2 := Aside0.mk ((below_alloc HB1.out _).trans (hKp.2.1 W.heap.size HG.out HG.out (below_alloc HB1.out _).size)); have HV2 := Aside0.mk (Kd.R_step (Kd.R_alloc HV1.out (.cells #[.string (strOfNums kx), .bool false, .slice none 0 0] 62)) (fun k hk hlt => hKp.2.2 k hlt (Nat.ne_of_gt hk.1.2) (Nat.ne_of_gt hk.1.2))); have hq3 : (w2.setCell ⟨w1.heap.size, 1, none⟩ (.bool false)).heap[w1.heap.size]? = some (.cells #[.string (strOfNums kx), .bool false, .slice none 0 0] 62 (0, 0)) := (by simpa using blk_set hq2 1 (.bool false)); have m0 := cell_of_block (k := 0) hq3 rfl; have m1 := cell_of_block (k := 1) hq3 rfl; have m2 := cell_of_block (k := 2) hq3 rfl; have HV3 := Aside0.mk (Kd.R_far HV2.out (p := ⟨w1.heap.size, 1, none⟩) (fun k hk => Nat.ne_of_lt hk.2) (.bool false)); have HB3 := Aside0.mk (HB2.out.setCell (p := ⟨w1.heap.size, 1, none⟩) HB1.out.size (.bool false)); have HR3 := Aside0.mk (Rd.far HR2.out w1.heap.size 1 (by have := HQG.out; omega) HAL1.out (.bool false)); clear hq3; clear hr2 hRd hKp) | (go_at_call 37; refine (err_ HR3.out).mono ?_; rintro e w' ⟨rfl, hw_⟩; obtain rfl := hw_.symm) | (go_at_call 27; refine (HMY.out _).mono ?_; rintro e w4 ⟨rfl, hb⟩; have n0 := pw_cell_below hb m0; have n1 := pw_cell_below hb m1; have n2 := pw_cell_below hb m2; have HB4 := Aside0.mk (below_step HB3.out hb); have HR4 := Aside0.mk (HR3.out.kept hb); have HV4 := Aside0.mk (Kd.R_mono (Kd.R_below HV3.out hb) (ok' := fun k => W.heap.size ≤ k ∧ g < k) (fun k hk => hk.1)); clear hb) | ((with_reducible refine gate_builtin (b := .append) (xs := #[.tmp 34, .tmp 36]) rfl ?_); at_builtin; refine Kd.R_append k62 (w0 := W) W.heap.size rfl (.tmp 34) (.tmp 36) 22 62 (.agg #[.string ⟨#[]⟩, .bool false, .slice none 0 0]) 48 rfl Tryz.underlying22 info62 rfl (by decide) (by decide) u5 acts (⟨strOfNums kx, false, []⟩ : S62) [.string (strOfNums kx), .bool false, .slice none 0 0] (fun k => W.heap.size ≤ k ∧ g < k) (fun _ => False) rfl rfl ?aP (fun _ hk => hk.elim) ?aF ?aO ?aB ?aS ?aL ?_; (case aP => exact k62_mkM _ _ _ _ (Kd.R_nil _ _ _ _ _)); (case aF => exact fun k hk => ⟨Nat.le_trans HB4.out.size hk, by have := HR4.out.lt; omega⟩); (case aO => exact HV4.out); (case aB => exact HB4.out); (case aS => exact HB4.out.size); (case aL => have := HAL.out; have := HLT.out; have := HN256.out; omega); intro v5 w5 ho hb hgr hat; have HV5 := Aside0.mk ho; have HB5 := Aside0.mk hb; have HR5 := Aside0.mk (Rd.grown HR4.out hgr (fun k h => (HV4.out.1 k h).2)); clear ho hb hgr hat))
        go_roundg (N - (i + 1))
        case measure => omega
        case rel => exact ⟨i + 1, p2, acts ++ [⟨strOfNums kx, false, []⟩], by omega, by omega, by go_num, HR5, HV5, HB5, ⟨by rw [← HP2.out]; exact dec_step HLT.out HI.out HD1.out HM.out⟩, ⟨by rw [List.length_append, HAL.out]; rfl⟩⟩
       ·have HMY : Aside0 (∀ w, Calls Tryz.prog 27 #[.agg #[.string (strOfNums kx), .bool false, .slice none 0 0]] w fun e w' => e = .returned (.bool false) ∧ Below w.heap.size w w') := ⟨fun w => store_may.calls (strOfNums kx) false none 0 [] false w (Kd.C_nil _ _) (Nat.le_refl _) ((may_f ⟨strOfNums kx, false, []⟩).trans (by rw [decide_eq_false hm]))⟩
        have HM := Aside0.mk hm
        clear hm
        go_wp2_with (first | (go_at_call 36; refine H36.out.mono ?_; clear H36; rintro e w1 ⟨v1, rfl, hRk, p1, hr1, hRd1, hKp1⟩; obtain ⟨A1, c1, rfl, _, hc1, hC1⟩ := R_own hRk; have hcv1 := str_of w1 A1 c1 kx hC1; have HP1 := Aside0.mk hr1; have HB1 := Aside0.mk (HB.out.trans (hKp1.2.1 W.heap.size HG.out HG.out HB.out.size)); have HV1 := Aside0.mk (Kd.R_mono (Kd.R_bound (Kd.R_step HV.out (fun k hk hlt => hKp1.2.2 k hlt (Nat.ne_of_gt hk.2) (Nat.ne_of_gt hk.2)))) (ok' := fun k => (W.heap.size ≤ k ∧ g < k) ∧ k < w1.heap.size) (fun k hk => ⟨hk.1, hk.2.2.1⟩)); have HQG := Aside0.mk hRd1.lt; have HAL1 := Aside0.mk hRd1.al; have HR1 := Aside0.mk (hRd1.kept (below_alloc (Below.refl _ _) (.cells #[.string (strOfNums kx), .bool false, .slice none 0 0] 62))); clear hRk hc1 hC1 hr1 hRd1 hKp1) | (go_at_call 35; refine (Number_ok HR1.out 1 0 (by decide) r2 (by rw [← HP1.out]; exact H2.out)).mono ?_; rintro e w2 ⟨rfl, p2, hr2, hRd, hKp⟩; have hq2 : w2.heap[w1.heap.size]? = some (.cells #[.string (strOfNums kx), .bool false, .slice none 0 0] 62 (0, 0)) := (hKp.2.2 _ (by rw [World.size_alloc]; omega) (by have := HQG.out; omega) (by have := HQG.out; omega)).trans (heap_top _ _); have q1 := cell_of_block (k := 1) hq2 rfl; have f1 := blk_frozen hq2 1; have HP2 := Aside0.mk hr2; have HR2 := Aside0.mk hRd; have HSZ2 : Aside0 (w1.heap.size < w2.heap.size) := ⟨Nat.lt_of_lt_of_le (by rw [World.size_alloc]; omega) hKp.1⟩; have HB2 := Aside0.mk ((below_alloc HB1.out _).trans (hKp.2.1 W.heap.size HG.out HG.out (below_alloc HB1.out _).size)); have HV2 := Aside0.mk (Kd.R_step (Kd.R_alloc HV1.out (.cells #[.string (strOfNums kx), .bool false, .slice none 0 0] 62)) (fun k hk hlt => hKp.2.2 k hlt (Nat.ne_of_gt hk.1.2) (Nat.ne_of_gt hk.1.2))); have hq3 : (w2.setCell ⟨w1.heap.size, 1, none⟩ (.bool false)).heap[w1.heap.size]? = some (.cells #[.string (strOfNums kx), .bool false, .slice none 0 0] 62 (0, 0)) := (by simpa using blk_set hq2 1 (.bool false)); have m0 := cell_of_block (k := 0) hq3 rfl; have m1 := cell_of_block (k := 1) hq3 rfl; have m2 := cell_of_block (k := 2) hq3 rfl; have HV3 := Aside0.mk (Kd.R_far HV2.out (p := ⟨w1.heap.size, 1, none⟩) (fun k hk => Nat.ne_of_lt hk.2) (.bool false)); have HB3 := Aside0.mk (HB2.out.setCell (p := ⟨w1.heap.size, 1, none⟩) HB1.out.size (.bool false)); have HR3 := Aside0.mk (Rd.far HR2.out w1.heap.size 1 (by have := HQG.out; omega) HAL1.out (.bool false)); clear hq3; clear hr2 hRd hKp) | (go_at_call 37; refine (err_ HR3.out).mono ?_; rintro e w' ⟨rfl, hw_⟩; obtain rfl := hw_.symm) | (go_at_call 27; refine (HMY.out _).mono ?_; rintro e w4 ⟨rfl, hb⟩; have n0 := pw_cell_below hb m0; have n1 := pw_cell_below hb m1; have n2 := pw_cell_below hb m2; have HB4 := Aside0.mk (below_step HB3.out hb); have HR4 := Aside0.mk (HR3.out.kept hb); have HV4 := Aside0.mk (Kd.R_mono (Kd.R_below HV3.out hb) (ok' := fun k => W.heap.size ≤ k ∧ g < k) (fun k hk => hk.1)); clear hb))
        go_ret2
        exact ⟨Or.inr ⟨Or.inl (dec_none HCN.out (dec_stop HLT.out HI.out (Or.inr ⟨_, _, HD1.out, HM.out⟩))), rfl⟩, HB4.out⟩
      ·cases h3 : Wr.bts 4096 r2 with
       | none =>
        have H3 := Aside0.mk h3
        have HD1 : Aside0 (Wr.dec1 (b.drop p) = none) := ⟨by
         unfold Wr.dec1
         rw [h1]
         simp only [Option.bind_some]
         rw [h2]
         simp only [Option.bind_some, if_pos]
         rw [h3]
         rfl⟩
        clear h1 h2 h3
        go_wp2_with (first | (go_at_call 36; refine H36.out.mono ?_; clear H36; rintro e w1 ⟨v1, rfl, hRk, p1, hr1, hRd1, hKp1⟩; obtain ⟨A1, c1, rfl, _, hc1, hC1⟩ := R_own hRk; have hcv1 := str_of w1 A1 c1 kx hC1; have HP1 := Aside0.mk hr1; have HB1 := Aside0.mk (HB.out.trans (hKp1.2.1 W.heap.size HG.out HG.out HB.out.size)); have HV1 := Aside0.mk (Kd.R_mono (Kd.R_bound (Kd.R_step HV.out (fun k hk hlt => hKp1.2.2 k hlt (Nat.ne_of_gt hk.2) (Nat.ne_of_gt hk.2)))) (ok' := fun k => (W.heap.size ≤ k ∧ g < k) ∧ k < w1.heap.size) (fun k hk => ⟨hk.1, hk.2.2.1⟩)); have HQG := Aside0.mk hRd1.lt; have HAL1 := Aside0.mk hRd1.al; have HR1 := Aside0.mk (hRd1.kept (below_alloc (Below.refl _ _) (.cells #[.string (strOfNums kx), .bool false, .slice none 0 0] 62))); clear hRk hc1 hC1 hr1 hRd1 hKp1) | (go_at_call 35; refine (Number_ok HR1.out 1 1 (by decide) r2 (by rw [← HP1.out]; exact H2.out)).mono ?_; rintro e w2 ⟨rfl, p2, hr2, hRd, hKp⟩; have hq2 : w2.heap[w1.heap.size]? = some (.cells #[.string (strOfNums kx), .bool false, .slice none 0 0] 62 (0, 0)) := (hKp.2.2 _ (by rw [World.size_alloc]; omega) (by have := HQG.out; omega) (by have := HQG.out; omega)).trans (heap_top _ _); have q1 := cell_of_block (k := 1) hq2 rfl; have f1 := blk_frozen hq2 1; have HP2 := Aside0.mk hr2; have HR2 := Aside0.mk hRd; have HSZ2 : Aside0 (w1.heap.size < w2.heap.size) := ⟨Nat.lt_of_lt_of_le (by rw [World.size_alloc]; omega) hKp.1⟩; have HB2 := Aside0.mk ((below_alloc HB1.out _).trans (hKp.2.1 W.heap.size HG.out HG.out (below_alloc HB1.out _).size)); have HV2 := Aside0.mk (Kd.R_step (Kd.R_alloc HV1.out (.cells #[.string (strOfNums kx), .bool false, .slice none 0 0] 62)) (fun k hk hlt => hKp.2.2 k hlt (Nat.ne_of_gt hk.1.2) (Nat.ne_of_gt hk.1.2))); have hq3 : (w2.setCell ⟨w1.heap.size, 1, none⟩ (.bool true)).heap[w1.heap.size]? = some (.cells #[.string (strOfNums kx), .bool true, .slice none 0 0] 62 (0, 0)) := (by simpa using blk_set hq2 1 (.bool true)); have m1 := cell_of_block (k := 1) hq3 rfl; have HQ3 := Aside0.mk hq3; have HV3 := Aside0.mk (Kd.R_far HV2.out (p := ⟨w1.heap.size, 1, none⟩) (fun k hk => Nat.ne_of_lt hk.2) (.bool true)); have HB3 := Aside0.mk (HB2.out.setCell (p := ⟨w1.heap.size, 1, none⟩) HB1.out.size (.bool true)); have HR3 := Aside0.mk (Rd.far HR2.out w1.heap.size 1 (by have := HQG.out; omega) HAL1.out (.bool true)); have HS3 : Aside0 (w1.heap.size < (w2.setCell ⟨w1.heap.size, 1, none⟩ (.bool true)).heap.size) := ⟨by rw [World.size_setCell]; exact HSZ2.out⟩; clear hq3; clear hr2 hRd hKp) | (go_at_call 36; refine (Bytes_no HR3.out 4096 (by decide) (by rw [← HP2.out]; exact H3.out)).mono ?_; rintro e w4 ⟨rfl, e', he', hRd, hKp⟩; have hez : (e' != 0) = true := (by simpa using he'); have hq4 : w4.heap[w1.heap.size]? = some (.cells #[.string (strOfNums kx), .bool true, .slice none 0 0] 62 (0, 0)) := (hKp.2.2 _ HS3.out (by have := HQG.out; omega) (by have := HQG.out; omega)).trans HQ3.out; have q4 := cell_of_block (k := 2) hq4 rfl; have f4 := blk_frozen hq4 2; have HB4 := Aside0.mk ((HB3.out.trans (hKp.2.1 W.heap.size HG.out HG.out HB3.out.size)).setCell (p := ⟨w1.heap.size, 2, none⟩) HB1.out.size (.slice none 0 0)); have HR5 := Aside0.mk (Rd.far hRd w1.heap.size 2 (by have := HQG.out; omega) HAL1.out (.slice none 0 0)); clear he' hRd hKp hq4) | (go_at_call 37; refine (err_ HR5.out).mono ?_; rintro e w' ⟨rfl, hw_⟩; obtain rfl := hw_.symm))
        go_ret2
        exact ⟨Or.inr ⟨Or.inl (dec_none HCN.out (dec_stop HLT.out HI.out (Or.inl HD1.out))), rfl⟩, HB4.out⟩
       | some q3 =>
        obtain ⟨dx, r3⟩ := q3
        have H3 := Aside0.mk h3
        have HD1 : Aside0 (Wr.dec1 (b.drop p) = some (toA ⟨strOfNums kx, true, dx⟩, r3)) := ⟨by
         unfold Wr.dec1 toA
         rw [h1]
         simp only [Option.bind_some]
         rw [h2]
         simp only [Option.bind_some, if_pos]
         rw [h3, HBK.out]
         rfl⟩
        clear h1 h2 h3
        by_cases hm : Wr.may (toA ⟨strOfNums kx, true, dx⟩)
        ·have HMF : Aside0 (store_may.f (strOfNums kx) true dx = some true) := ⟨(may_f ⟨strOfNums kx, true, dx⟩).trans (by rw [decide_eq_true hm])⟩
         have HM := Aside0.mk hm
         clear hm
         go_wp2_with (first | (go_at_call 36; refine H36.out.mono ?_; clear H36; rintro e w1 ⟨v1, rfl, hRk, p1, hr1, hRd1, hKp1⟩; obtain ⟨A1, c1, rfl, _, hc1, hC1⟩ := R_own hRk; have hcv1 := str_of w1 A1 c1 kx hC1; have HP1 := Aside0.mk hr1; have HB1 := Aside0.mk (HB.out.trans (hKp1.2.1 W.heap.size HG.out HG.out HB.out.size)); have HV1 := Aside0.mk (Kd.R_mono (Kd.R_bound (Kd.R_step HV.out (fun k hk hlt => hKp1.2.2 k hlt (Nat.ne_of_gt hk.2) (Nat.ne_of_gt hk.2)))) (ok' := fun k => (W.heap.size ≤ k ∧ g < k) ∧ k < w1.heap.size) (fun k hk => ⟨hk.1, hk.2.2.1⟩)); have HQG := Aside0.mk hRd1.lt; have HAL1 := Aside0.mk hRd1.al; have HR1 := Aside0.mk (hRd1.kept (below_alloc (Below.refl _ _) (.cells #[.string (strOfNums kx), .bool false, .slice none 0 0] 62))); clear hRk hc1 hC1 hr1 hRd1 hKp1) | (go_at_call 35; refine (Number_ok HR1.out 1 1 (by decide) r2 (by rw [← HP1.out]; exact H2.out)).mono ?_; rintro e w2 ⟨rfl, p2, hr2, hRd, hKp⟩; have hq2 : w2.heap[w1.heap.size]? = some (.cells #[.string (strOfNums kx), .bool false, .slice none 0 0] 62 (0, 0)) := (hKp.2.2 _ (by rw [World.size_alloc]; omega) (by have := HQG.out; omega) (by have := HQG.out; omega)).trans (heap_top _ _); have q1 := cell_of_block (k := 1) hq2 rfl; have f1 := blk_frozen hq2 1; have HP2 := Aside0.mk hr2; have HR2 := Aside0.mk hRd; have HSZ2 : Aside0 (w1.heap.size < w2.heap.size) := ⟨Nat.lt_of_lt_of_le (by rw [World.size_alloc]; omega) hKp.1⟩; have HB2 := Aside0.mk ((below_alloc HB1.out _).trans (hKp.2.1 W.heap.size HG.out HG.out (below_alloc HB1.out _).size)); have HV2 := Aside0.mk (Kd.R_step (Kd.R_alloc HV1.out (.cells #[.string (strOfNums kx), .bool false, .slice none 0 0] 62)) (fun k hk hlt => hKp.2.2 k hlt (Nat.ne_of_gt hk.1.2) (Nat.ne_of_gt hk.1.2))); have hq3 : (w2.setCell ⟨w1.heap.size, 1, none⟩ (.bool true)).heap[w1.heap.size]? = some (.cells #[.string (strOfNums kx), .bool true, .slice none 0 0] 62 (0, 0)) := (by simpa using blk_set hq2 1 (.bool true)); have m1 := cell_of_block (k := 1) hq3 rfl; have HQ3 := Aside0.mk hq3; have HV3 := Aside0.mk (Kd.R_far HV2.out (p := ⟨w1.heap.size, 1, none⟩) (fun k hk => Nat.ne_of_lt hk.2) (.bool true)); have HB3 := Aside0.mk (HB2.out.setCell (p := ⟨w1.heap.size, 1, none⟩) HB1.out.size (.bool true)); have HR3 := Aside0.mk (Rd.far HR2.out w1.heap.size 1 (by have := HQG.out; omega) HAL1.out (.bool true)); have HS3 : Aside0 (w1.heap.size < (w2.setCell ⟨w1.heap.size, 1, none⟩ (.bool true)).heap.size) := ⟨by rw [World.size_setCell]; exact HSZ2.out⟩; clear hq3; clear hr2 hRd hKp) | (go_at_call 36; refine (Bytes_ok HR3.out 4096 (by decide) dx r3 (by rw [← HP2.out]; exact H3.out)).mono ?_; rintro e w4 ⟨v4, rfl, hRk, p3, hr3, hRd, hKp⟩; obtain ⟨A4, c4, rfl, _, hc4, hC4⟩ := R_own hRk; have hq4 : w4.heap[w1.heap.size]? = some (.cells #[.string (strOfNums kx), .bool true, .slice none 0 0] 62 (0, 0)) := (hKp.2.2 _ HS3.out (by have := HQG.out; omega) (by have := HQG.out; omega)).trans HQ3.out; have q4 := cell_of_block (k := 2) hq4 rfl; have f4 := blk_frozen hq4 2; have hq5 : (w4.setCell ⟨w1.heap.size, 2, none⟩ (.slice A4 dx.length c4)).heap[w1.heap.size]? = some (.cells #[.string (strOfNums kx), .bool true, .slice A4 dx.length c4] 62 (0, 0)) := (by simpa using blk_set hq4 2 (.slice A4 dx.length c4)); have s0 := cell_of_block (k := 0) hq5 rfl; have s1 := cell_of_block (k := 1) hq5 rfl; have s2 := cell_of_block (k := 2) hq5 rfl; have HP3 := Aside0.mk hr3; have HB5 := Aside0.mk ((HB3.out.trans (hKp.2.1 W.heap.size HG.out HG.out HB3.out.size)).setCell (p := ⟨w1.heap.size, 2, none⟩) HB1.out.size (.slice A4 dx.length c4)); have HR5 := Aside0.mk (Rd.far hRd w1.heap.size 2 (by have := HQG.out; omega) HAL1.out (.slice A4 dx.length c4)); have HV5 := Aside0.mk (Kd.R_far (Kd.R_step HV3.out (fun k hk hlt => hKp.2.2 k hlt (Nat.ne_of_gt hk.1.2) (Nat.ne_of_gt hk.1.2))) (p := ⟨w1.heap.size, 2, none⟩) (fun k hk => Nat.ne_of_lt hk.2) (.slice A4 dx.length c4)); have HD5 := Aside0.mk (Kd.R_far (Kd.R_mono (Kd.R_lower hRk HB3.out.size) (ok' := fun k => w1.heap.size < k) (fun k hk => Nat.lt_of_lt_of_le HS3.out hk)) (p := ⟨w1.heap.size, 2, none⟩) (fun k hk => Nat.ne_of_gt hk) (.slice A4 dx.length c4)); clear hRk hr3 hRd hKp hq4 hq5 hc4 hC4 m1) | (go_at_call 37; refine (err_ HR5.out).mono ?_; rintro e w' ⟨rfl, hw_⟩; obtain rfl := hw_.symm) | (go_at_call 27; refine ((store_may.calls (strOfNums kx) true A4 c4 dx true (w4.setCell ⟨w1.heap.size, 2, none⟩ (.slice A4 dx.length c4)) (Kd.R_reads' HD5.out).2.2 (Kd.R_reads' HD5.out).2.1 HMF.out)).mono ?_; rintro e w6 ⟨rfl, hb⟩; have n0 := pw_cell_below hb s0; have n1 := pw_cell_below hb s1; have n2 := pw_cell_below hb s2; have HB6 := Aside0.mk (below_step HB5.out hb); have HR6 := Aside0.mk (HR5.out.kept hb); have HV6 := Aside0.mk (Kd.R_below HV5.out hb); have HD6 := Aside0.mk (Kd.R_below HD5.out hb); clear hb) | ((with_reducible refine gate_builtin (b := .append) (xs := #[.tmp 34, .tmp 36]) rfl ?_); at_builtin; refine Kd.R_append k62 (w0 := W) W.heap.size rfl (.tmp 34) (.tmp 36) 22 62 (.agg #[.string ⟨#[]⟩, .bool false, .slice none 0 0]) 48 rfl Tryz.underlying22 info62 rfl (by decide) (by decide) u5 acts (⟨strOfNums kx, true, dx⟩ : S62) [.string (strOfNums kx), .bool true, .slice A4 dx.length c4] (fun k => W.heap.size ≤ k ∧ g < k) (fun k => w1.heap.size < k) rfl rfl ?aP ?aK ?aF ?aO ?aB ?aS ?aL ?_; (case aP => exact k62_mkM _ _ _ _ HD6.out); (case aK => exact fun k hk => ⟨⟨Nat.le_trans HB1.out.size (Nat.le_of_lt hk), Nat.lt_trans HQG.out hk⟩, fun h => by have := (HV6.out.1 k h.symm).2; omega⟩); (case aF => exact fun k hk => ⟨Nat.le_trans HB6.out.size hk, by have := HR6.out.lt; omega⟩); (case aO => exact Kd.R_mono HV6.out (fun k hk => hk.1)); (case aB => exact HB6.out); (case aS => exact HB6.out.size); (case aL => have := HAL.out; have := HLT.out; have := HN256.out; omega); intro v7 w7 ho hb hgr hat; have HV7 := Aside0.mk ho; have HB7 := Aside0.mk hb; have HR7 := Aside0.mk (Rd.grown HR6.out hgr (fun k h => (HV6.out.1 k h).1.2)); clear ho hb hgr hat))
         go_roundg (N - (i + 1))
         case measure => omega
         case rel => exact ⟨i + 1, p3, acts ++ [⟨strOfNums kx, true, dx⟩], by omega, by omega, by go_num, HR7, HV7, HB7, ⟨by rw [← HP3.out]; exact dec_step HLT.out HI.out HD1.out HM.out⟩, ⟨by rw [List.length_append, HAL.out]; rfl⟩⟩
        ·have HMF : Aside0 (store_may.f (strOfNums kx) true dx = some false) := ⟨(may_f ⟨strOfNums kx, true, dx⟩).trans (by rw [decide_eq_false hm])⟩
         have HM := Aside0.mk hm
         clear hm
         go_wp2_with (first | (go_at_call 36; refine H36.out.mono ?_; clear H36; rintro e w1 ⟨v1, rfl, hRk, p1, hr1, hRd1, hKp1⟩; obtain ⟨A1, c1, rfl, _, hc1, hC1⟩ := R_own hRk; have hcv1 := str_of w1 A1 c1 kx hC1; have HP1 := Aside0.mk hr1; have HB1 := Aside0.mk (HB.out.trans (hKp1.2.1 W.heap.size HG.out HG.out HB.out.size)); have HV1 := Aside0.mk (Kd.R_mono (Kd.R_bound (Kd.R_step HV.out (fun k hk hlt => hKp1.2.2 k hlt (Nat.ne_of_gt hk.2) (Nat.ne_of_gt hk.2)))) (ok' := fun k => (W.heap.size ≤ k ∧ g < k) ∧ k < w1.heap.size) (fun k hk => ⟨hk.1, hk.2.2.1⟩)); have HQG := Aside0.mk hRd1.lt; have HAL1 := Aside0.mk hRd1.al; have HR1 := Aside0.mk (hRd1.kept (below_alloc (Below.refl _ _) (.cells #[.string (strOfNums kx), .bool false, .slice none 0 0] 62))); clear hRk hc1 hC1 hr1 hRd1 hKp1) | (go_at_call 35; refine (Number_ok HR1.out 1 1 (by decide) r2 (by rw [← HP1.out]; exact H2.out)).mono ?_; rintro e w2 ⟨rfl, p2, hr2, hRd, hKp⟩; have hq2 : w2.heap[w1.heap.size]? = some (.cells #[.string (strOfNums kx), .bool false, .slice none 0 0] 62 (0, 0)) := (hKp.2.2 _ (by rw [World.size_alloc]; omega) (by have := HQG.out; omega) (by have := HQG.out; omega)).trans (heap_top _ _); have q1 := cell_of_block (k := 1) hq2 rfl; have f1 := blk_frozen hq2 1; have HP2 := Aside0.mk hr2; have HR2 := Aside0.mk hRd; have HSZ2 : Aside0 (w1.heap.size < w2.heap.size) := ⟨Nat.lt_of_lt_of_le (by rw [World.size_alloc]; omega) hKp.1⟩; have HB2 := Aside0.mk ((below_alloc HB1.out _).trans (hKp.2.1 W.heap.size HG.out HG.out (below_alloc HB1.out _).size)); have HV2 := Aside0.mk (Kd.R_step (Kd.R_alloc HV1.out (.cells #[.string (strOfNums kx), .bool false, .slice none 0 0] 62)) (fun k hk hlt => hKp.2.2 k hlt (Nat.ne_of_gt hk.1.2) (Nat.ne_of_gt hk.1.2))); have hq3 : (w2.setCell ⟨w1.heap.size, 1, none⟩ (.bool true)).heap[w1.heap.size]? = some (.cells #[.string (strOfNums kx), .bool true, .slice none 0 0] 62 (0, 0)) := (by simpa using blk_set hq2 1 (.bool true)); have m1 := cell_of_block (k := 1) hq3 rfl; have HQ3 := Aside0.mk hq3; have HV3 := Aside0.mk (Kd.R_far HV2.out (p := ⟨w1.heap.size, 1, none⟩) (fun k hk => Nat.ne_of_lt hk.2) (.bool true)); have HB3 := Aside0.mk (HB2.out.setCell (p := ⟨w1.heap.size, 1, none⟩) HB1.out.size (.bool true)); have HR3 := Aside0.mk (Rd.far HR2.out w1.heap.size 1 (by have := HQG.out; omega) HAL1.out (.bool true)); have HS3 : Aside0 (w1.heap.size < (w2.setCell ⟨w1.heap.size, 1, none⟩ (.bool true)).heap.size) := ⟨by rw [World.size_setCell]; exact HSZ2.out⟩; clear hq3; clear hr2 hRd hKp) | (go_at_call 36; refine (Bytes_ok HR3.out 4096 (by decide) dx r3 (by rw [← HP2.out]; exact H3.out)).mono ?_; rintro e w4 ⟨v4, rfl, hRk, p3, hr3, hRd, hKp⟩; obtain ⟨A4, c4, rfl, _, hc4, hC4⟩ := R_own hRk; have hq4 : w4.heap[w1.heap.size]? = some (.cells #[.string (strOfNums kx), .bool true, .slice none 0 0] 62 (0, 0)) := (hKp.2.2 _ HS3.out (by have := HQG.out; omega) (by have := HQG.out; omega)).trans HQ3.out; have q4 := cell_of_block (k := 2) hq4 rfl; have f4 := blk_frozen hq4 2; have hq5 : (w4.setCell ⟨w1.heap.size, 2, none⟩ (.slice A4 dx.length c4)).heap[w1.heap.size]? = some (.cells #[.string (strOfNums kx), .bool true, .slice A4 dx.length c4] 62 (0, 0)) := (by simpa using blk_set hq4 2 (.slice A4 dx.length c4)); have s0 := cell_of_block (k := 0) hq5 rfl; have s1 := cell_of_block (k := 1) hq5 rfl; have s2 := cell_of_block (k := 2) hq5 rfl; have HP3 := Aside0.mk hr3; have HB5 := Aside0.mk ((HB3.out.trans (hKp.2.1 W.heap.size HG.out HG.out HB3.out.size)).setCell (p := ⟨w1.heap.size, 2, none⟩) HB1.out.size (.slice A4 dx.length c4)); have HR5 := Aside0.mk (Rd.far hRd w1.heap.size 2 (by have := HQG.out; omega) HAL1.out (.slice A4 dx.length c4)); have HV5 := Aside0.mk (Kd.R_far (Kd.R_step HV3.out (fun k hk hlt => hKp.2.2 k hlt (Nat.ne_of_gt hk.1.2) (Nat.ne_of_gt hk.1.2))) (p := ⟨w1.heap.size, 2, none⟩) (fun k hk => Nat.ne_of_lt hk.2) (.slice A4 dx.length c4)); have HD5 := Aside0.mk (Kd.R_far (Kd.R_mono (Kd.R_lower hRk HB3.out.size) (ok' := fun k => w1.heap.size < k) (fun k hk => Nat.lt_of_lt_of_le HS3.out hk)) (p := ⟨w1.heap.size, 2, none⟩) (fun k hk => Nat.ne_of_gt hk) (.slice A4 dx.length c4)); clear hRk hr3 hRd hKp hq4 hq5 hc4 hC4 m1) | (go_at_call 37; refine (err_ HR5.out).mono ?_; rintro e w' ⟨rfl, hw_⟩; obtain rfl := hw_.symm) | (go_at_call 27; refine ((store_may.calls (strOfNums kx) true A4 c4 dx false (w4.setCell ⟨w1.heap.size, 2, none⟩ (.slice A4 dx.length c4)) (Kd.R_reads' HD5.out).2.2 (Kd.R_reads' HD5.out).2.1 HMF.out)).mono ?_; rintro e w6 ⟨rfl, hb⟩; have n0 := pw_cell_below hb s0; have n1 := pw_cell_below hb s1; have n2 := pw_cell_below hb s2; have HB6 := Aside0.mk (below_step HB5.out hb); have HR6 := Aside0.mk (HR5.out.kept hb); have HV6 := Aside0.mk (Kd.R_below HV5.out hb); have HD6 := Aside0.mk (Kd.R_below HD5.out hb); clear hb))
         go_ret2
         exact ⟨Or.inr ⟨Or.inl (dec_none HCN.out (dec_stop HLT.out HI.out (Or.inr ⟨_, _, HD1.out, HM.out⟩))), rfl⟩, HB6.out⟩
   ·have hltz : ¬ (i : Int) < (N : Int) := by omega
    obtain rfl : i = N := by omega
    have HEN : Aside0 (Wr.dec b = if b.drop p = [] then some (acts.map toA) else none) := ⟨by
     unfold Wr.dec
     rw [HCN.out]
     simp only [Option.bind_some]
     rw [HI.out, Nat.sub_self]
     simp [Wr.decL]⟩
    obtain ⟨Av, cv, rfl⟩ := Kd.R_slice HV.out
    by_cases hd : b.drop p = []
    ·have HD : Aside0 (Calls Tryz.prog 38 #[.pointer (some ⟨g, 0, none⟩)] wr fun r w' => r = .returned (.int .i64 0) ∧ Drawn0 wr w') := ⟨by have := done_ok HR.out; rwa [if_pos hd] at this⟩
     rw [if_pos hd] at HEN
     clear hd
     by_cases hbig : 13005 < b.length
     ·have hbz : ((b.length : Nat) : Int) > 13005 := by omega
      go_wp2_with (first | (go_at_call 38; refine HD.out.mono ?_; rintro e w' ⟨rfl, ⟨nd, rfl⟩⟩))
      go_ret2
      exact ⟨Or.inr ⟨Or.inr hbig, rfl⟩, pw_below_drewN HB.out nd⟩
     ·have hbz : ¬ ((b.length : Nat) : Int) > 13005 := by omega
      go_wp2_with (first | (go_at_call 38; refine HD.out.mono ?_; rintro e w' ⟨rfl, ⟨nd, rfl⟩⟩))
      go_ret2
      exact ⟨Or.inl ⟨_, acts, HEN.out, by omega, rfl, Kd.R_mono (Kd.R_drewN HV.out nd) (fun k hk => hk.1)⟩, pw_below_drewN HB.out nd⟩
    ·have HD : Aside0 (Calls Tryz.prog 38 #[.pointer (some ⟨g, 0, none⟩)] wr fun r w' => r = .returned (.int .i64 5) ∧ Drawn0 wr w') := ⟨by have := done_ok HR.out; rwa [if_neg hd] at this⟩
     rw [if_neg hd] at HEN
     clear hd
     go_wp2_with (first | (go_at_call 38; refine HD.out.mono ?_; rintro e w' ⟨rfl, ⟨nd, rfl⟩⟩))
     go_ret2
     exact ⟨Or.inr ⟨Or.inl HEN.out, rfl⟩, pw_below_drewN HB.out nd⟩
end Go.Proofs.YtmajfcdfafhkfaaGreatDoor.H
namespace Go.Proofs.YtmajfcdfafhkfaaGreatDoor.H
open Go.RowKit Go.Proofs.YtmajfcdfafhkfaaGreatDoorW.PrintWords Go.Proofs.YtmajfcdfafhkfaaGreatDoorW.PrintLast Go.Proofs.YtmajfcdfafhkfaaGreatDoor.Leaf Go.Proofs.YtmajfcdfafhkfaaGreatDoor.P
set_option linter.unusedVariables false
set_option linter.unusedSimpArgs false
set_option maxHeartbeats 4000000
set_option maxRecDepth 100000
def ka : ByteArray := ⟨#[97]⟩
theorem mk37 (w : World) : (Instr.makeMap 37 none).run Tryz.prog w = .ok (.map (some w.heap.size)) (w.alloc (.map #[] 0)) := by simp [Instr.makeMap]
theorem lk37 (w : World) (r clock born : Nat) (v : Value) (hb : w.heap[r]? = some (.map #[{ key := .string ka, val := v, born := born }] clock)) :
    (Instr.lookup 37 (.map (some r)) (.string ka) true).run Tryz.prog w = .ok (.tuple #[v, .bool true]) w := by
  have hm : Tryz.prog.underlying 37 = some (.map 9 23) := by kernel_rfl
  have hk : Tryz.prog.underlying 9 = some .string := by kernel_rfl
  have hc : ∀ e, (Instr.checkKey e 10000 9 (.string ka)).run Tryz.prog w = .ok () w := fun e => MapKept.run_checkKey (k := .string ka) hk (by simp [MapKept.IsKey]) e 9999
  have hf : Instr.findNow .string (.string ka) [({ key := .string ka, val := v, born := born } : MapEntry)] 0 = some (some (0, v)) := by rfl
  simp [Instr.lookup, run_underlying hm, MapKept.run_getObj_map hb, hc, MapKept.run_findKey hk hf, Result.andThen]
theorem up37 (w : World) (r clock : Nat) (val : Value) (hb : w.heap[r]? = some (.map #[] clock)) :
    (Instr.mapUpdate 37 (.map (some r)) (.string ka) val).run Tryz.prog w = .ok () { w with heap := w.heap.setIfInBounds r (.map #[{ key := .string ka, val := val, born := clock }] (clock + 1)) } := by
  have hm : Tryz.prog.underlying 37 = some (.map 9 23) := by kernel_rfl
  have hk : Tryz.prog.underlying 9 = some .string := by kernel_rfl
  have hc : (Instr.checkKey false 10000 9 (.string ka)).run Tryz.prog w = .ok () w := MapKept.run_checkKey (k := .string ka) hk (by simp [MapKept.IsKey]) false 9999
  have hf : Instr.findNow .string (.string ka) ([] : List MapEntry) 0 = some none := by rfl
  simp [Instr.mapUpdate, run_underlying hm, MapKept.run_getObj_map hb, hc, MapKept.run_findKey hk hf, MapKept.run_setObj_map _ hb, Result.andThen]
theorem eqIn37 (w : World) (d : Nat) (p : Option Nat) : (Op.equalIn (d + 1) 37 (.map p) (.map none)).run Tryz.prog w = .ok p.isNone w := by
  have hm : Tryz.prog.underlying 37 = some (.map 9 23) := by kernel_rfl
  cases p <;> simp [Op.equalIn, run_underlying hm]
theorem eq37 (w : World) (p : Option Nat) : (binOp .eql 37 (.map p) (.map none)).run Tryz.prog w = .ok (.bool p.isNone) w := by
  simp only [binOp]
  simp [show Op.equal 37 (.map p) (.map none) = Op.equalIn (9999 + 1) 37 (.map p) (.map none) from rfl, eqIn37 w 9999 p]
theorem ta37 (w : World) (v : Value) : (Instr.typeAssert (.iface 37 v) 20 37 false).run Tryz.prog w = .ok v w := by
  have hm : Tryz.prog.underlying 37 = some (.map 9 23) := by kernel_rfl
  simp [Instr.typeAssert, run_underlying hm, go_sem, Result.andThen]
theorem clone_run (w : World) (t : TypeId) {r : Nat} {es : Array MapEntry} {clock : Nat} (hb : w.heap[r]? = some (.map es clock)) :
    (Extern.MapsClone.clone #[.iface t (.map (some r))]).run Tryz.prog w = .ok (.iface t (.map (some w.heap.size))) (w.alloc (.map es clock)) := by
  have e : Extern.MapsClone.clone #[.iface t (.map (some r))] = (getObj r >>= fun o => match o with
      | .map entries clock => (newObj (.map entries clock) >>= fun n => pure (.iface t (.map (some n))))
      | _ => stuck "maps.clone: a map expected") := rfl
  rw [e]
  simp [MapKept.run_getObj_map hb, Result.andThen, go_sem]
theorem maps_Clone (W : World) (b : Nat) (es : Array MapEntry) (clock : Nat) (hb : W.heap[b]? = some (.map es clock)) :
    Calls Tryz.prog 68 #[.map (some b)] W fun e w' => e = .returned (.map (some W.heap.size)) ∧ w' = W.alloc (.map es clock) := by
  have hq := eq37
  go_enter Tryz.func68, Tryz.ntmps68
  go_wp2_with fail
  rw [run_callFunc_extern Tryz.func83 (by kernel_rfl) (by kernel_rfl) (by kernel_rfl) (e := Extern.MapsClone.clone) (by kernel_rfl), clone_run W 37 hb]
  simp only [Result.andThen]
  rw [Oper.upon_value]
  go_wp2_with fail
  rw [ta37]
  simp only [Result.andThen]
  rw [Oper.upon_value]
  go_wp2_with fail
  go_ret
  exact ⟨rfl, rfl⟩
end Go.Proofs.YtmajfcdfafhkfaaGreatDoor.H
namespace Go.Proofs.YtmajfcdfafhkfaaGreatDoor.H
open Go.RowKit Go.Proofs.YtmajfcdfafhkfaaGreatDoorW.PrintWords Go.Proofs.YtmajfcdfafhkfaaGreatDoorW.PrintLast Go.Proofs.YtmajfcdfafhkfaaGreatDoor.Leaf Go.Proofs.YtmajfcdfafhkfaaGreatDoor.P
set_option linter.unusedVariables false
set_option linter.unusedSimpArgs false
set_option maxHeartbeats 4000000
set_option maxRecDepth 100000
def mset (w : World) (m : Nat) (o : Obj) : World := { w with heap := w.heap.setIfInBounds m o }
theorem mset_at (w : World) (m : Nat) (o : Obj) (h : m < w.heap.size) : (mset w m o).heap[m]? = some o := by
  show (w.heap.setIfInBounds m o)[m]? = _
  rw [Array.getElem?_setIfInBounds_self_of_lt h]
theorem mset_other (w : World) (m k : Nat) (o : Obj) (h : k ≠ m) : (mset w m o).heap[k]? = w.heap[k]? := by
  show (w.heap.setIfInBounds m o)[k]? = _
  rw [Array.getElem?_setIfInBounds_ne (Ne.symm h)]
theorem below_mset {B m : Nat} {W w : World} (h : Below B W w) (hm : B ≤ m) (o : Obj) : Below B W (mset w m o) :=
  ⟨h.os, h.tape, h.output, by show W.heap.size ≤ (w.heap.setIfInBounds m o).size; rw [Array.size_setIfInBounds]; exact h.size, fun k hk => (mset_other w m k o (by omega)).trans (h.block k hk)⟩
/-- The act. -/
def x7 : S62 := ⟨ka, true, [7]⟩
/-- A map of the one key 'a', whose value is 7. -/
def Has (w : World) (m lo : Nat) : Prop := ∃ v c born clock, (∀ ad, v = some ad → lo ≤ ad.block) ∧ m < w.heap.size ∧ w.heap[m]? = some (.map #[{ key := .string ka, val := .slice v 1 c, born := born }] clock) ∧ 1 ≤ c ∧ Kd.C (Kd.int .u8) w v 1 [7]
theorem Has.kept {w w' : World} {m lo : Nat} (h : Has w m lo) (hb : Below w.heap.size w w') : Has w' m lo := by
  obtain ⟨v, c, born, clock, h0, h1, h2, h3, h4⟩ := h
  exact ⟨v, c, born, clock, h0, Nat.lt_of_lt_of_le h1 hb.size, (hb.block m h1).trans h2, h3, Kd.C_below h4 hb⟩
theorem store_done (W : World) (b : Nat) (hb : W.heap[b]? = some (.map #[] 0)) (A : Option Addr) (c : Nat) (hC : Kd.C k62 W A 1 [x7]) :
    Calls Tryz.prog 44 #[.map (some b), .slice A 1 c] W fun e w' => ∃ m, e = .returned (.tuple #[.map (some m), .bool true]) ∧ W.heap.size ≤ m ∧ Has w' m W.heap.size ∧ Below W.heap.size W w' := by
  have HCL := Aside0.mk (maps_Clone W b #[] 0 hb)
  have HC := Aside0.mk hC
  clear hC
  go_enter Tryz.func44, Tryz.ntmps44
  go_wp2_with (first | (go_at_call 68; refine HCL.out.mono ?_; rintro e w' ⟨rfl, hw_⟩; obtain rfl := hw_.symm))
  go_loopg [8, 15] 2 (fun gg _ s15 wr => (s15 = .int .i64 0 ∧ 1 ≤ gg ∧ wr = W.alloc (.map #[] 0)) ∨ (s15 = .int .i64 1 ∧ Aside0 (Has wr W.heap.size W.heap.size ∧ Below W.heap.size W wr)))
  case atStart => exact Or.inl ⟨rfl, by omega, rfl⟩
  case round =>
    rcases hrel with ⟨rfl, hg, rfl⟩ | ⟨rfl, HH⟩
    · have hBA : Below W.heap.size W (W.alloc (.map #[] 0)) := below_alloc (Below.refl _ _) _
      obtain ⟨ad, A2, c2, rfl, hx0, hx1, hx2, hl2, hC2⟩ := at_act (Kd.C_below HC.out hBA) 0 (by decide)
      have hrd : rd_T62 [x7] ((0 : Nat) : Int) = x7 := rfl
      rw [hrd] at hx0 hx1 hx2 hl2 hC2
      have h00 : ad.add 0 = ad := by first | rfl | (cases ad; rfl) | simp [Addr.add] | (cases ad; simp [Addr.add])
      have hx0' : (W.alloc (.map #[] 0)).cell? ad = some (.string ka) := by have h := hx0; rw [show 0 * 3 = 0 from rfl, h00] at h; exact h
      have hx1' : (W.alloc (.map #[] 0)).cell? ⟨ad.block, ad.off + 1, none⟩ = some (.bool true) := by have h := hx1; rw [show 0 * 3 = 0 from rfl, h00] at h; exact h
      have hx2' : (W.alloc (.map #[] 0)).cell? ⟨ad.block, ad.off + 2, none⟩ = some (.slice A2 1 c2) := by have h := hx2; rw [show 0 * 3 = 0 from rfl, h00] at h; exact h
      have hm : (W.alloc (.map #[] 0)).heap[W.heap.size]? = some (.map #[] 0) := heap_top _ _
      clear hx0 hx1 hx2 hrd
      go_upto_region 6 with (fail)
      have t0 := cell_top (W.alloc (.map #[] 0)) #[.string ka, .bool true, .slice A2 1 c2] 62 0
      have t2 := cell_top (W.alloc (.map #[] 0)) #[.string ka, .bool true, .slice A2 1 c2] 62 2
      rw [World.size_alloc] at t0 t2
      have hB0 : Below W.heap.size W ((W.alloc (.map #[] 0)).alloc (.cells #[.string ka, .bool true, .slice A2 1 c2] 62)) := below_alloc hBA _
      have hm0 : ((W.alloc (.map #[] 0)).alloc (.cells #[.string ka, .bool true, .slice A2 1 c2] 62)).heap[W.heap.size]? = some (.map #[] 0) := (Below.heap_alloc _ _ _ (by rw [World.size_alloc]; omega)).trans hm
      have hml : W.heap.size < ((W.alloc (.map #[] 0)).alloc (.cells #[.string ka, .bool true, .slice A2 1 c2] 62)).heap.size := by rw [World.size_alloc, World.size_alloc]; omega
      have hC0 := Kd.C_alloc hC2 (.cells #[.string ka, .bool true, .slice A2 1 c2] 62)
      have HF := Aside0.mk (And.intro hB0 (And.intro hm0 (And.intro hml (And.intro hC0 hl2))))
      clear hx0' hx1' hx2' hB0 hm0 hml hC0 hC2 hl2 hm hBA
      generalize (W.alloc (.map #[] 0)).alloc (.cells #[.string ka, .bool true, .slice A2 1 c2] 62) = w0 at *
      have t0' : w0.cell? ⟨W.heap.size + 1, 0, none⟩ = some (.string ka) := t0
      have t2' : w0.cell? ⟨W.heap.size + 1, 2, none⟩ = some (.slice A2 1 c2) := t2
      clear t0 t2
      have HCL2 : Aside0 (∀ w', Below w0.heap.size w0 w' → Calls Tryz.prog 46 #[.slice A2 1 c2] w' fun e w'' => ∃ v0_ : Value, e = .returned (v0_) ∧ Kd.R (Kd.int .u8) 5 w'' w'.heap.size (fun _ => True) v0_ [7] ∧ Below w'.heap.size w' w'') := ⟨fun w' hb => slices_Clone_byte_byte.calls A2 c2 [7] [7] w' (Kd.C_below HF.out.2.2.2.1 hb) HF.out.2.2.2.2 (by unfold slices_Clone_byte_byte.f; rw [if_pos (by decide)])⟩
      have HD : Aside0 (Below w0.heap.size w0 w0.drew) := ⟨Below.drew (Below.refl _ _)⟩
      go_region_with (first | (go_at_call 46; refine (HCL2.out _ (by first | exact Below.refl _ _ | exact below_drew (Below.refl _ _))).mono ?_; rintro e w1 ⟨v, rfl, hR, hb⟩; obtain ⟨Av, cv, rfl, _, hcv, hCv⟩ := R_own hR; have HB1 : Aside0 (Below w0.heap.size w0 w1) := ⟨by first | exact hb | exact below_step (below_drew (Below.refl _ _)) hb⟩; have hm1 := (HB1.out.block _ HF.out.2.2.1).trans HF.out.2.1; have k0 := pw_cell_below HB1.out t0'; have hup := up37 w1 W.heap.size 0 (.slice Av 1 cv) hm1; have HV := Aside0.mk (And.intro hcv hCv); have HVL := Aside0.mk (fun ad (h : Av = some ad) => (show W.heap.size ≤ ad.block from Nat.le_trans (Nat.le_trans (Nat.le_of_lt HF.out.2.2.1) (Nat.le_refl _)) ((Kd.R_bound hR).1 ad.block (by rw [h]; rfl)).2.1)); have HVN := Aside0.mk (fun ad (h : Av = some ad) => (show ad.block ≠ W.heap.size from fun he => absurd ((Kd.R_bound hR).1 ad.block (by rw [h]; rfl)).2.1 (by have h3 := HF.out.2.2.1; rw [he]; exact Nat.not_le_of_lt h3))); have HB2 := Aside0.mk (below_step HF.out.1 HB1.out); clear hR hb hcv hCv hm1))
      all_goals
        clear hup
        have HH : Aside0 (Has (mset w1 W.heap.size (.map #[{ key := .string ka, val := .slice Av 1 cv, born := 0 }] 1)) W.heap.size W.heap.size ∧ Below W.heap.size W (mset w1 W.heap.size (.map #[{ key := .string ka, val := .slice Av 1 cv, born := 0 }] 1))) := ⟨by
          have hlt : W.heap.size < w1.heap.size := Nat.lt_of_lt_of_le HF.out.2.2.1 HB1.out.size
          have hsz : (mset w1 W.heap.size (.map #[{ key := .string ka, val := .slice Av 1 cv, born := 0 }] 1)).heap.size = w1.heap.size := by show (w1.heap.setIfInBounds _ _).size = _; rw [Array.size_setIfInBounds]
          refine ⟨⟨Av, cv, 0, 1, HVL.out, by rw [hsz]; exact hlt, mset_at _ _ _ hlt, HV.out.1, ?_⟩, below_mset HB2.out (Nat.le_refl _) _⟩
          have hC := HV.out.2
          have hne := HVN.out
          revert hC hne
          cases Av with
          | none => exact fun hC _ => by obtain ⟨ad, e, _⟩ := hC.2.2 (by decide); cases e
          | some ad => exact fun hC hne => C_block hC (mset_other _ _ _ _ (hne ad rfl))⟩
        go_wp2_with fail
        go_roundg 0
        case measure => omega
        case rel => exact Or.inr ⟨by go_num, HH⟩
    · go_wp2_with fail
      go_ret2
      exact ⟨_, rfl, Nat.le_refl _, HH.out.1, HH.out.2⟩
end Go.Proofs.YtmajfcdfafhkfaaGreatDoor.H
namespace Go.Proofs.YtmajfcdfafhkfaaGreatDoor.H
open Go.RowKit Go.Proofs.YtmajfcdfafhkfaaGreatDoorW.PrintWords Go.Proofs.YtmajfcdfafhkfaaGreatDoorW.PrintLast Go.Proofs.YtmajfcdfafhkfaaGreatDoor.Leaf Go.Proofs.YtmajfcdfafhkfaaGreatDoor.P
set_option linter.unusedVariables false
set_option linter.unusedSimpArgs false
set_option maxHeartbeats 1000000
set_option maxRecDepth 100000
/-- One write pending, wherever one kept is laid. -/
def Fl (W : World) (g s pb cp q0 c0 a0 : Nat) (S b0 : List Int) : Prop :=
  W.cell? ⟨g, 1, none⟩ = some (.slice (some ⟨pb, 0, none⟩) 1 cp) ∧ g < W.heap.size ∧ s < W.heap.size ∧ ∀ W2 r, Below W.heap.size W W2 → W2.cell? ⟨r, 0, none⟩ = some (.bool true) → W.heap.size ≤ r → r < W2.heap.size → Cr W2 g s pb cp r q0 c0 a0 S b0
theorem Kp.from {W w2 w3 : World} {g s : Nat} (hb : Below W.heap.size W w2) (h : Kp w2 w3 g s) : Kp W w3 g s :=
  ⟨Nat.le_trans hb.size h.1, fun B g1 g2 g3 => (hb.mono g3).trans (h.2.1 B g1 g2 (Nat.le_trans g3 hb.size)), fun k hk h1 h2 => (h.2.2 k (Nat.lt_of_lt_of_le hk hb.size) h1 h2).trans (hb.block k hk)⟩
theorem disk_Flush (W : World) (g s pb cp q0 c0 a0 : Nat) (S b0 : List Int) (h : Fl W g s pb cp q0 c0 a0 S b0) :
    Calls Tryz.prog 72 #[.pointer (some ⟨g, 0, none⟩)] W fun e w' => e = .returned (.tuple #[]) ∧ Dk w' g s (putS S a0 b0) ∧ w'.frozen? ⟨g, 1, none⟩ = false ∧ Kp W w' g s := by
  have HH := Aside0.mk h
  have d1 : ∀ o, (W.alloc o).cell? ⟨g, 1, none⟩ = some (.slice (some ⟨pb, 0, none⟩) 1 cp) := fun o => pw_cell_below (below_alloc (Below.refl _ _) o) h.1
  have HR := Aside0.mk (repeat_one (W.alloc (.cells #[.bool true] 4)) W.heap.size (cell_top W #[.bool true] 4 0))
  clear h
  go_enter Tryz.func72, Tryz.ntmps72
  go_wp2_with (first | (go_at_call 85; refine HR.out.mono ?_; rintro e w2 ⟨r, rfl, hr1, hr2, hb⟩; have HB2 : Aside0 (Below W.heap.size W w2) := ⟨below_step (below_alloc (Below.refl _ _) _) hb⟩; have HC := Aside0.mk (disk_Crash w2 g s pb cp r q0 c0 a0 S b0 (HH.out.2.2.2 w2 r HB2.out (cell_of_block hr2 rfl) (Nat.le_trans (by rw [World.size_alloc]; omega) hr1) (Array.getElem?_eq_some_iff.1 hr2).1)); clear hr1 hr2 hb) | (go_at_call 20; refine HC.out.mono ?_; rintro e w3 ⟨rfl, h1, h2, h3⟩; have HD := Aside0.mk h1; have HF := Aside0.mk h2; have HE := Aside0.mk (Kp.from HB2.out h3); clear h1 h2 h3))
  go_end0
  exact ⟨rfl, HD.out, HF.out, HE.out⟩
theorem journal_Sync (W : World) (hj g s pb cp q0 c0 a0 : Nat) (S b0 : List Int) (h : Fl W g s pb cp q0 c0 a0 S b0) (hd : W.cell? ⟨hj, 0, none⟩ = some (.pointer (some ⟨g, 0, none⟩))) :
    Calls Tryz.prog 48 #[.pointer (some ⟨hj, 0, none⟩)] W fun e w' => e = .returned (.tuple #[]) ∧ Dk w' g s (putS S a0 b0) ∧ w'.frozen? ⟨g, 1, none⟩ = false ∧ Kp W w' g s := by
  have HF := Aside0.mk (disk_Flush W g s pb cp q0 c0 a0 S b0 h)
  have hs := journal_is W hj _ hd
  clear h
  go_enter Tryz.func48, Tryz.ntmps48
  go_wp2_with (first | (go_at_call 67; refine hs.mono ?_; rintro e w' ⟨rfl, hw_⟩; obtain rfl := hw_.symm) | (go_at_call 72; refine HF.out.mono ?_; rintro e w3 ⟨rfl, h1, h2, h3⟩; have HD := Aside0.mk h1; have HF2 := Aside0.mk h2; have HE := Aside0.mk h3; clear h1 h2 h3))
  go_end0
  exact ⟨rfl, HD.out, HF2.out, HE.out⟩
end Go.Proofs.YtmajfcdfafhkfaaGreatDoor.H
namespace Go.Proofs.YtmajfcdfafhkfaaGreatDoor.H
open Go.RowKit Go.Proofs.YtmajfcdfafhkfaaGreatDoorW.PrintWords Go.Proofs.YtmajfcdfafhkfaaGreatDoorW.PrintLast Go.Proofs.YtmajfcdfafhkfaaGreatDoor.Leaf Go.Proofs.YtmajfcdfafhkfaaGreatDoor.P
set_option maxRecDepth 100000
theorem strip_zero : sum_Strip.f (List.replicate 64 0) = some ([], false) := by decide +kernel
/-- The batch that sets 'a' to 7; its sector, and a disk that has it. -/
def R6 : List Int := [1, 1, 97, 1, 1, 7]
def X0 : List Int := (journal_part_sector.f 1 1 0 true R6).getD []
def Z : List Int := List.replicate 512 0
def ZX : List Int := putS Z 0 X0
theorem sector_0 : journal_part_sector.f 1 1 0 true R6 = some X0 := by decide +kernel
theorem X0_length : X0.length = 64 := by decide +kernel
theorem strip_0 : sum_Strip.f X0 = some (X0.take 60, true) := by decide +kernel
theorem sec_Z : ∀ i, i < 8 → sec Z i = List.replicate 64 0 := by decide +kernel
theorem sec_0 : sec ZX 0 = X0 := by decide +kernel
theorem sec_n : ∀ i, i < 8 → 1 ≤ i → sec ZX i = List.replicate 64 0 := by decide +kernel
theorem trim_0 : bytes_Trim.f 100 ((X0.take 60).drop 15) ⟨#[0]⟩ = some [] := by decide +kernel
theorem q0_eq : ((X0.take 60).drop 9).take 6 = R6 := by decide +kernel
theorem says_0 : Says (sec ZX 0) 0 true 6 R6 := ⟨by decide +kernel, fun W A c hC hc => by
  rw [sec_0] at *
  rw [← q0_eq]
  exact journal_read_1 W A c X0 (X0.take 60) 100 hC hc strip_0 (by decide +kernel) (by decide +kernel) (by decide +kernel) (by decide +kernel) (by decide +kernel) (by decide +kernel) (by decide +kernel) (by decide +kernel) (by decide +kernel) (by decide +kernel) trim_0⟩
theorem strip_Z (i : Nat) (hi : i < 8) : sum_Strip.f (sec Z i) = some ([], false) := by rw [sec_Z i hi]; exact strip_zero
theorem strip_n (i : Nat) (h2 : 1 ≤ i) (hi : i < 8) : sum_Strip.f (sec ZX i) = some ([], false) := by rw [sec_n i hi h2]; exact strip_zero
end Go.Proofs.YtmajfcdfafhkfaaGreatDoor.H
namespace Go.Proofs.YtmajfcdfafhkfaaGreatDoor.H
open Go.RowKit Go.Proofs.YtmajfcdfafhkfaaGreatDoorW.PrintWords Go.Proofs.YtmajfcdfafhkfaaGreatDoorW.PrintLast Go.Proofs.YtmajfcdfafhkfaaGreatDoor.Leaf Go.Proofs.YtmajfcdfafhkfaaGreatDoor.P
set_option linter.unusedVariables false
set_option linter.unusedSimpArgs false
theorem own_row64 {w : World} {B : Nat} {ok : Nat → Prop} {v : Value} {b : List Int} (h : Kd.R (Kd.int .u8) 5 w B ok v b) (hb : b.length = 64) :
    ∃ q c, v = .slice (some ⟨q, 0, none⟩) 64 c ∧ ok q ∧ q < w.heap.size ∧ Kd.C (Kd.int .u8) w (some ⟨q, 0, none⟩) 64 b := by
  obtain ⟨A, c, hv, hle, hC⟩ := Kd.R_reads h
  have hk := h.1
  obtain ⟨inner, ho, hr⟩ := h.2
  rcases ho.2 with ⟨_, hn⟩ | ⟨q, cap, cur, hv2, hq, hc, _⟩
  · omega
  · rw [hv] at hv2
    injection hv2 with e1 e2 e3
    subst e1
    exact ⟨q, c, by rw [hv, hb], hk q (by rw [hv]; rfl), (Array.getElem?_eq_some_iff.1 hc).1, by rw [← hb]; exact hC⟩
theorem pend_one {w : World} {B : Nat} {ok : Nat → Prop} {v : Value} {a0 : Int} {b0 : List Int} (h : Kd.R KW 93 w B ok v [(a0, b0)]) (h0 : b0.length = 64) :
    ∃ pb cp q0 c0, v = .slice (some ⟨pb, 0, none⟩) 1 cp ∧ (ok pb ∧ ok q0) ∧ (pb < w.heap.size ∧ q0 < w.heap.size) ∧
      w.cell? ⟨pb, 0, none⟩ = some (.int .i64 a0) ∧ w.cell? ⟨pb, 1, none⟩ = some (.slice (some ⟨q0, 0, none⟩) 64 c0) ∧
      Kd.C (Kd.int .u8) w (some ⟨q0, 0, none⟩) 64 b0 := by
  have hk := h.1
  obtain ⟨inner, ho, hr⟩ := h.2
  have hlen : inner.length = 2 := hr.1
  obtain ⟨i0, i1, rfl⟩ : ∃ i0 i1, inner = [i0, i1] := by
    match inner, hlen with
    | [x0, x1], _ => exact ⟨x0, x1, rfl⟩
  have m0 : KW.M w B (fun k => ok k ∧ some k ≠ v.ownBlock) (a0, b0) [i0, i1] := hr.2 0 _ rfl
  obtain ⟨x0, y0, e0, hx0, v0, hy0, hR0⟩ := m0
  have hx0' : x0 = [.int .i64 a0] := hx0
  subst hx0' hy0
  simp only [List.singleton_append, List.cons.injEq, and_true] at e0
  obtain ⟨rfl, rfl⟩ := e0
  obtain ⟨q0, c0, rfl, ho0, hl0, hC0⟩ := own_row64 hR0 h0
  rcases ho.2 with ⟨_, hn⟩ | ⟨pb, cap, cur, hv2, hq, hc, hle, hmx, hsz, htake⟩
  · cases hn
  · have hcell : ∀ (k : Nat) (u : Value), k < 2 → [Value.int .i64 a0, .slice (some ⟨q0, 0, none⟩) 64 c0][k]? = some u → w.cell? ⟨pb, k, none⟩ = some u := by
      intro k u hlt hu
      refine cell_of_block hc ?_
      rw [← Array.getElem?_toList, ← hu, ← htake, List.getElem?_take_of_lt (show k < [(a0, b0)].length * KW.sz from hlt)]
    exact ⟨pb, cap, q0, c0, hv2, ⟨hk pb (by rw [hv2]; rfl), ho0.1⟩, ⟨(Array.getElem?_eq_some_iff.1 hc).1, hl0⟩, hcell 0 _ (by decide) rfl, hcell 1 _ (by decide) rfl, hC0⟩
/-- Which blocks pending rows may be. -/
def Ok (hj g s : Nat) (K : Nat → Prop) (k : Nat) : Prop := k ≠ g ∧ k ≠ s ∧ k ≠ hj ∧ ¬ K k
/-- What stands between the steps of a put; K: blocks that stay as they are in W0. -/
structure Ps (W0 : World) (K : Nat → Prop) (W : World) (B hj g s x e : Nat) (lv pv : Value) (ws : List (Int × List Int)) : Prop where
  jd : W.cell? ⟨hj, 0, none⟩ = some (.pointer (some ⟨g, 0, none⟩))
  jl : W.cell? ⟨hj, 1, none⟩ = some lv
  je : W.cell? ⟨hj, 2, none⟩ = some (.int .i64 (e : Int))
  jg : W.cell? ⟨hj, 3, none⟩ = some (.int .i64 1)
  fe : W.frozen? ⟨hj, 2, none⟩ = false
  fl : W.frozen? ⟨hj, 1, none⟩ = false
  d0 : W.cell? ⟨g, 0, none⟩ = some (.slice (some ⟨s, 0, none⟩) 512 512)
  d1 : W.cell? ⟨g, 1, none⟩ = some pv
  df : W.frozen? ⟨g, 1, none⟩ = false
  sf : Sf W s Z
  C : Kd.C (Kd.int .u8) W (some ⟨x, 0, none⟩) 6 R6
  R : Kd.R KW 93 W B (Ok hj g s K) pv ws
  nl : hj < W.heap.size ∧ g < W.heap.size ∧ s < W.heap.size
  ne : hj ≠ g ∧ hj ≠ s ∧ g ≠ s
  le : B ≤ hj ∧ B ≤ g ∧ B ≤ s
  Kx : K x
  Kl : ∀ k, K k → k < W.heap.size ∧ k ≠ g ∧ k ≠ s ∧ k ≠ hj
  Kp : ∀ k, K k → W.heap[k]? = W0.heap[k]?
theorem Ps.kept {W0 W W' : World} {K : Nat → Prop} {B hj g s x e : Nat} {lv pv : Value} {ws : List (Int × List Int)} (h : Ps W0 K W B hj g s x e lv pv ws) (hb : Below W.heap.size W W') : Ps W0 K W' B hj g s x e lv pv ws where
  jd := pw_cell_below hb h.jd
  jl := pw_cell_below hb h.jl
  je := pw_cell_below hb h.je
  jg := pw_cell_below hb h.jg
  fe := (hb.frozen (p := ⟨hj, 2, none⟩) h.nl.1).trans h.fe
  fl := (hb.frozen (p := ⟨hj, 1, none⟩) h.nl.1).trans h.fl
  d0 := pw_cell_below hb h.d0
  d1 := pw_cell_below hb h.d1
  df := (hb.frozen (p := ⟨g, 1, none⟩) h.nl.2.1).trans h.df
  sf := h.sf.kept hb
  C := Kd.C_below h.C hb
  R := Kd.R_below h.R hb
  nl := by have := hb.size; have := h.nl; omega
  ne := h.ne
  le := h.le
  Kx := h.Kx
  Kl := fun k hk => ⟨Nat.lt_of_lt_of_le (h.Kl k hk).1 hb.size, (h.Kl k hk).2⟩
  Kp := fun k hk => (hb.block k (h.Kl k hk).1).trans (h.Kp k hk)
theorem Ps.own {W0 W : World} {K : Nat → Prop} {B hj g s x e : Nat} {lv pv : Value} {ws : List (Int × List Int)} (h : Ps W0 K W B hj g s x e lv pv ws) : ∀ k, pv.ownBlock = some k → Ok hj g s K k ∧ k < W.heap.size := fun k hk =>
  ⟨h.R.1 k hk, (Kd.R_bound h.R).1 k hk |>.2.2.1⟩
theorem Ps.wrote {W0 W W' : World} {K : Nat → Prop} {B hj g s x e : Nat} {lv pv v : Value} {ws ws' : List (Int × List Int)} (h : Ps W0 K W B hj g s x e lv pv ws) (h1 : W'.cell? ⟨g, 1, none⟩ = some v) (hR : Kd.R KW 93 W' B (Ok hj g s K) v ws') (hk : ∀ k, k < W.heap.size → k ≠ g → some k ≠ pv.ownBlock → W'.heap[k]? = W.heap[k]?) (h0 : W'.cell? ⟨g, 0, none⟩ = some (.slice (some ⟨s, 0, none⟩) 512 512)) (hf : W'.frozen? ⟨g, 1, none⟩ = false) (hz : W.heap.size ≤ W'.heap.size) : Ps W0 K W' B hj g s x e lv v ws' := by
  have nj := hk hj h.nl.1 h.ne.1 (fun he => (h.own hj he.symm).1.2.2.1 rfl)
  have ns := hk s h.nl.2.2 (fun he => h.ne.2.2 he.symm) (fun he => (h.own s he.symm).1.2.1 rfl)
  have nk : ∀ k, K k → W'.heap[k]? = W.heap[k]? := fun k hK => hk k (h.Kl k hK).1 (h.Kl k hK).2.1 (fun he => (h.own k he.symm).1.2.2.2 hK)
  exact
  { jd := (World.cell?_of_block (a := ⟨hj, 0, none⟩) nj).trans h.jd
    jl := (World.cell?_of_block (a := ⟨hj, 1, none⟩) nj).trans h.jl
    je := (World.cell?_of_block (a := ⟨hj, 2, none⟩) nj).trans h.je
    jg := (World.cell?_of_block (a := ⟨hj, 3, none⟩) nj).trans h.jg
    fe := (World.frozen?_of_block (a := ⟨hj, 2, none⟩) nj).trans h.fe
    fl := (World.frozen?_of_block (a := ⟨hj, 1, none⟩) nj).trans h.fl
    d0 := h0
    d1 := h1
    df := hf
    sf := ⟨h.sf.1, by obtain ⟨c, h2, h3⟩ := h.sf.2; exact ⟨c, ns.trans h2, h3⟩⟩
    C := C_block h.C (nk x h.Kx)
    R := hR
    nl := by have := h.nl; omega
    ne := h.ne
    le := h.le
    Kx := h.Kx
    Kl := fun k hK => ⟨Nat.lt_of_lt_of_le (h.Kl k hK).1 hz, (h.Kl k hK).2⟩
    Kp := fun k hK => (nk k hK).trans (h.Kp k hK) }
theorem Ps.ended {W0 W : World} {K : Nat → Prop} {B hj g s x e : Nat} {lv pv : Value} {ws : List (Int × List Int)} (h : Ps W0 K W B hj g s x e lv pv ws) : Ps W0 K (W.setCell ⟨hj, 2, none⟩ (.int .i64 ((e + 1 : Nat) : Int))) B hj g s x (e + 1) lv pv ws where
  jd := (World.cell?_setCell_other _ _ _ _ (by intro h; cases h)).trans h.jd
  jl := (World.cell?_setCell_other _ _ _ _ (by intro h; cases h)).trans h.jl
  je := World.cell?_setCell_same' _ _ _ (by rw [h.je]; rfl)
  jg := (World.cell?_setCell_other _ _ _ _ (by intro h; cases h)).trans h.jg
  fe := by rw [World.frozen?_setCell]; exact h.fe
  fl := by rw [World.frozen?_setCell]; exact h.fl
  d0 := (World.cell?_setCell_other _ _ _ _ (by intro he; injection he with he; exact h.ne.1 he)).trans h.d0
  d1 := (World.cell?_setCell_other _ _ _ _ (by intro he; injection he with he; exact h.ne.1 he)).trans h.d1
  df := by rw [World.frozen?_setCell]; exact h.df
  sf := ⟨h.sf.1, by obtain ⟨c, h2, h3⟩ := h.sf.2; exact ⟨c, (Below.heap_setCell _ _ _ _ (fun he => h.ne.2.1 he.symm)).trans h2, h3⟩⟩
  C := C_block h.C (Below.heap_setCell _ _ _ _ (fun he => (h.Kl x h.Kx).2.2.2 he))
  R := Kd.R_far h.R (fun k hk => hk.2.2.1) _
  nl := by rw [World.size_setCell]; exact h.nl
  ne := h.ne
  le := h.le
  Kx := h.Kx
  Kl := by rw [World.size_setCell]; exact h.Kl
  Kp := fun k hk => (Below.heap_setCell _ _ _ _ (fun he => (h.Kl k hk).2.2.2 he)).trans (h.Kp k hk)
theorem Ps.stored {W0 W : World} {K : Nat → Prop} {B hj g s x e : Nat} {lv pv : Value} {ws : List (Int × List Int)} (h : Ps W0 K W B hj g s x e lv pv ws) (u : Value) : Ps W0 K (W.setCell ⟨hj, 1, none⟩ u) B hj g s x e u pv ws where
  jd := (World.cell?_setCell_other _ _ _ _ (by intro h; cases h)).trans h.jd
  jl := World.cell?_setCell_same' _ _ _ (by rw [h.jl]; rfl)
  je := (World.cell?_setCell_other _ _ _ _ (by intro h; cases h)).trans h.je
  jg := (World.cell?_setCell_other _ _ _ _ (by intro h; cases h)).trans h.jg
  fe := by rw [World.frozen?_setCell]; exact h.fe
  fl := by rw [World.frozen?_setCell]; exact h.fl
  d0 := (World.cell?_setCell_other _ _ _ _ (by intro he; injection he with he; exact h.ne.1 he)).trans h.d0
  d1 := (World.cell?_setCell_other _ _ _ _ (by intro he; injection he with he; exact h.ne.1 he)).trans h.d1
  df := by rw [World.frozen?_setCell]; exact h.df
  sf := ⟨h.sf.1, by obtain ⟨c, h2, h3⟩ := h.sf.2; exact ⟨c, (Below.heap_setCell _ _ _ _ (fun he => h.ne.2.1 he.symm)).trans h2, h3⟩⟩
  C := C_block h.C (Below.heap_setCell _ _ _ _ (fun he => (h.Kl x h.Kx).2.2.2 he))
  R := Kd.R_far h.R (fun k hk => hk.2.2.1) _
  nl := by rw [World.size_setCell]; exact h.nl
  ne := h.ne
  le := h.le
  Kx := h.Kx
  Kl := by rw [World.size_setCell]; exact h.Kl
  Kp := fun k hk => (Below.heap_setCell _ _ _ _ (fun he => (h.Kl k hk).2.2.2 he)).trans (h.Kp k hk)
theorem row1 {w : World} {p : Nat} {x : Value} (h : w.heap[p]? = some (.cells #[x] 23 (0, 0))) (r : List Int) : ReadsRow (fun (q : List Int) cs => q = r ∧ cs = [x]) 1 w (some ⟨p, 0, none⟩) 1 [r] := by
  refine ⟨rfl, by decide, fun _ => ⟨_, rfl, fun j q hj => ?_⟩⟩
  cases j with
  | zero =>
    cases hj
    refine ⟨[x], rfl, ⟨rfl, rfl⟩, fun i u hu => ?_⟩
    rw [addr_add]
    refine cell_of_block h ?_
    rw [show 0 + (0 * 1 + i) = i by omega, ← Array.getElem?_toList]
    exact hu
  | succ j => simp at hj
theorem Ps.fl2 {W0 W : World} {K : Nat → Prop} {B hj g s x e : Nat} {lv pv : Value} (h : Ps W0 K W B hj g s x e lv pv [(0, X0)]) : ∃ pb cp q0 c0, Fl W g s pb cp q0 c0 0 Z X0 := by
  obtain ⟨pb, cp, q0, c0, rfl, ⟨o1, o2⟩, ⟨l1, l2⟩, e0, e1, C0⟩ := pend_one h.R X0_length
  refine ⟨pb, cp, q0, c0, h.d1, h.nl.2.1, h.nl.2.2, fun W2 r hb r0 hr hr2 => ?_⟩
  have := hb.size
  exact
  { d0 := pw_cell_below hb h.d0
    d1 := pw_cell_below hb h.d1
    df := (hb.frozen (p := ⟨g, 1, none⟩) h.nl.2.1).trans h.df
    sf := h.sf.kept hb
    p0 := pw_cell_below hb e0
    p1 := pw_cell_below hb e1
    r0 := r0
    C0 := Kd.C_below C0 hb
    ha0 := by decide
    ns := ⟨h.ne.2.2, o1.2.1, by have := h.nl; omega, o2.2.1⟩
    nl := by have := h.nl; omega }
end Go.Proofs.YtmajfcdfafhkfaaGreatDoor.H
namespace Go.Proofs.YtmajfcdfafhkfaaGreatDoor.H
open Go.RowKit Go.Proofs.YtmajfcdfafhkfaaGreatDoorW.PrintWords Go.Proofs.YtmajfcdfafhkfaaGreatDoorW.PrintLast Go.Proofs.YtmajfcdfafhkfaaGreatDoor.Leaf Go.Proofs.YtmajfcdfafhkfaaGreatDoor.P
set_option linter.unusedVariables false
set_option linter.unusedSimpArgs false
set_option maxHeartbeats 16000000
set_option maxRecDepth 100000
theorem top_lt (W : World) (o : Obj) : W.heap.size < (W.alloc o).drew.heap.size := by
  show W.heap.size < (W.alloc o).heap.size
  rw [World.size_alloc]
  omega
theorem journal_Put (W : World) (K : Nat → Prop) (B hj g s x cx : Nat) (hcx : 6 ≤ cx) (hP : Ps W K W B hj g s x 0 (.slice none 0 0) (.slice none 0 0) []) :
    Calls Tryz.prog 47 #[.pointer (some ⟨hj, 0, none⟩), .slice (some ⟨x, 0, none⟩) 6 cx] W fun e w' => e = .returned (.int .i64 0) ∧ w'.cell? ⟨hj, 0, none⟩ = some (.pointer (some ⟨g, 0, none⟩)) ∧ (∃ pb cp q0 c0, Fl w' g s pb cp q0 c0 0 Z X0) ∧ Below B W w' ∧ (∀ k, K k → w'.heap[k]? = W.heap[k]?) ∧ W.heap.size ≤ w'.heap.size := by
  have HCX := Aside0.mk hcx
  have hcz0 : (0 : Int) ≤ (cx : Int) := by omega
  have hcz6 : (6 : Int) ≤ (cx : Int) := by omega
  have hs := journal_is W hj _ hP.jd
  have HR := Aside0.mk (journal_Room W hj g _ _ hP.jd hP.je hP.d0)
  have HP0 := Aside0.mk hP
  go_enter Tryz.func47, Tryz.ntmps47
  go_wp2_with (first | (go_at_call 67; refine hs.mono ?_; rintro e w' ⟨rfl, hw_⟩; obtain rfl := hw_.symm) | (go_at_call 69; refine HR.out.mono ?_; rintro e w' ⟨rfl, ⟨nd, rfl⟩⟩))
  have HP : Aside0 (Ps W K (W.drewN nd) B hj g s x 0 (.slice none 0 0) (.slice none 0 0) []) := ⟨hP.kept (pw_below_drewN (Below.refl _ _) _)⟩
  have HB : Aside0 (Below B W (W.drewN nd)) := ⟨pw_below_drewN (Below.refl _ _) _⟩
  have HZ : Aside0 (W.heap.size ≤ (W.drewN nd).heap.size) := ⟨Nat.le_refl _⟩
  clear hP hs HR HP0
  generalize W.drewN nd = W1 at *
  go_loopg [5, 6] 1 (fun gg s5 s6 wr => s6 = .int .i64 0 ∧ s5 = .slice (some ⟨x, 0, none⟩) 6 cx ∧ Aside0 (Ps W K wr B hj g s x 0 (.slice none 0 0) (.slice none 0 0) []) ∧ Aside0 (Below B W wr) ∧ Aside0 (W.heap.size ≤ wr.heap.size))
  case atStart => exact ⟨rfl, rfl, HP, HB, HZ⟩
  case round =>
    clear HP HB HZ
    obtain ⟨rfl, rfl, HP, HB, HZ⟩ := hrel
    have j1 := HP.out.jl
    have j3 := HP.out.jg
    go_upto_region 10 with (fail)
    go_cut [5, 6, 7] (fun v5 v6 v7 wc => ∃ p, v7 = .pointer (some ⟨p, 0, none⟩) ∧ v6 = .int .i64 0 ∧ v5 = .slice (some ⟨x, 0, none⟩) 6 cx ∧ Aside0 (Ps W K wc B hj g s x 0 (.slice none 0 0) (.slice none 0 0) []) ∧ Aside0 (Below B W wc) ∧ Aside0 (W.heap.size ≤ wc.heap.size) ∧ Aside0 (Ok hj g s K p ∧ p < wc.heap.size ∧ some p ≠ ((.slice none 0 0) : Value).ownBlock) ∧ wc.heap[p]? = some (.cells #[.int .i64 1, .int .i64 1, .int .i64 0, .bool true, .slice (some ⟨x, 0, none⟩) 6 cx] 117 (0, 0)))
    case first =>
      go_region_held3 (fun w2 => w2.cell? ⟨hj, 3, none⟩ = some (.int .i64 1) ∧ w2.cell? ⟨hj, 1, none⟩ = some (.slice none 0 0)) (first | assumption | exact ⟨j3, j1⟩ | exact ⟨pw_cell_below (below_alloc (Below.refl _ _) _) j3, pw_cell_below (below_alloc (Below.refl _ _) _) j1⟩) (first | fail)
      all_goals
        go_wp2_with fail
        go_meet
        case rel =>
          have hk : Below wr.heap.size wr (wr.alloc (.cells #[.int .i64 1, .int .i64 1, .int .i64 0, .bool true, .slice (some ⟨x, 0, none⟩) 6 cx] 117)).drew := Below.drew (below_alloc (Below.refl _ _) _)
          exact ⟨wr.heap.size, rfl, rfl, rfl, ⟨HP.out.kept hk⟩, ⟨HB.out.trans (hk.mono (by have := HP.out.nl; have := HP.out.le; omega))⟩, ⟨Nat.le_trans HZ.out hk.size⟩, ⟨by have := HP.out.nl; exact ⟨by omega, by omega, by omega, fun hK => absurd (HP.out.Kl _ hK).1 (Nat.lt_irrefl _)⟩, top_lt _ _, fun he => absurd (HP.out.own _ he.symm).2 (Nat.lt_irrefl _)⟩, heap_top _ _⟩
    case rest =>
      clear j1 j3 HP HB HZ
      obtain ⟨p, rfl, rfl, rfl, HP, HB, HZ, HK, hp⟩ := hcut
      have j0 := HP.out.jd
      have j2 := HP.out.je
      have t0 := cell_of_block (k := 0) hp rfl
      have t1 := cell_of_block (k := 1) hp rfl
      have t2 := cell_of_block (k := 2) hp rfl
      have t3 := cell_of_block (k := 3) hp rfl
      have t4 := cell_of_block (k := 4) hp rfl
      have HPB := Aside0.mk hp
      have HSC : Aside0 (∀ w', Below wc.heap.size wc w' → Calls Tryz.prog 71 #[.agg #[.int .i64 1, .int .i64 1, .int .i64 0, .bool true, .slice (some ⟨x, 0, none⟩) 6 cx]] w' fun e w'' => ∃ v0_ : Value, e = .returned (v0_) ∧ Kd.R (Kd.int .u8) 5 w'' w'.heap.size (fun _ => True) v0_ X0 ∧ Below w'.heap.size w' w'') := ⟨fun w' hb => journal_part_sector.calls 1 1 0 true (some ⟨x, 0, none⟩) cx R6 X0 w' (HP.out.kept hb).C HCX.out sector_0⟩
      have HWR : Aside0 (∀ (w' : World) A c, Ps W K w' B hj g s x 0 (.slice none 0 0) (.slice none 0 0) [] → Kd.C (Kd.int .u8) w' A X0.length X0 → X0.length ≤ c → Calls Tryz.prog 70 #[.pointer (some ⟨g, 0, none⟩), .int .i64 0, .slice A X0.length c] w' fun e w'' => ∃ v, e = .returned (.int .i64 0) ∧ Ps W K w'' B hj g s x 0 (.slice none 0 0) v [(0, X0)] ∧ Below B w' w'' ∧ (∀ k, k < w'.heap.size → k ≠ g → some k ≠ ((.slice none 0 0) : Value).ownBlock → w''.heap[k]? = w'.heap[k]?) ∧ w'.heap.size ≤ w''.heap.size) := ⟨fun w' A c hP hC hc => (disk_Write w' B g (some ⟨s, 0, none⟩) 512 0 (by decide) (.slice none 0 0) [] (Ok hj g s K) A c X0 X0_length (by decide) hP.d0 hP.d1 hP.df hP.nl.2.1 hP.le.2.1 hP.R (fun he => (hP.own g he.symm).1.1 rfl) (fun k hk => (hP.own k hk).2) (fun k hk => by have := hP.nl; exact ⟨by omega, by omega, by omega, fun hK => absurd (hP.Kl k hK).1 (by omega)⟩) (fun k hk => hk.1) hC hc).mono (by
        rintro e w'' ⟨v, he, h1, hR, hb, hk, h0, hf, hz⟩
        exact ⟨v, he, hP.wrote h1 hR hk h0 hf hz, hb, hk, hz⟩)⟩
      go_upto_region 11 with (fail)
      go_cut [5, 6, 7] (fun v5 v6 v7 wd => v7 = .pointer (some ⟨p, 0, none⟩) ∧ v6 = .int .i64 0 ∧ v5 = .slice (some ⟨x, 0, none⟩) 6 cx ∧ Aside0 (Below B W wd) ∧ Aside0 (W.heap.size ≤ wd.heap.size) ∧ Aside0 (wd.heap[p]? = some (.cells #[.int .i64 1, .int .i64 1, .int .i64 0, .bool true, .slice (some ⟨x, 0, none⟩) 6 cx] 117 (0, 0))) ∧ ∃ u, Aside0 (Ps W K wd B hj g s x 0 (.slice none 0 0) u [(0, X0)]))
      case first =>
        go_region_with (first | (go_at_call 71; refine (HSC.out _ (by first | exact Below.refl _ _ | exact below_drew (Below.refl _ _))).mono ?_; rintro e w1 ⟨v51, rfl, hR, hb⟩; obtain ⟨A51, c51, hv51, hle51, hC51⟩ := Kd.R_reads hR; subst hv51; have HC51 := Aside0.mk hC51; have HL51 := Aside0.mk hle51; have HB1 : Aside0 (Below wc.heap.size wc w1) := ⟨by first | exact hb | exact below_step (below_drew (Below.refl _ _)) hb⟩; have k0 := pw_cell_below hb j0; have k2 := pw_cell_below hb j2; clear hb hR hC51 hle51) | (go_at_call 70; refine (HWR.out _ _ _ (HP.out.kept HB1.out) HC51.out HL51.out).mono ?_; rintro e w2 ⟨v52, rfl, hp2, hb2, hk2, hz2⟩; have HP2 := Aside0.mk hp2; have HB2 : Aside0 (Below B W w2) := ⟨(HB.out.trans (HB1.out.mono (by have := HP.out.nl; have := HP.out.le; omega))).trans hb2⟩; have HZ2 : Aside0 (W.heap.size ≤ w2.heap.size) := ⟨Nat.le_trans HZ.out (Nat.le_trans HB1.out.size hz2)⟩; have HK2 : Aside0 (w2.heap[p]? = wc.heap[p]?) := ⟨(hk2 p (Nat.lt_of_lt_of_le HK.out.2.1 HB1.out.size) HK.out.1.1 HK.out.2.2).trans (HB1.out.block p HK.out.2.1)⟩; clear hp2 hb2 hk2 hz2))
        all_goals
          go_wp2_with fail
          go_meet
          case rel => exact ⟨rfl, rfl, rfl, HB2, HZ2, ⟨HK2.out.trans HPB.out⟩, _, HP2⟩
      case rest =>
        have HKO := Aside0.mk HK.out.1
        clear j0 j2 t0 t1 t2 t3 t4 hp HP HB HZ HSC HWR HPB HK
        obtain ⟨rfl, rfl, rfl, HB2, HZ2, HK2, u, HP2⟩ := hcut
        have i2 := HP2.out.je
        have if2 := HP2.out.fe
        have it : ∀ u, (wc.setCell ⟨hj, 2, none⟩ u).cell? ⟨p, 3, none⟩ = some (.bool true) := fun u => (World.cell?_setCell_other _ _ _ _ (by intro he; injection he with he; exact HKO.out.2.2.1 he.symm)).trans (cell_of_block HK2.out rfl)
        have HP3 : Aside0 (Ps W K (wc.setCell ⟨hj, 2, none⟩ (.int .i64 1)) B hj g s x 1 (.slice none 0 0) u [(0, X0)]) := ⟨HP2.out.ended⟩
        have HB3 : Aside0 (Below B W (wc.setCell ⟨hj, 2, none⟩ (.int .i64 1))) := ⟨HB2.out.setCell HP2.out.le.1 _⟩; have HZ3 : Aside0 (W.heap.size ≤ (wc.setCell ⟨hj, 2, none⟩ (.int .i64 1)).heap.size) := ⟨by rw [World.size_setCell]; exact HZ2.out⟩
        go_upto_region 15 with (fail)
        clear i2 if2 it HP2 HK2 HB2 HZ2
        generalize wc.setCell ⟨hj, 2, none⟩ (.int .i64 1) = wq at *
        have j1 := HP3.out.jl
        have HCL : Aside0 (∀ W', Below wq.heap.size wq W' → Calls Tryz.prog 46 #[.slice (some ⟨x, 0, none⟩) 6 cx] W' fun e w' => ∃ v0_ : Value, e = .returned (v0_) ∧ Kd.R (Kd.int .u8) 5 w' W'.heap.size (fun _ => True) v0_ R6 ∧ Below W'.heap.size W' w') := ⟨fun W' hW => slices_Clone_byte_byte.calls (some ⟨x, 0, none⟩) cx R6 R6 W' (Kd.C_below HP3.out.C hW) HCX.out (by unfold slices_Clone_byte_byte.f; rw [if_pos (by decide)])⟩
        have HN : Aside0 (Kd.R KR 23 wq wq.heap.size (fun k => wq.heap.size ≤ k) (.slice none 0 0) []) := ⟨Kd.R_nil _ _ _ _ _⟩
        go_region_law (first | (go_simp; go_at_call 46; refine (HCL.out _ (by first | exact Below.refl _ _ | exact below_drew (Below.refl _ _))).mono ?_; rintro e w1 ⟨v, rfl, hR, hb⟩; obtain ⟨Ac, cc, hv⟩ := Kd.R_slice hR; rw [show R6.length = 6 from rfl] at hv; subst hv; have HR1 : Aside0 (Kd.R (Kd.int .u8) 5 w1 wq.heap.size (fun k => wq.heap.size ≤ k) (.slice Ac 6 cc) R6) := ⟨Kd.R_mono (Kd.R_bound hR) (fun k h => h.2.1)⟩; have k1 := pw_cell_below hb j1; have k2 : ∀ o, (w1.alloc o).cell? ⟨hj, 1, none⟩ = some (.slice none 0 0) := fun o => pw_cell_below (below_alloc (Below.refl _ _) o) k1; have HB1 : Aside0 (Below wq.heap.size wq w1) := ⟨by first | exact hb | exact below_step (below_drew (Below.refl _ _)) hb⟩; clear hR hb) | (refine Kd.R_append_rows_step KR (Rr := fun (q : List Int) cs => q = R6 ∧ cs = [.slice Ac 6 cc]) (w0 := wq) wq.heap.size rfl (.tmp 68) (.tmp 71) 57 23 (.slice none 0 0) 24 rfl Tryz.underlying57 info23 rfl (by decide) (by decide) (.slice none 0 0) [] [R6] _ 1 1 (fun k => wq.heap.size ≤ k) (fun k => wq.heap.size ≤ k) rfl rfl ?aO ?aR ?aK ?aP ?aF ?aB ?aS ?aL ?_; (case aO => exact Kd.R_nil _ _ _ _ _); (case aR => exact row1 (heap_top _ _) _); (case aK => exact fun x cs h => by obtain ⟨rfl, rfl⟩ := h; exact ⟨_, rfl, Kd.R_alloc HR1.out _⟩); (case aP => exact fun k hk => ⟨hk, by intro h; cases h⟩); (case aF => exact fun k hk => Nat.le_trans (below_alloc HB1.out _).size hk); (case aB => exact below_alloc HB1.out _); (case aS => exact (below_alloc HB1.out _).size); (case aL => decide); intro v1 w2 ho hb2 hgr hat; obtain ⟨Av, cv, hv1⟩ := Kd.R_slice ho; have hv2 : v1 = .slice Av 1 cv := hv1; subst hv2; clear hv1; have q1 := pw_cell_below hb2 j1; have HP4 := Aside0.mk (HP3.out.kept hb2); have HB4 : Aside0 (Below B W w2) := ⟨HB3.out.trans (hb2.mono (by have := HP3.out.nl; have := HP3.out.le; omega))⟩; have qf := HP4.out.fl; have HS4 : Aside0 (W.heap.size ≤ w2.heap.size) := ⟨Nat.le_trans HZ3.out hb2.size⟩; clear ho hb2 hgr hat))
        all_goals
          go_wp2_with fail
          go_ret
          exact ⟨rfl, (HP4.out.stored _).jd, (HP4.out.stored _).fl2, HB4.out.setCell HP3.out.le.1 _, (HP4.out.stored _).Kp, (by rw [World.size_setCell]; exact HS4.out)⟩
end Go.Proofs.YtmajfcdfafhkfaaGreatDoor.H
namespace Go.Proofs.YtmajfcdfafhkfaaGreatDoor.H
open Go.RowKit Go.Proofs.YtmajfcdfafhkfaaGreatDoorW.PrintWords Go.Proofs.YtmajfcdfafhkfaaGreatDoorW.PrintLast Go.Proofs.YtmajfcdfafhkfaaGreatDoor.Leaf Go.Proofs.YtmajfcdfafhkfaaGreatDoor.P
set_option linter.unusedVariables false
set_option linter.unusedSimpArgs false
set_option maxHeartbeats 4000000
set_option maxRecDepth 100000
theorem store_is (W : World) (h : Nat) (d : Addr) (hB : W.cell? ⟨h, 0, none⟩ = some (.pointer (some d))) : Calls Tryz.prog 45 #[.pointer (some ⟨h, 0, none⟩)] W fun e w' => e = .returned (.bool true) ∧ w' = W := by
  go_enter Tryz.func45, Tryz.ntmps45
  go_wp2_with fail
  go_ret
  exact ⟨rfl, rfl⟩
/-- A store's block. -/
def Sb (w : World) (st hj m : Nat) : Prop := w.heap[st]? = some (.cells #[.pointer (some ⟨hj, 0, none⟩), .map (some m)] 39 (0, 0))
theorem store_Open_none (W : World) (g s : Nat) (hD : Dk W g s Z) :
    Calls Tryz.prog 13 #[.pointer (some ⟨g, 0, none⟩)] W fun e w' => ∃ st hj m, e = .returned (.tuple #[.pointer (some ⟨st, 0, none⟩), .int .i64 0]) ∧ (W.heap.size ≤ hj ∧ hj < m ∧ m < st ∧ st < w'.heap.size) ∧ Sb w' st hj m ∧ w'.heap[m]? = some (.map #[] 0) ∧ Jn w' hj g (.slice none 0 0) 0 1 ∧ (∀ k, w'.frozen? ⟨hj, k, none⟩ = false) ∧ Below W.heap.size W w' := by
  have HO := Aside0.mk (journal_Open_none_ W g s Z hD strip_Z)
  have hmk := mk37
  clear hD
  go_enter Tryz.func13, Tryz.ntmps13
  go_wp2_with (first | (go_at_call 41; refine HO.out.mono ?_; rintro e w1 ⟨hj, rfl, h1, h2, hb, hJ, hf⟩; have HJ := Aside0.mk (And.intro h1 (And.intro h2 (And.intro hb (And.intro hJ hf)))); clear h1 h2 hb hJ hf) | (go_at_call 42; refine (journal_Len _ hj g none 0 0 0 1 (HJ.out.2.2.2.1.kept (below_alloc (below_alloc (Below.refl _ _) _) _))).mono ?_; rintro e w' ⟨rfl, hw_⟩; obtain rfl := hw_.symm))
  have HF : Aside0 (Sb ((w1.alloc (.map #[] 0)).alloc (.cells #[.pointer (some ⟨hj, 0, none⟩), .map (some w1.heap.size)] 39)) (w1.heap.size + 1) hj w1.heap.size ∧ ((w1.alloc (.map #[] 0)).alloc (.cells #[.pointer (some ⟨hj, 0, none⟩), .map (some w1.heap.size)] 39)).heap[w1.heap.size]? = some (.map #[] 0) ∧ Below w1.heap.size w1 ((w1.alloc (.map #[] 0)).alloc (.cells #[.pointer (some ⟨hj, 0, none⟩), .map (some w1.heap.size)] 39)) ∧ ((w1.alloc (.map #[] 0)).alloc (.cells #[.pointer (some ⟨hj, 0, none⟩), .map (some w1.heap.size)] 39)).heap.size = w1.heap.size + 2) := ⟨by
    have h0 : (w1.alloc (.map #[] 0)).heap.size = w1.heap.size + 1 := World.size_alloc _ _
    refine ⟨?_, ?_, below_alloc (below_alloc (Below.refl _ _) _) _, by rw [World.size_alloc, h0]⟩
    · have := heap_top (w1.alloc (.map #[] 0)) (.cells #[.pointer (some ⟨hj, 0, none⟩), .map (some w1.heap.size)] 39)
      rw [h0] at this
      exact this
    · exact (Below.heap_alloc _ _ _ (by rw [h0]; omega)).trans (heap_top _ _)⟩
  generalize (w1.alloc (.map #[] 0)).alloc (.cells #[.pointer (some ⟨hj, 0, none⟩), .map (some w1.heap.size)] 39) = w2 at *
  go_loopg [28] 1 (fun gg s28 wr => s28 = .int .i64 0 ∧ wr = w2)
  case atStart => exact ⟨rfl, rfl⟩
  case round =>
    obtain ⟨rfl, rfl⟩ := hrel
    go_wp2_with fail
    go_ret2
    obtain ⟨h1, h2, hb, hJ, hf⟩ := HJ.out
    obtain ⟨f1, f2, f3, f4⟩ := HF.out
    exact ⟨w1.heap.size + 1, hj, w1.heap.size, rfl, ⟨h1, h2, by omega, by omega⟩, f1, f2, hJ.kept f3, fun k => (f3.frozen (p := ⟨hj, k, none⟩) h2).trans (hf k), below_step hb f3⟩
theorem kb_inj (s t : ByteArray) (h : kb s = kb t) : s = t := by
  have h2 : ∀ s : ByteArray, strOfNums (kb s) = s := by
    intro s
    unfold kb strOfNums
    cases s with
    | mk d =>
      congr 1
      apply Array.ext'
      simp only [List.map_map, List.toList_toArray]
      conv => rhs; rw [← List.map_id d.toList]
      apply List.map_congr_left
      intro b _
      simp
  rw [← h2 s, ← h2 t, h]
theorem dec_R6 : Wr.dec R6 = some [([97], true, [7])] := by decide +kernel
theorem acts_R6 (l : List S62) (h : Wr.dec R6 = some (l.map toA)) : l = [x7] := by
  rw [dec_R6] at h
  have h := (Option.some.inj h).symm
  have hl : l.length = 1 := by have := congrArg List.length h; simpa using this
  obtain ⟨a, rfl⟩ := List.length_eq_one_iff.1 hl
  · simp only [List.map_cons, List.map_nil, List.cons.injEq, and_true] at h
    unfold toA at h
    simp only [Prod.mk.injEq] at h
    obtain ⟨h1, h2, h3⟩ := h
    have h4 : a.f0 = ka := kb_inj _ _ h1
    obtain ⟨a0, a1, a2⟩ := a
    simp only at h2 h3 h4
    subst h2 h3 h4
    rfl
theorem Decode_R6 (W : World) (A : Option Addr) (c : Nat) (hC : Kd.C (Kd.int .u8) W A 6 R6) (hc : 6 ≤ c) :
    Calls Tryz.prog 10 #[.slice A 6 c] W fun e w' => ∃ Av cv, e = .returned (.tuple #[.slice Av 1 cv, .int .i64 0]) ∧ Kd.C k62 w' Av 1 [x7] ∧ Below W.heap.size W w' := by
  refine (store_Decode W A c R6 hC hc (by decide) (show ∀ c ∈ R6, (0 : Int) ≤ c ∧ c < 256 by decide)).mono ?_
  rintro e w' ⟨⟨v, l, h1, h2, rfl, hR⟩ | ⟨h1, rfl⟩, hb⟩
  · obtain rfl := acts_R6 l h1
    obtain ⟨Av, cv, rfl⟩ := Kd.R_slice hR
    exact ⟨Av, cv, rfl, (Kd.R_reads' hR).2.2, hb⟩
  · rcases h1 with h1 | h1
    · rw [dec_R6] at h1; cases h1
    · exact absurd h1 (by decide)
theorem store_Open_one (W : World) (g s : Nat) (hD : Dk W g s ZX) :
    Calls Tryz.prog 13 #[.pointer (some ⟨g, 0, none⟩)] W fun e w' => ∃ st hj m, e = .returned (.tuple #[.pointer (some ⟨st, 0, none⟩), .int .i64 0]) ∧ Sb w' st hj m ∧ (∃ lo, Has w' m lo) ∧ Below W.heap.size W w' := by
  have HO := Aside0.mk (journal_Open_one W g s ZX R6 rfl hD says_0 (fun i h1 h8 => strip_n i h1 h8))
  have hmk := mk37
  clear hD
  go_enter Tryz.func13, Tryz.ntmps13
  go_wp2_with (first | (go_at_call 41; refine HO.out.mono ?_; rintro e w1 ⟨hj, v, rfl, hb, hJ, hO, h1, h2⟩; obtain ⟨lb, cl, A_, cA_, hv_, hO_⟩ := id hO; subst hv_; have HJ := Aside0.mk (And.intro h1 (And.intro h2 (And.intro hb (And.intro hJ hO)))); clear h1 h2 hb hJ hO hO_) | (go_at_call 42; refine (journal_Len _ hj g _ _ _ _ _ (HJ.out.2.2.2.1.kept (below_alloc (below_alloc (Below.refl _ _) _) _))).mono ?_; rintro e w' ⟨rfl, hw_⟩; obtain rfl := hw_.symm))
  have HF : Aside0 (Sb ((w1.alloc (.map #[] 0)).alloc (.cells #[.pointer (some ⟨hj, 0, none⟩), .map (some w1.heap.size)] 39)) (w1.heap.size + 1) hj w1.heap.size ∧ ((w1.alloc (.map #[] 0)).alloc (.cells #[.pointer (some ⟨hj, 0, none⟩), .map (some w1.heap.size)] 39)).heap[w1.heap.size]? = some (.map #[] 0) ∧ Below w1.heap.size w1 ((w1.alloc (.map #[] 0)).alloc (.cells #[.pointer (some ⟨hj, 0, none⟩), .map (some w1.heap.size)] 39)) ∧ ((w1.alloc (.map #[] 0)).alloc (.cells #[.pointer (some ⟨hj, 0, none⟩), .map (some w1.heap.size)] 39)).heap.size = w1.heap.size + 2) := ⟨by
    have h0 : (w1.alloc (.map #[] 0)).heap.size = w1.heap.size + 1 := World.size_alloc _ _
    refine ⟨?_, ?_, below_alloc (below_alloc (Below.refl _ _) _) _, by rw [World.size_alloc, h0]⟩
    · have := heap_top (w1.alloc (.map #[] 0)) (.cells #[.pointer (some ⟨hj, 0, none⟩), .map (some w1.heap.size)] 39)
      rw [h0] at this
      exact this
    · exact (Below.heap_alloc _ _ _ (by rw [h0]; omega)).trans (heap_top _ _)⟩
  generalize (w1.alloc (.map #[] 0)).alloc (.cells #[.pointer (some ⟨hj, 0, none⟩), .map (some w1.heap.size)] 39) = w2 at *
  have HB2 : Aside0 (Below W.heap.size W w2) := ⟨below_step HJ.out.2.2.1 HF.out.2.2.1⟩
  have HJ2 := Aside0.mk (HJ.out.2.2.2.1.kept HF.out.2.2.1)
  have HO2 := Aside0.mk (One.below HJ.out.2.2.2.2 HF.out.2.2.1)
  go_loopg [28] 2 (fun gg s28 wr => (s28 = .int .i64 0 ∧ 1 ≤ gg ∧ wr = w2) ∨ (s28 = .int .i64 1 ∧ ∃ m', Aside0 (Sb wr (w1.heap.size + 1) hj m' ∧ (∃ lo, Has wr m' lo) ∧ Below W.heap.size W wr)))
  case atStart => exact Or.inl ⟨rfl, by omega, rfl⟩
  case round =>
    rcases hrel with ⟨rfl, hg, rfl⟩ | ⟨rfl, m', HH⟩
    · have HGET := Aside0.mk (journal_Get wr hj g _ 1 2 R6 (by decide) HJ2.out HO2.out)
      have HSB := Aside0.mk HF.out.1
      go_wp2_with (first | (go_at_call 43; refine HGET.out.mono ?_; rintro e w3 ⟨u, c, rfl, hC, hc, hb⟩; have HDE := Aside0.mk (Decode_R6 w3 u c hC hc); have HB3 := Aside0.mk hb; clear hC hc hb) | (go_at_call 10; refine HDE.out.mono ?_; rintro e w4 ⟨Av, cv, rfl, hC, hb⟩; have HB4 := Aside0.mk (below_step HB3.out hb); have HDO := Aside0.mk (store_done w4 w1.heap.size ((HB4.out.block _ (by have := HF.out.2.2.2; omega)).trans HF.out.2.1) Av cv hC); have s1 := (pw_cell_below HB4.out (cell_of_block (k := 1) HSB.out rfl)); clear hC hb) | (go_at_call 44; refine HDO.out.mono ?_; rintro e w5 ⟨m2, rfl, hm, hH, hb⟩; have HB5 := Aside0.mk (below_step HB4.out hb); have hs5 : Sb w5 (w1.heap.size + 1) hj w1.heap.size := (HB5.out.block _ (by have := HF.out.2.2.2; omega)).trans HSB.out; have z1 := cell_of_block (k := 1) hs5 rfl; have zf := blk_frozen hs5 1; have HM5 := Aside0.mk (And.intro hm (And.intro hH hs5)); clear hm hH hb hs5))
      go_roundg 0
      case measure => omega
      case rel =>
        refine Or.inr ⟨by go_num, m2, ⟨?_, ?_, ?_⟩⟩
        · have := blk_set HM5.out.2.2 1 (.map (some m2))
          simpa [Sb] using this
        · obtain ⟨v, c, born, clock, h0, h1, h2, h3, h4⟩ := HM5.out.2.1
          have hne : m2 ≠ w1.heap.size + 1 := by have := HM5.out.1; have := HB4.out.size; have := HF.out.2.2.2; omega
          refine ⟨_, v, c, born, clock, h0, by rw [World.size_setCell]; exact h1, (Below.heap_setCell _ _ _ _ hne).trans h2, h3, C_far h4 (fun ad ha => ?_) _⟩
          have := h0 ad ha
          have := HB4.out.size
          have := HF.out.2.2.2
          omega
        · exact (below_step HB2.out HB5.out).setCell (p := ⟨w1.heap.size + 1, 1, none⟩) (by have := HJ.out.2.2.1.size; show W.heap.size ≤ w1.heap.size + 1; omega) _
    · go_wp2_with fail
      go_ret2
      exact ⟨_, hj, m', rfl, HH.out.1, HH.out.2.1, HH.out.2.2⟩
end Go.Proofs.YtmajfcdfafhkfaaGreatDoor.H
namespace Go.Proofs.YtmajfcdfafhkfaaGreatDoor.H
open Go.RowKit Go.Proofs.YtmajfcdfafhkfaaGreatDoorW.PrintWords Go.Proofs.YtmajfcdfafhkfaaGreatDoorW.PrintLast Go.Proofs.YtmajfcdfafhkfaaGreatDoor.Leaf Go.Proofs.YtmajfcdfafhkfaaGreatDoor.P
set_option linter.unusedVariables false
set_option linter.unusedSimpArgs false
set_option maxHeartbeats 4000000
set_option maxRecDepth 100000
theorem encs_x7 : Wr.encs ([x7].map toA) = R6 := by
  show Wr.uv 1 ++ (Wr.enc1 ([97], true, [7]) ++ []) = R6
  have h : Wr.enc1 ([97], true, [7]) = Wr.uv 1 ++ ([97] ++ 1 :: (Wr.uv 1 ++ [7])) := rfl
  rw [h, Wr.uv_1]
  rfl
theorem may_x7 : Wr.may (toA x7) := by
  show Wr.may ([97], true, [7])
  decide
theorem Encode_x7 (W : World) (A : Option Addr) (c : Nat) (hC : Kd.C k62 W A 1 [x7]) :
    Calls Tryz.prog 7 #[.slice A 1 c] W fun e w' => ∃ x cx, e = .returned (.tuple #[.slice (some ⟨x, 0, none⟩) 6 cx, .int .i64 0]) ∧ W.heap.size ≤ x ∧ x < w'.heap.size ∧ 6 ≤ cx ∧ Kd.C (Kd.int .u8) w' (some ⟨x, 0, none⟩) 6 R6 ∧ Below W.heap.size W w' := by
  refine (store_Encode W A 1 c [x7] hC (by decide)).mono ?_
  rintro e w' ⟨⟨h1, h2, h3, v, rfl, hR⟩ | ⟨h1, rfl⟩ | ⟨h1, h2, h3, rfl⟩, hb⟩
  · rw [encs_x7] at hR
    obtain ⟨x, cx, rfl, hx1, hx2, _⟩ := Kd.R_form hR (by decide)
    exact ⟨x, cx, rfl, hx1, hx2, (Kd.R_reads' hR).2.1, (Kd.R_reads' hR).2.2, hb⟩
  · refine absurd ⟨by decide, fun a ha => ?_⟩ h1
    rw [List.mem_singleton.1 ha]
    exact may_x7
  · rw [encs_x7] at h3
    exact absurd h3 (by decide)
theorem put_start {W w2 : World} {st hj m g s x : Nat} (hS : Sb W st hj m) (hJ : Jn W hj g (.slice none 0 0) 0 1) (hf : ∀ k, W.frozen? ⟨hj, k, none⟩ = false) (hD : Dk W g s Z) (hdf : W.frozen? ⟨g, 1, none⟩ = false) (ho : s < g ∧ g < hj ∧ hj < m ∧ m < st ∧ st < W.heap.size) (hb : Below W.heap.size W w2) (hC : Kd.C (Kd.int .u8) w2 (some ⟨x, 0, none⟩) 6 R6) (hx : W.heap.size ≤ x) (hx2 : x < w2.heap.size) :
    Ps w2 (fun k => k = x ∨ k = st) w2 s hj g s x 0 (.slice none 0 0) (.slice none 0 0) [] := by
  have hJ' := hJ.kept hb
  have hD' := hD.kept hb
  have hz := hb.size
  exact
  { jd := hJ'.1
    jl := hJ'.2.1
    je := hJ'.2.2.1
    jg := hJ'.2.2.2
    fe := (hb.frozen (p := ⟨hj, 2, none⟩) (by show hj < _; omega)).trans (hf 2)
    fl := (hb.frozen (p := ⟨hj, 1, none⟩) (by show hj < _; omega)).trans (hf 1)
    d0 := hD'.1
    d1 := hD'.2.1
    df := (hb.frozen (p := ⟨g, 1, none⟩) (by show g < _; omega)).trans hdf
    sf := hD'.2.2
    C := hC
    R := Kd.R_nil _ _ _ _ _
    nl := by omega
    ne := by omega
    le := by omega
    Kx := Or.inl rfl
    Kl := by rintro k (rfl | rfl) <;> omega
    Kp := fun _ _ => rfl }
theorem store_Apply (W : World) (st hj m g s : Nat) (A : Option Addr) (c : Nat) (hS : Sb W st hj m) (hm : W.heap[m]? = some (.map #[] 0)) (hJ : Jn W hj g (.slice none 0 0) 0 1) (hf : ∀ k, W.frozen? ⟨hj, k, none⟩ = false) (hD : Dk W g s Z) (hdf : W.frozen? ⟨g, 1, none⟩ = false) (hC : Kd.C k62 W A 1 [x7]) (ho : s < g ∧ g < hj ∧ hj < m ∧ m < st ∧ st < W.heap.size) :
    Calls Tryz.prog 15 #[.pointer (some ⟨st, 0, none⟩), .slice A 1 c] W fun e w' => e = .returned (.int .i64 0) ∧ Dk w' g s ZX ∧ w'.frozen? ⟨g, 1, none⟩ = false ∧ Below s W w' := by
  have HIS := Aside0.mk (store_is W st _ (cell_of_block (k := 0) hS rfl))
  have HEN := Aside0.mk (Encode_x7 W A c hC)
  have HA := Aside0.mk (And.intro hS (And.intro hm (And.intro hJ (And.intro hf (And.intro hD (And.intro hdf hC))))))
  have HO := Aside0.mk ho
  clear hS hm hJ hf hD hdf hC ho
  go_enter Tryz.func15, Tryz.ntmps15
  go_wp2_with (first | (go_at_call 45; refine HIS.out.mono ?_; rintro e w' ⟨rfl, hw_⟩; obtain rfl := hw_.symm) | (go_at_call 7; refine HEN.out.mono ?_; rintro e w1 ⟨x, cx, rfl, hx1, hx2, hx3, hx4, hb⟩; have HX := Aside0.mk (And.intro hx1 (And.intro hx2 (And.intro hx3 hx4))); have HB1 := Aside0.mk hb; have HDO := Aside0.mk (store_done w1 m ((hb.block m (by have := HO.out; omega)).trans HA.out.2.1) A c (Kd.C_below HA.out.2.2.2.2.2.2 hb)); have s1 := pw_cell_below hb (cell_of_block (k := 1) HA.out.1 rfl); clear hx1 hx2 hx3 hx4 hb) | (go_at_call 44; refine HDO.out.mono ?_; rintro e w2 ⟨m2, rfl, _, _, hb⟩; have HB2 := Aside0.mk (below_step HB1.out hb); have s0 := pw_cell_below HB2.out (cell_of_block (k := 0) HA.out.1 rfl); have HPUT := Aside0.mk (journal_Put w2 (fun k => k = x ∨ k = st) s hj g s x cx HX.out.2.2.1 (put_start HA.out.1 HA.out.2.2.1 HA.out.2.2.2.1 HA.out.2.2.2.2.1 HA.out.2.2.2.2.2.1 HO.out HB2.out (Kd.C_below HX.out.2.2.2 hb) HX.out.1 (Nat.lt_of_lt_of_le HX.out.2.1 hb.size))); clear hb s1) | (go_at_call 47; refine HPUT.out.mono ?_; rintro e w3 ⟨rfl, hd3, ⟨pb, cp, q0, c0, hFl⟩, hb3, hk3, hz3⟩; have HSY := Aside0.mk (journal_Sync w3 hj g s pb cp q0 c0 0 Z X0 hFl hd3); have hs3 : Sb w3 st hj m := (hk3 st (Or.inr rfl)).trans ((HB2.out.block st HO.out.2.2.2.2).trans HA.out.1); have z0 := cell_of_block (k := 0) hs3 rfl; have HS3 := Aside0.mk hs3; have HB3 := Aside0.mk (And.intro ((HB2.out.mono (by have := HO.out; omega)).trans hb3) hz3); clear hd3 hFl hb3 hk3 hz3 hs3 s0) | (go_at_call 48; refine HSY.out.mono ?_; rintro e w4 ⟨rfl, hD4, hf4, hk4⟩; have hs4 : Sb w4 st hj m := (hk4.2.2 st (Nat.lt_of_lt_of_le HO.out.2.2.2.2 (Nat.le_trans HB2.out.size HB3.out.2)) (by have := HO.out; omega) (by have := HO.out; omega)).trans HS3.out; have y1 := cell_of_block (k := 1) hs4 rfl; have yf := blk_frozen hs4 1; have HD4 := Aside0.mk (And.intro hD4 hf4); have HB4 := Aside0.mk (HB3.out.1.trans (hk4.2.1 s (by have := HO.out; omega) (Nat.le_refl _) (by have := HO.out; have := HB2.out.size; have := HB3.out.2; omega))); clear hD4 hf4 hk4 hs4))
  go_ret
  have hgs : g ≠ st := by have := HO.out; omega
  have hss : s ≠ st := by have := HO.out; omega
  refine ⟨rfl, ⟨(World.cell?_setCell_other _ _ _ _ (by intro h; injection h with h; exact hgs h.symm)).trans HD4.out.1.1, (World.cell?_setCell_other _ _ _ _ (by intro h; injection h with h; exact hgs h.symm)).trans HD4.out.1.2.1, HD4.out.1.2.2.1, ?_⟩, by rw [World.frozen?_setCell]; exact HD4.out.2, HB4.out.setCell (p := ⟨st, 1, none⟩) (by have := HO.out; show s ≤ st; omega) _⟩
  obtain ⟨cells, h1, h2⟩ := HD4.out.1.2.2.2
  exact ⟨cells, (Below.heap_setCell _ _ _ _ hss).trans h1, h2⟩
end Go.Proofs.YtmajfcdfafhkfaaGreatDoor.H
namespace Go.Proofs.YtmajfcdfafhkfaaGreatDoor.H
open Go.RowKit Go.Proofs.YtmajfcdfafhkfaaGreatDoorW.PrintWords Go.Proofs.YtmajfcdfafhkfaaGreatDoorW.PrintLast Go.Proofs.YtmajfcdfafhkfaaGreatDoor.Leaf Go.Proofs.YtmajfcdfafhkfaaGreatDoor.P
set_option linter.unusedVariables false
set_option linter.unusedSimpArgs false
set_option maxHeartbeats 4000000
set_option maxRecDepth 100000
theorem store_Get (W : World) (st hj m lo : Nat) (hS : Sb W st hj m) (hH : Has W m lo) :
    Calls Tryz.prog 14 #[.pointer (some ⟨st, 0, none⟩), .string ka] W fun e w' => ∃ u cu, e = .returned (.tuple #[.slice (some ⟨u, 0, none⟩) 1 cu, .bool true]) ∧ w'.cell? ⟨u, 0, none⟩ = some (.int .u8 7) ∧ Below W.heap.size W w' := by
  obtain ⟨v, c, born, clock, h0, h1, h2, h3, h4⟩ := hH
  have hlk := lk37 W m clock born (.slice v 1 c) h2
  have HIS := Aside0.mk (store_is W st _ (cell_of_block (k := 0) hS rfl))
  have s1 := cell_of_block (k := 1) hS rfl
  have HCL := Aside0.mk (slices_Clone_byte_byte.calls v c [7] [7] W h4 h3 (by unfold slices_Clone_byte_byte.f; rw [if_pos (by decide)]))
  clear hS h0 h1 h2 h3 h4
  go_enter Tryz.func14, Tryz.ntmps14
  go_wp2_with (first | (go_at_call 45; refine HIS.out.mono ?_; rintro e w' ⟨rfl, hw_⟩; obtain rfl := hw_.symm) | (go_at_call 46; refine HCL.out.mono ?_; rintro e w1 ⟨v1, rfl, hR, hb⟩; obtain ⟨u, cu, rfl, _, _, _⟩ := Kd.R_form hR (by decide); have HB := Aside0.mk hb; have HC := Aside0.mk (cell_at (Kd.R_reads' hR).2.2 0 7 rfl); clear hR hb))
  go_ret2
  exact ⟨u, cu, rfl, HC.out, HB.out⟩
theorem store_All (W : World) (z p : Value) (z0 : Option Addr) (hz : z = .pointer z0) (p0 : ByteArray) (hp : p = .string p0) :
    Calls Tryz.prog 33 #[z, p] W fun e w' => e = .returned (.func (.func 53) #[] #[.pointer (some ⟨W.heap.size, 0, none⟩), .pointer (some ⟨W.heap.size + 1, 0, none⟩)]) ∧ w' = (W.alloc (.cells #[z] 33)).alloc (.cells #[p] 9) := by
  have hmf : ∀ (fn : Fn) (first cap : Array Value) (w : World), (Instr.makeFunc fn first cap).run Tryz.prog w = .ok (.func fn first cap) w := fun _ _ _ _ => rfl
  subst hz hp
  go_enter Tryz.func33, Tryz.ntmps33
  go_wp2_with fail
  go_ret
  exact ⟨rfl, rfl⟩
theorem disk_New_ (W : World) : Calls Tryz.prog 19 #[.int .i64 8] W fun e w' => ∃ g s, e = .returned (.tuple #[.pointer (some ⟨g, 0, none⟩), .int .i64 0]) ∧ W.heap.size ≤ s ∧ s < g ∧ g < w'.heap.size ∧ Below W.heap.size W w' ∧ Dk w' g s Z ∧ w'.frozen? ⟨g, 1, none⟩ = false := by
  have hmk := print_make (P := Tryz.prog) 23 5 .u8 1 Tryz.underlying23 P.info5 (by decide) 512 (by decide)
  have hmk' : ∀ W : World, (Instr.makeSlice 23 (.int .i64 512) (.int .i64 512)).run Tryz.prog W = .ok (.slice (some ⟨W.heap.size, 0, none⟩) 512 512) (W.alloc (.cells (madeCells #[.int .u8 0] 512) 5)) := hmk
  clear hmk
  have hl := made_nums 512
  generalize madeCells #[Value.int .u8 0] 512 = mc at hmk' hl
  go_enter Tryz.func19, Tryz.ntmps19
  go_wp2_with fail
  go_ret2
  have hz : (W.alloc (.cells mc 5 (0, 0))).heap.size = W.heap.size + 1 := World.size_alloc _ _
  have c0 := cell_top (W.alloc (.cells mc 5 (0, 0))) #[Value.slice (some ⟨W.heap.size, 0, none⟩) 512 512, .slice none 0 0] 90 0
  have c1 := cell_top (W.alloc (.cells mc 5 (0, 0))) #[Value.slice (some ⟨W.heap.size, 0, none⟩) 512 512, .slice none 0 0] 90 1
  have cf := frozen_top (W.alloc (.cells mc 5 (0, 0))) #[Value.slice (some ⟨W.heap.size, 0, none⟩) 512 512, .slice none 0 0] 90 1
  rw [hz] at c0 c1 cf
  exact ⟨W.heap.size + 1, W.heap.size, by first | rfl | (simp; done), by omega, by omega, (by rw [World.size_alloc, World.size_alloc]; omega), ((Below.refl _ _).alloc (Nat.le_refl _) _).alloc (by rw [World.size_alloc]; omega) _, ⟨c0, c1, List.length_replicate, mc, (by rw [Below.heap_alloc _ _ _ (by rw [World.size_alloc]; omega)]; exact heap_top _ _), hl⟩, cf⟩
theorem act_row {w : World} {p1 p2 : Nat} (h1 : w.heap[p1]? = some (.cells #[.int .u8 7] 5 (0, 0))) (h2 : w.heap[p2]? = some (.cells #[.string ka, .bool true, .slice (some ⟨p1, 0, none⟩) 1 1] 62 (0, 0))) : Kd.C k62 w (some ⟨p2, 0, none⟩) 1 [x7] := by
  refine ⟨rfl, by decide, fun _ => ⟨_, rfl, fun j q hj => ?_⟩⟩
  cases j with
  | zero =>
    cases hj
    refine ⟨[.string ka, .bool true, .slice (some ⟨p1, 0, none⟩) 1 1], rfl, k62_mk w x7 (by decide) (lit1 h1), fun i u hu => ?_⟩
    rw [addr_add]
    refine cell_of_block h2 ?_
    rw [show 0 + (0 * k62.sz + i) = i by omega, ← Array.getElem?_toList]
    exact hu
  | succ j => simp at hj
theorem start_ {w1 w2 : World} {st hj m g s : Nat} (ho : w1.heap.size ≤ hj ∧ hj < m ∧ m < st ∧ st < w2.heap.size) (hS : Sb w2 st hj m) (hm : w2.heap[m]? = some (.map #[] 0)) (hJ : Jn w2 hj g (.slice none 0 0) 0 1) (hf : ∀ k, w2.frozen? ⟨hj, k, none⟩ = false) (hD : Dk w1 g s Z) (hdf : w1.frozen? ⟨g, 1, none⟩ = false) (hb : Below w1.heap.size w1 w2) (g2 : s < g) (g3 : g < w1.heap.size) :
    Calls Tryz.prog 15 #[.pointer (some ⟨st, 0, none⟩), .slice (some ⟨w2.heap.size + 1, 0, none⟩) 1 1] ((w2.alloc (.cells #[.int .u8 7] 5)).alloc (.cells #[.string ka, .bool true, .slice (some ⟨w2.heap.size, 0, none⟩) 1 1] 62)) fun e w' => e = .returned (.int .i64 0) ∧ Dk w' g s ZX ∧ w'.frozen? ⟨g, 1, none⟩ = false ∧ Below s ((w2.alloc (.cells #[.int .u8 7] 5)).alloc (.cells #[.string ka, .bool true, .slice (some ⟨w2.heap.size, 0, none⟩) 1 1] 62)) w' := by
  have h0 : (w2.alloc (.cells #[.int .u8 7] 5)).heap.size = w2.heap.size + 1 := World.size_alloc _ _
  have ha : Below w2.heap.size w2 ((w2.alloc (.cells #[.int .u8 7] 5)).alloc (.cells #[.string ka, .bool true, .slice (some ⟨w2.heap.size, 0, none⟩) 1 1] 62)) := below_alloc (below_alloc (Below.refl _ _) _) _
  have hb' := below_step hb ha
  have hz := hb.size
  have hsz : ((w2.alloc (.cells #[.int .u8 7] 5)).alloc (.cells #[.string ka, .bool true, .slice (some ⟨w2.heap.size, 0, none⟩) 1 1] 62)).heap.size = w2.heap.size + 2 := by rw [World.size_alloc, h0]
  refine store_Apply _ st hj m g s _ 1 ((ha.block st ho.2.2.2).trans hS) ((ha.block m (by omega)).trans hm) (hJ.kept ha) (fun k => (ha.frozen (p := ⟨hj, k, none⟩) (by show hj < _; omega)).trans (hf k)) (hD.kept hb') ((hb'.frozen (p := ⟨g, 1, none⟩) g3).trans hdf) (act_row (p1 := w2.heap.size) (p2 := w2.heap.size + 1) ?_ ?_) ⟨g2, by omega, ho.2.1, ho.2.2.1, by rw [hsz]; omega⟩
  · exact (Below.heap_alloc _ _ _ (by rw [h0]; omega)).trans (heap_top _ _)
  · have := heap_top (w2.alloc (.cells #[.int .u8 7] 5)) (.cells #[.string ka, .bool true, .slice (some ⟨w2.heap.size, 0, none⟩) 1 1] 62)
    rw [h0] at this
    exact this
theorem neIn70 (w : World) (d : Nat) (f : Fn) (a b : Array Value) : (Op.equalIn (d + 1) 70 (.func f a b) .nilFunc).run Tryz.prog w = .ok false w := by
  simp [Op.equalIn, run_underlying Tryz.underlying70]
theorem ne70 (w : World) (f : Fn) (a b : Array Value) : (binOp .neq 70 (.func f a b) .nilFunc).run Tryz.prog w = .ok (.bool true) w := by
  simp only [binOp]
  simp [show Op.equal 70 (.func f a b) .nilFunc = Op.equalIn (9999 + 1) 70 (.func f a b) .nilFunc from rfl, neIn70 w 9999 f a b]
theorem awake_ (W : World) : Calls Tryz.prog 9 #[] W fun e w' => e = .returned (.bool true) ∧ Below W.heap.size W w' := by
  have HNEW := Aside0.mk (disk_New_ W)
  have hne := ne70
  go_enter Tryz.func9, Tryz.ntmps9
  go_wp2_with (first | (go_at_call 19; refine HNEW.out.mono ?_; rintro e w1 ⟨g, s, rfl, g1, g2, g3, hb1, hD1, hf1⟩; have HG := Aside0.mk (And.intro g1 (And.intro g2 g3)); have HB1 := Aside0.mk hb1; have HD1 := Aside0.mk (And.intro hD1 hf1); have HOP := Aside0.mk (store_Open_none w1 g s hD1); clear g1 g2 g3 hb1 hD1 hf1 HNEW) | (go_at_call 13; refine HOP.out.mono ?_; rintro e w2 ⟨st, hj, m, rfl, ho, hS, hm, hJ, hf, hb⟩; have HB2 := Aside0.mk (below_step HB1.out hb); have HAP := Aside0.mk (start_ ho hS hm hJ hf HD1.out.1 HD1.out.2 hb HG.out.2.1 HG.out.2.2); have HO := Aside0.mk ho; have HKB := Aside0.mk hb; clear ho hS hm hJ hf hb HOP) | (go_at_call 15; refine HAP.out.mono ?_; rintro e w3 ⟨rfl, hD3, hf3, hb3⟩; have HCR := Aside0.mk (disk_Crash_none w3 g s ZX hD3 hf3 (by have := HG.out; omega)); have HB3 := Aside0.mk ((below_alloc (below_alloc HB2.out _) _).trans (hb3.mono HG.out.1)); clear hD3 hf3 hb3) | (go_at_call 20; refine HCR.out.mono ?_; rintro e w4 ⟨rfl, hD4, hk4⟩; have HB4 := Aside0.mk (HB3.out.trans (hk4.2.1 W.heap.size (by have := HG.out; omega) HG.out.1 HB3.out.size)); have HOP2 := Aside0.mk (store_Open_one w4 g s hD4); clear hD4 hk4) | (go_at_call 13; refine HOP2.out.mono ?_; rintro e w5 ⟨st2, hj2, m2, rfl, hS, ⟨lo, hH⟩, hb⟩; have HB5 := Aside0.mk (below_step HB4.out hb); have HGET := Aside0.mk (store_Get w5 st2 hj2 m2 lo hS hH); clear hS hH hb) | (go_at_call 14; refine HGET.out.mono ?_; rintro e w6 ⟨u, cu, rfl, hu, hb⟩; have HB6 := Aside0.mk (below_step HB5.out hb); have HALL := Aside0.mk (store_All w6 (.pointer (some ⟨st2, 0, none⟩)) (.string ⟨#[]⟩) _ rfl _ rfl); clear hb) | (go_at_call 33; refine HALL.out.mono ?_; rintro e w' ⟨rfl, hw_⟩; obtain rfl := hw_.symm))
  go_ret
  exact ⟨rfl, below_alloc (below_alloc HB6.out _) _⟩
end Go.Proofs.YtmajfcdfafhkfaaGreatDoor.H
namespace Go.Proofs.YtmajfcdfafhkfaaGreatDoor.P
open Go.Proofs.YtmajfcdfafhkfaaGreatDoor.Leaf
open Go.RowKit Go.Proofs.YtmajfcdfafhkfaaGreatDoorW.PrintWords Go.Proofs.YtmajfcdfafhkfaaGreatDoorW.PrintLast Go.Proofs.YtmajfcdfafhkfaaGreatDoorW.PrintMore
attribute [local go_sem] max2_int min2_int max_two min_two max_three min_three max_four min_four   -- for this text's walks alone
set_option linter.unusedVariables false
set_option linter.unusedSimpArgs false
def mooringref09_Same.l0 : Nat → List (S62) → List (S62) → Int → Option (Bool)
 | 0, _, _, _ => none
 | k + 1, x0, x1, x5 => if x5 < (x0.length : Int) then (if 0 ≤ x5 then (if x5 < (x1.length : Int) then (if ((rd_T62 x0 x5).f0).toList = ((rd_T62 x1 x5).f0).toList then (if (((rd_T62 x0 x5).f1) != ((rd_T62 x1 x5).f1)) = true then (some false) else (if (strOfNums ((rd_T62 x0 x5).f2)).toList = (strOfNums ((rd_T62 x1 x5).f2)).toList then (mooringref09_Same.l0 k x0 x1 (wrap64 (x5 + 1))) else (some false))) else (some false)) else (none)) else (none)) else (some true)
def mooringref09_Same.f (k : Nat) (l0 : List (S62)) (l1 : List (S62)) : Option (Bool) := if (l0.length : Int) = (l1.length : Int) then (mooringref09_Same.l0 k l0 l1 0) else (some false)
theorem mooringref09_Same.mono_l : ∀ k, (∀ y0 y1 y2, LeO (mooringref09_Same.l0 k y0 y1 y2) (mooringref09_Same.l0 (k + 1) y0 y1 y2))
 | 0 => fun _ _ _ r h => by simp [mooringref09_Same.l0] at h
 | k + 1 => by
  have ih0 := mooringref09_Same.mono_l k
  ·intro y0 y1 y2
   unfold mooringref09_Same.l0
   repeat' first
   | (with_reducible exact ih0 _ _ _)
   | (with_reducible exact LeO.refl _)
   | (with_reducible exact LeO.none _)
   | (with_reducible refine LeO.ite ?_ ?_)
   | (with_reducible refine LeO.bind ?_ (fun _ => ?_))
   | exact ih0 _ _ _
   | exact LeO.none _
   | refine LeO.ite ?_ ?_
   | refine LeO.bind ?_ (fun _ => ?_)
theorem mooringref09_Same.mono : ∀ a0 a1 k, LeO (mooringref09_Same.f k a0 a1) (mooringref09_Same.f (k + 1) a0 a1) := by
 intro a0 a1 k
 have ih0 := mooringref09_Same.mono_l k
 unfold mooringref09_Same.f
 repeat' first
   | (with_reducible exact ih0 _ _ _)
   | (with_reducible exact LeO.refl _)
   | (with_reducible exact LeO.none _)
   | (with_reducible refine LeO.ite ?_ ?_)
   | (with_reducible refine LeO.bind ?_ (fun _ => ?_))
   | exact ih0 _ _ _
   | exact LeO.none _
   | refine LeO.ite ?_ ?_
   | refine LeO.bind ?_ (fun _ => ?_)
set_option maxHeartbeats 8000000 in
set_option maxRecDepth 100000 in
theorem mooringref09_Same.calls (k : Nat) (A0 : Option Addr) (c0 : Nat) (l0 : List (S62)) (A1 : Option Addr) (c1 : Nat) (l1 : List (S62)) (r : Bool) (w : World) (hr0 : Kd.C k62 w A0 l0.length l0) (hc0 : l0.length ≤ c0) (hr1 : Kd.C k62 w A1 l1.length l1) (hc1 : l1.length ≤ c1) (h : mooringref09_Same.f k l0 l1 = some r) :
  Calls Tryz.prog 11 #[.slice A0 l0.length c0, .slice A1 l1.length c1] w fun e w' => e = .returned (.bool r) ∧ Drawn0 w w' := by
 have HR0 := Aside0.mk hr0
 have HC0 := Aside0.mk hc0
 clear hr0 hc0
 have HR1 := Aside0.mk hr1
 have HC1 := Aside0.mk hc1
 clear hr1 hc1
 have H : (if (l0.length : Int) = (l1.length : Int) then (mooringref09_Same.l0 k l0 l1 0) else (some false)) = some r := h
 clear h
 by_cases c3 : (l0.length : Int) = (l1.length : Int)
 ·rw [if_pos c3] at H
  have c3b0 : ((l0.length : Int) == (l1.length : Int)) = true := beq_iff_eq.mpr c3
  have c3b1 : ((l0.length : Int) != (l1.length : Int)) = false := bne_eq_false_iff_eq.mpr c3
  have c3b2 : (l0.length == l1.length) = true := by first | simpa using c3 | (simp at c3 ⊢; omega)
  clear c3
  have H' := Aside0.mk H
  clear H
  go_enter Tryz.func11, Tryz.ntmps11
  go_wp2
  repeat (go_quiet (fail); try go_wp2)
  go_loopg [5] k (fun kq v5 w' => ∃ (x5_1 : Int), v5 = .int .i64 x5_1 ∧ Aside0 (mooringref09_Same.l0 kq l0 l1 x5_1 = some r) ∧ Aside0 (kq ≤ k) ∧ Drawn0 w w')
  case atStart => exact ⟨(0), (by first | rfl | (simp; done) | (simp [*]; done)), H', ⟨Nat.le_refl _⟩, by repeat (first | exact Drawn0.refl _ | apply Drawn0.step)⟩
  case round =>
   clear H'
   try clear c1
   try clear p2
   try clear c3
   try clear c3b0
   try clear c3b1
   try clear c3b2
   obtain ⟨x5_1, rfl, HA, HK1, ⟨m1, rfl⟩⟩ := hrel
   cases gk with
   | zero => exact absurd HA.out (by simp [mooringref09_Same.l0])
   | succ k1 =>
    have H := HA.out
    clear HA
    simp only [mooringref09_Same.l0] at H
    by_cases c4 : x5_1 < (l0.length : Int)
    ·rw [if_pos c4] at H
     have c4b0 : decide (x5_1 < (l0.length : Int)) = true := decide_eq_true c4
     clear c4
     by_cases c5 : 0 ≤ x5_1
     ·rw [if_pos c5] at H
      have c5b0 : decide (0 ≤ x5_1) = true := decide_eq_true c5
      clear c5
      by_cases c6 : x5_1 < (l1.length : Int)
      ·rw [if_pos c6] at H
       have c6b0 : decide (x5_1 < (l1.length : Int)) = true := decide_eq_true c6
       clear c6
       by_cases c7 : ((rd_T62 l0 x5_1).f0).toList = ((rd_T62 l1 x5_1).f0).toList
       ·rw [if_pos c7] at H
        have c7b0 : (((rd_T62 l0 x5_1).f0).toList == ((rd_T62 l1 x5_1).f0).toList) = true := beq_iff_eq.mpr c7
        have c7b1 : (((rd_T62 l0 x5_1).f0).toList != ((rd_T62 l1 x5_1).f0).toList) = false := bne_eq_false_iff_eq.mpr c7
        clear c7
        by_cases c8 : (((rd_T62 l0 x5_1).f1) != ((rd_T62 l1 x5_1).f1)) = true
        ·rw [if_pos c8] at H
         have c8b0 : (((rd_T62 l0 x5_1).f1) != ((rd_T62 l1 x5_1).f1)) = true := c8
         (try (have c8b1 : decide (((rd_T62 l0 x5_1).f1) = ((rd_T62 l1 x5_1).f1)) = false := by simpa using c8))
         (try (have c8b2 : (((rd_T62 l0 x5_1).f1) == ((rd_T62 l1 x5_1).f1)) = false := by simpa using c8))
         (try (have c8b3 : ¬ (((rd_T62 l0 x5_1).f1) = ((rd_T62 l1 x5_1).f1)) := by simpa using c8))
         clear c8
         obtain rfl := Option.some.inj H
         have p101 : 0 ≤ (x5_1 : Int) := of_decide_eq_true (by first | (with_reducible assumption) | assumption)
         have q101 : x5_1 < (l0.length : Int) := of_decide_eq_true (by first | (with_reducible assumption) | assumption)
         obtain ⟨ad101, A101_2, c101_2, e101, hx101_0, hx101_1, hx101_2, hl101_2, hi101_2⟩ := at_T62 HR0.out x5_1 p101 q101
         cases e101
         have HR101_2 := Aside0.mk hi101_2
         have HC101_2 := Aside0.mk hl101_2
         clear hi101_2 hl101_2
         replace p101 := eq_true p101
         replace q101 := eq_true q101
         have p102 : 0 ≤ (x5_1 : Int) := of_decide_eq_true (by first | (with_reducible assumption) | assumption)
         have q102 : x5_1 < (l1.length : Int) := of_decide_eq_true (by first | (with_reducible assumption) | assumption)
         obtain ⟨ad102, A102_2, c102_2, e102, hx102_0, hx102_1, hx102_2, hl102_2, hi102_2⟩ := at_T62 HR1.out x5_1 p102 q102
         cases e102
         have HR102_2 := Aside0.mk hi102_2
         have HC102_2 := Aside0.mk hl102_2
         clear hi102_2 hl102_2
         replace p102 := eq_true p102
         replace q102 := eq_true q102
         have p103 : 0 ≤ (x5_1 : Int) := of_decide_eq_true (by first | (with_reducible assumption) | assumption)
         have q103 : x5_1 < (l0.length : Int) := of_decide_eq_true (by first | (with_reducible assumption) | assumption)
         obtain ⟨ad103, A103_2, c103_2, e103, hx103_0, hx103_1, hx103_2, hl103_2, hi103_2⟩ := at_T62 HR0.out x5_1 p103 q103
         obtain rfl : ad101 = ad103 := (by injection e103)
         have HR103_2 := Aside0.mk hi103_2
         have HC103_2 := Aside0.mk hl103_2
         clear hi103_2 hl103_2
         replace p103 := eq_true p103
         replace q103 := eq_true q103
         have ea_ := Option.some.inj (hx101_2.symm.trans hx103_2)
         injection ea_ with ea_ en_ ec_
         subst ea_
         subst ec_
         clear en_
         have p104 : 0 ≤ (x5_1 : Int) := of_decide_eq_true (by first | (with_reducible assumption) | assumption)
         have q104 : x5_1 < (l1.length : Int) := of_decide_eq_true (by first | (with_reducible assumption) | assumption)
         obtain ⟨ad104, A104_2, c104_2, e104, hx104_0, hx104_1, hx104_2, hl104_2, hi104_2⟩ := at_T62 HR1.out x5_1 p104 q104
         obtain rfl : ad102 = ad104 := (by injection e104)
         have HR104_2 := Aside0.mk hi104_2
         have HC104_2 := Aside0.mk hl104_2
         clear hi104_2 hl104_2
         replace p104 := eq_true p104
         replace q104 := eq_true q104
         have ea_ := Option.some.inj (hx102_2.symm.trans hx104_2)
         injection ea_ with ea_ en_ ec_
         subst ea_
         subst ec_
         clear en_
         go_wp2
         repeat (go_quiet (fail); try go_wp2)
         go_ret
         exact ⟨by first | rfl | (simp; done) | (simp [*]; done), by repeat (first | exact Drawn0.refl _ | apply Drawn0.step)⟩
        ·rw [if_neg c8] at H
         have c8b0 : (((rd_T62 l0 x5_1).f1) != ((rd_T62 l1 x5_1).f1)) = false := by simpa using c8
         (try (have c8b1 : decide (((rd_T62 l0 x5_1).f1) = ((rd_T62 l1 x5_1).f1)) = true := by simpa using c8))
         (try (have c8b2 : (((rd_T62 l0 x5_1).f1) == ((rd_T62 l1 x5_1).f1)) = true := by simpa using c8))
         clear c8
         by_cases c9 : (strOfNums ((rd_T62 l0 x5_1).f2)).toList = (strOfNums ((rd_T62 l1 x5_1).f2)).toList
         ·rw [if_pos c9] at H
          have c9b0 : ((strOfNums ((rd_T62 l0 x5_1).f2)).toList == (strOfNums ((rd_T62 l1 x5_1).f2)).toList) = true := beq_iff_eq.mpr c9
          have c9b1 : ((strOfNums ((rd_T62 l0 x5_1).f2)).toList != (strOfNums ((rd_T62 l1 x5_1).f2)).toList) = false := bne_eq_false_iff_eq.mpr c9
          clear c9
          have H' := Aside0.mk H
          clear H
          have p101 : 0 ≤ (x5_1 : Int) := of_decide_eq_true (by first | (with_reducible assumption) | assumption)
          have q101 : x5_1 < (l0.length : Int) := of_decide_eq_true (by first | (with_reducible assumption) | assumption)
          obtain ⟨ad101, A101_2, c101_2, e101, hx101_0, hx101_1, hx101_2, hl101_2, hi101_2⟩ := at_T62 HR0.out x5_1 p101 q101
          cases e101
          have HR101_2 := Aside0.mk hi101_2
          have HC101_2 := Aside0.mk hl101_2
          clear hi101_2 hl101_2
          replace p101 := eq_true p101
          replace q101 := eq_true q101
          have p102 : 0 ≤ (x5_1 : Int) := of_decide_eq_true (by first | (with_reducible assumption) | assumption)
          have q102 : x5_1 < (l1.length : Int) := of_decide_eq_true (by first | (with_reducible assumption) | assumption)
          obtain ⟨ad102, A102_2, c102_2, e102, hx102_0, hx102_1, hx102_2, hl102_2, hi102_2⟩ := at_T62 HR1.out x5_1 p102 q102
          cases e102
          have HR102_2 := Aside0.mk hi102_2
          have HC102_2 := Aside0.mk hl102_2
          clear hi102_2 hl102_2
          replace p102 := eq_true p102
          replace q102 := eq_true q102
          have p103 : 0 ≤ (x5_1 : Int) := of_decide_eq_true (by first | (with_reducible assumption) | assumption)
          have q103 : x5_1 < (l0.length : Int) := of_decide_eq_true (by first | (with_reducible assumption) | assumption)
          obtain ⟨ad103, A103_2, c103_2, e103, hx103_0, hx103_1, hx103_2, hl103_2, hi103_2⟩ := at_T62 HR0.out x5_1 p103 q103
          obtain rfl : ad101 = ad103 := (by injection e103)
          have HR103_2 := Aside0.mk hi103_2
          have HC103_2 := Aside0.mk hl103_2
          clear hi103_2 hl103_2
          replace p103 := eq_true p103
          replace q103 := eq_true q103
          have ea_ := Option.some.inj (hx101_2.symm.trans hx103_2)
          injection ea_ with ea_ en_ ec_
          subst ea_
          subst ec_
          clear en_
          have p104 : 0 ≤ (x5_1 : Int) := of_decide_eq_true (by first | (with_reducible assumption) | assumption)
          have q104 : x5_1 < (l1.length : Int) := of_decide_eq_true (by first | (with_reducible assumption) | assumption)
          obtain ⟨ad104, A104_2, c104_2, e104, hx104_0, hx104_1, hx104_2, hl104_2, hi104_2⟩ := at_T62 HR1.out x5_1 p104 q104
          obtain rfl : ad102 = ad104 := (by injection e104)
          have HR104_2 := Aside0.mk hi104_2
          have HC104_2 := Aside0.mk hl104_2
          clear hi104_2 hl104_2
          replace p104 := eq_true p104
          replace q104 := eq_true q104
          have ea_ := Option.some.inj (hx102_2.symm.trans hx104_2)
          injection ea_ with ea_ en_ ec_
          subst ea_
          subst ec_
          clear en_
          have p105 : 0 ≤ (x5_1 : Int) := of_decide_eq_true (by first | (with_reducible assumption) | assumption)
          have q105 : x5_1 < (l0.length : Int) := of_decide_eq_true (by first | (with_reducible assumption) | assumption)
          obtain ⟨ad105, A105_2, c105_2, e105, hx105_0, hx105_1, hx105_2, hl105_2, hi105_2⟩ := at_T62 HR0.out x5_1 p105 q105
          obtain rfl : ad101 = ad105 := (by injection e105)
          have HR105_2 := Aside0.mk hi105_2
          have HC105_2 := Aside0.mk hl105_2
          clear hi105_2 hl105_2
          replace p105 := eq_true p105
          replace q105 := eq_true q105
          have ea_ := Option.some.inj (hx101_2.symm.trans hx105_2)
          injection ea_ with ea_ en_ ec_
          subst ea_
          subst ec_
          clear en_
          have hcv10 := Kd.C_string (P := Tryz.prog) (A := A101_2) (c := c101_2) Tryz.underlying23 Tryz.underlying5 Tryz.underlying9 HR105_2.out
          have hcv10b := fun (n_ : Nat) => Kd.C_string (P := Tryz.prog) (A := A101_2) (c := c101_2) Tryz.underlying23 Tryz.underlying5 Tryz.underlying9 (Kd.C_drewN HR105_2.out n_)
          have p106 : 0 ≤ (x5_1 : Int) := of_decide_eq_true (by first | (with_reducible assumption) | assumption)
          have q106 : x5_1 < (l1.length : Int) := of_decide_eq_true (by first | (with_reducible assumption) | assumption)
          obtain ⟨ad106, A106_2, c106_2, e106, hx106_0, hx106_1, hx106_2, hl106_2, hi106_2⟩ := at_T62 HR1.out x5_1 p106 q106
          obtain rfl : ad102 = ad106 := (by injection e106)
          have HR106_2 := Aside0.mk hi106_2
          have HC106_2 := Aside0.mk hl106_2
          clear hi106_2 hl106_2
          replace p106 := eq_true p106
          replace q106 := eq_true q106
          have ea_ := Option.some.inj (hx102_2.symm.trans hx106_2)
          injection ea_ with ea_ en_ ec_
          subst ea_
          subst ec_
          clear en_
          have hcv11 := Kd.C_string (P := Tryz.prog) (A := A102_2) (c := c102_2) Tryz.underlying23 Tryz.underlying5 Tryz.underlying9 HR106_2.out
          have hcv11b := fun (n_ : Nat) => Kd.C_string (P := Tryz.prog) (A := A102_2) (c := c102_2) Tryz.underlying23 Tryz.underlying5 Tryz.underlying9 (Kd.C_drewN HR106_2.out n_)
          go_wp2
          repeat (go_quiet (fail); try go_wp2)
          go_roundg k1
          case measure => have := HK1.out; omega
          case rel => exact ⟨(wrap64 (x5_1 + 1)), (by first | rfl | (simp; done) | (simp [*]; done)), H', ⟨by have := HK1.out; omega⟩, by repeat (first | exact Drawn0.refl _ | apply Drawn0.step)⟩
         ·rw [if_neg c9] at H
          have c9b0 : ((strOfNums ((rd_T62 l0 x5_1).f2)).toList == (strOfNums ((rd_T62 l1 x5_1).f2)).toList) = false := beq_eq_false_iff_ne.mpr c9
          have c9b1 : ((strOfNums ((rd_T62 l0 x5_1).f2)).toList != (strOfNums ((rd_T62 l1 x5_1).f2)).toList) = true := bne_iff_ne.mpr c9
          obtain rfl := Option.some.inj H
          have p101 : 0 ≤ (x5_1 : Int) := of_decide_eq_true (by first | (with_reducible assumption) | assumption)
          have q101 : x5_1 < (l0.length : Int) := of_decide_eq_true (by first | (with_reducible assumption) | assumption)
          obtain ⟨ad101, A101_2, c101_2, e101, hx101_0, hx101_1, hx101_2, hl101_2, hi101_2⟩ := at_T62 HR0.out x5_1 p101 q101
          cases e101
          have HR101_2 := Aside0.mk hi101_2
          have HC101_2 := Aside0.mk hl101_2
          clear hi101_2 hl101_2
          replace p101 := eq_true p101
          replace q101 := eq_true q101
          have p102 : 0 ≤ (x5_1 : Int) := of_decide_eq_true (by first | (with_reducible assumption) | assumption)
          have q102 : x5_1 < (l1.length : Int) := of_decide_eq_true (by first | (with_reducible assumption) | assumption)
          obtain ⟨ad102, A102_2, c102_2, e102, hx102_0, hx102_1, hx102_2, hl102_2, hi102_2⟩ := at_T62 HR1.out x5_1 p102 q102
          cases e102
          have HR102_2 := Aside0.mk hi102_2
          have HC102_2 := Aside0.mk hl102_2
          clear hi102_2 hl102_2
          replace p102 := eq_true p102
          replace q102 := eq_true q102
          have p103 : 0 ≤ (x5_1 : Int) := of_decide_eq_true (by first | (with_reducible assumption) | assumption)
          have q103 : x5_1 < (l0.length : Int) := of_decide_eq_true (by first | (with_reducible assumption) | assumption)
          obtain ⟨ad103, A103_2, c103_2, e103, hx103_0, hx103_1, hx103_2, hl103_2, hi103_2⟩ := at_T62 HR0.out x5_1 p103 q103
          obtain rfl : ad101 = ad103 := (by injection e103)
          have HR103_2 := Aside0.mk hi103_2
          have HC103_2 := Aside0.mk hl103_2
          clear hi103_2 hl103_2
          replace p103 := eq_true p103
          replace q103 := eq_true q103
          have ea_ := Option.some.inj (hx101_2.symm.trans hx103_2)
          injection ea_ with ea_ en_ ec_
          subst ea_
          subst ec_
          clear en_
          have p104 : 0 ≤ (x5_1 : Int) := of_decide_eq_true (by first | (with_reducible assumption) | assumption)
          have q104 : x5_1 < (l1.length : Int) := of_decide_eq_true (by first | (with_reducible assumption) | assumption)
          obtain ⟨ad104, A104_2, c104_2, e104, hx104_0, hx104_1, hx104_2, hl104_2, hi104_2⟩ := at_T62 HR1.out x5_1 p104 q104
          obtain rfl : ad102 = ad104 := (by injection e104)
          have HR104_2 := Aside0.mk hi104_2
          have HC104_2 := Aside0.mk hl104_2
          clear hi104_2 hl104_2
          replace p104 := eq_true p104
          replace q104 := eq_true q104
          have ea_ := Option.some.inj (hx102_2.symm.trans hx104_2)
          injection ea_ with ea_ en_ ec_
          subst ea_
          subst ec_
          clear en_
          have p105 : 0 ≤ (x5_1 : Int) := of_decide_eq_true (by first | (with_reducible assumption) | assumption)
          have q105 : x5_1 < (l0.length : Int) := of_decide_eq_true (by first | (with_reducible assumption) | assumption)
          obtain ⟨ad105, A105_2, c105_2, e105, hx105_0, hx105_1, hx105_2, hl105_2, hi105_2⟩ := at_T62 HR0.out x5_1 p105 q105
          obtain rfl : ad101 = ad105 := (by injection e105)
          have HR105_2 := Aside0.mk hi105_2
          have HC105_2 := Aside0.mk hl105_2
          clear hi105_2 hl105_2
          replace p105 := eq_true p105
          replace q105 := eq_true q105
          have ea_ := Option.some.inj (hx101_2.symm.trans hx105_2)
          injection ea_ with ea_ en_ ec_
          subst ea_
          subst ec_
          clear en_
          have hcv12 := Kd.C_string (P := Tryz.prog) (A := A101_2) (c := c101_2) Tryz.underlying23 Tryz.underlying5 Tryz.underlying9 HR105_2.out
          have hcv12b := fun (n_ : Nat) => Kd.C_string (P := Tryz.prog) (A := A101_2) (c := c101_2) Tryz.underlying23 Tryz.underlying5 Tryz.underlying9 (Kd.C_drewN HR105_2.out n_)
          have p106 : 0 ≤ (x5_1 : Int) := of_decide_eq_true (by first | (with_reducible assumption) | assumption)
          have q106 : x5_1 < (l1.length : Int) := of_decide_eq_true (by first | (with_reducible assumption) | assumption)
          obtain ⟨ad106, A106_2, c106_2, e106, hx106_0, hx106_1, hx106_2, hl106_2, hi106_2⟩ := at_T62 HR1.out x5_1 p106 q106
          obtain rfl : ad102 = ad106 := (by injection e106)
          have HR106_2 := Aside0.mk hi106_2
          have HC106_2 := Aside0.mk hl106_2
          clear hi106_2 hl106_2
          replace p106 := eq_true p106
          replace q106 := eq_true q106
          have ea_ := Option.some.inj (hx102_2.symm.trans hx106_2)
          injection ea_ with ea_ en_ ec_
          subst ea_
          subst ec_
          clear en_
          have hcv13 := Kd.C_string (P := Tryz.prog) (A := A102_2) (c := c102_2) Tryz.underlying23 Tryz.underlying5 Tryz.underlying9 HR106_2.out
          have hcv13b := fun (n_ : Nat) => Kd.C_string (P := Tryz.prog) (A := A102_2) (c := c102_2) Tryz.underlying23 Tryz.underlying5 Tryz.underlying9 (Kd.C_drewN HR106_2.out n_)
          go_wp2
          repeat (go_quiet (fail); try go_wp2)
          go_ret
          exact ⟨by first | rfl | (simp; done) | (simp [*]; done), by repeat (first | exact Drawn0.refl _ | apply Drawn0.step)⟩
       ·rw [if_neg c7] at H
        have c7b0 : (((rd_T62 l0 x5_1).f0).toList == ((rd_T62 l1 x5_1).f0).toList) = false := beq_eq_false_iff_ne.mpr c7
        have c7b1 : (((rd_T62 l0 x5_1).f0).toList != ((rd_T62 l1 x5_1).f0).toList) = true := bne_iff_ne.mpr c7
        obtain rfl := Option.some.inj H
        have p101 : 0 ≤ (x5_1 : Int) := of_decide_eq_true (by first | (with_reducible assumption) | assumption)
        have q101 : x5_1 < (l0.length : Int) := of_decide_eq_true (by first | (with_reducible assumption) | assumption)
        obtain ⟨ad101, A101_2, c101_2, e101, hx101_0, hx101_1, hx101_2, hl101_2, hi101_2⟩ := at_T62 HR0.out x5_1 p101 q101
        cases e101
        have HR101_2 := Aside0.mk hi101_2
        have HC101_2 := Aside0.mk hl101_2
        clear hi101_2 hl101_2
        replace p101 := eq_true p101
        replace q101 := eq_true q101
        have p102 : 0 ≤ (x5_1 : Int) := of_decide_eq_true (by first | (with_reducible assumption) | assumption)
        have q102 : x5_1 < (l1.length : Int) := of_decide_eq_true (by first | (with_reducible assumption) | assumption)
        obtain ⟨ad102, A102_2, c102_2, e102, hx102_0, hx102_1, hx102_2, hl102_2, hi102_2⟩ := at_T62 HR1.out x5_1 p102 q102
        cases e102
        have HR102_2 := Aside0.mk hi102_2
        have HC102_2 := Aside0.mk hl102_2
        clear hi102_2 hl102_2
        replace p102 := eq_true p102
        replace q102 := eq_true q102
        go_wp2
        repeat (go_quiet (fail); try go_wp2)
        go_ret
        exact ⟨by first | rfl | (simp; done) | (simp [*]; done), by repeat (first | exact Drawn0.refl _ | apply Drawn0.step)⟩
      ·rw [if_neg c6] at H
       exact absurd H (by simp)
     ·rw [if_neg c5] at H
      exact absurd H (by simp)
    ·rw [if_neg c4] at H
     have c4b0 : decide (x5_1 < (l0.length : Int)) = false := decide_eq_false c4
     clear c4
     obtain rfl := Option.some.inj H
     go_wp2
     repeat (go_quiet (fail); try go_wp2)
     go_ret
     exact ⟨by first | rfl | (simp; done) | (simp [*]; done), by repeat (first | exact Drawn0.refl _ | apply Drawn0.step)⟩
 ·rw [if_neg c3] at H
  have c3b0 : ((l0.length : Int) == (l1.length : Int)) = false := beq_eq_false_iff_ne.mpr c3
  have c3b1 : ((l0.length : Int) != (l1.length : Int)) = true := bne_iff_ne.mpr c3
  have c3b2 : (l0.length == l1.length) = false := by first | simpa using c3 | (simp at c3 ⊢; omega)
  obtain rfl := Option.some.inj H
  go_enter Tryz.func11, Tryz.ntmps11
  go_wp2
  repeat (go_quiet (fail); try go_wp2)
  go_ret
  exact ⟨by first | rfl | (simp; done) | (simp [*]; done), by repeat (first | exact Drawn0.refl _ | apply Drawn0.step)⟩
end Go.Proofs.YtmajfcdfafhkfaaGreatDoor.P
namespace Go.Proofs.YtmajfcdfafhkfaaGreatDoor.H
open Go.RowKit Go.Proofs.YtmajfcdfafhkfaaGreatDoorW.PrintWords Go.Proofs.YtmajfcdfafhkfaaGreatDoorW.PrintLast Go.Proofs.YtmajfcdfafhkfaaGreatDoor.Leaf Go.Proofs.YtmajfcdfafhkfaaGreatDoor.P
set_option linter.unusedVariables false
set_option linter.unusedSimpArgs false
set_option maxHeartbeats 4000000
set_option maxRecDepth 100000
theorem toA_inj {a b : S62} (h : toA a = toA b) : a = b := by
  unfold toA at h
  simp only [Prod.mk.injEq] at h
  obtain ⟨h1, h2, h3⟩ := h
  obtain ⟨a0, a1, a2⟩ := a
  obtain ⟨b0, b1, b2⟩ := b
  simp only at h1 h2 h3
  rw [kb_inj _ _ h1, h2, h3]
theorem map_toA_inj : ∀ {l m : List S62}, l.map toA = m.map toA → l = m
  | [], [], _ => rfl
  | [], _ :: _, h => by cases h
  | _ :: _, [], h => by cases h
  | a :: l, b :: m, h => by
    simp only [List.map_cons, List.cons.injEq] at h
    rw [toA_inj h.1, map_toA_inj h.2]
theorem same_on (l : List S62) (hl : l.length < 1000000000) : ∀ (k i : Nat), l.length < i + k → i ≤ l.length → mooringref09_Same.l0 k l l (i : Int) = some true
  | 0, i, h, hi => by omega
  | k + 1, i, h, hi => by
    unfold mooringref09_Same.l0
    by_cases hlt : i < l.length
    · rw [if_pos (by omega), if_pos (by omega), if_pos (by omega), if_pos rfl, if_neg (by simp), if_pos rfl]
      rw [show wrap64 ((i : Int) + 1) = ((i + 1 : Nat) : Int) by unfold wrap64; omega]
      exact same_on l hl k (i + 1) (by omega) (by omega)
    · rw [if_neg (by omega)]
theorem same_self (l : List S62) (hl : l.length < 1000000000) : mooringref09_Same.f (l.length + 1) l l = some true := by
  unfold mooringref09_Same.f
  rw [if_pos rfl]
  exact same_on l hl (l.length + 1) 0 (by omega) (by omega)
theorem enc_ok {W w' : World} {e : Ending} {l : List S62} (h : EncR W w' e l) (h1 : l.length ≤ 256) (h2 : ∀ a ∈ l, Wr.may (toA a)) (h3 : (Wr.encs (l.map toA)).length ≤ 13005) :
    ∃ v, e = .returned (.tuple #[v, .int .i64 0]) ∧ Kd.R (Kd.int .u8) 5 w' W.heap.size (fun k => W.heap.size ≤ k) v (Wr.encs (l.map toA)) := by
  rcases h with ⟨_, _, _, h⟩ | ⟨h, _⟩ | ⟨_, _, h, _⟩
  · exact h
  · exact absurd ⟨h1, h2⟩ h
  · omega
theorem enc_arg {W w' : World} {e : Ending} {l : List S62} (h : EncR W w' e l) (h1 : ¬ (l.length ≤ 256 ∧ ∀ a ∈ l, Wr.may (toA a))) : e = .returned (.tuple #[.slice none 0 0, .int .i64 1]) := by
  rcases h with ⟨a, b, _⟩ | ⟨_, h⟩ | ⟨a, b, _⟩
  · exact absurd ⟨a, b⟩ h1
  · exact h
  · exact absurd ⟨a, b⟩ h1
theorem enc_long {W w' : World} {e : Ending} {l : List S62} (h : EncR W w' e l) (h1 : l.length ≤ 256) (h2 : ∀ a ∈ l, Wr.may (toA a)) (h3 : 13005 < (Wr.encs (l.map toA)).length) : e = .returned (.tuple #[.slice none 0 0, .int .i64 3]) := by
  rcases h with ⟨_, _, h, _⟩ | ⟨h, _⟩ | ⟨_, _, _, h⟩
  · omega
  · exact absurd ⟨h1, h2⟩ h
  · exact h
theorem enc1_byte (a : Wr.Act) (h1 : Wr.Byte a.1) (h2 : Wr.Byte a.2.2) : Wr.Byte (Wr.enc1 a) := by
  unfold Wr.enc1
  refine (Wr.uv_byte _).app (h1.app ?_)
  split
  · intro c hc
    rcases List.mem_cons.1 hc with rfl | hc
    · decide
    · exact ((Wr.uv_byte _).app h2) c hc
  · intro c hc
    rw [List.mem_singleton.1 hc]
    decide
theorem encs_byte (l : List S62) (h : ∀ x ∈ l, Wr.Byte x.f2) : Wr.Byte (Wr.encs (l.map toA)) := by
  unfold Wr.encs
  refine (Wr.uv_byte _).app (fun c hc => ?_)
  obtain ⟨a, ha, hca⟩ := List.mem_flatMap.1 hc
  obtain ⟨x, hx, rfl⟩ := List.mem_map.1 ha
  exact enc1_byte _ (kb_byte _) (h x hx) c hca
end Go.Proofs.YtmajfcdfafhkfaaGreatDoor.H
namespace Go.Proofs.YtmajfcdfafhkfaaGreatDoor.H
open Go.RowKit Go.Proofs.YtmajfcdfafhkfaaGreatDoorW.PrintWords Go.Proofs.YtmajfcdfafhkfaaGreatDoorW.PrintLast Go.Proofs.YtmajfcdfafhkfaaGreatDoor.Leaf Go.Proofs.YtmajfcdfafhkfaaGreatDoor.P
set_option linter.unusedVariables false
set_option linter.unusedSimpArgs false
set_option maxHeartbeats 4000000
set_option maxRecDepth 100000
theorem byte_back : ∀ (l : List Int), Wr.Byte l → (l.map fun n => UInt8.ofNat n.toNat).map (fun u => ((u.toNat : Nat) : Int)) = l
  | [], _ => rfl
  | x :: t, h => by
    have hx := h x (List.mem_cons_self ..)
    have ht := byte_back t (fun y hy => h y (List.mem_cons_of_mem _ hy))
    simp only [List.map_cons, ht, List.cons.injEq, and_true]
    simp
    omega
theorem str_eq {x y : List Int} (hx : Wr.Byte x) (hy : Wr.Byte y) (h : (strOfNums x).toList = (strOfNums y).toList) : x = y := by
  have hb : ∀ l : List Int, (strOfNums l).toList = l.map fun n => UInt8.ofNat n.toNat := fun l => by
    rw [Lib.strOfNums_toList]
    rfl
  rw [hb, hb] at h
  rw [← byte_back x hx, ← byte_back y hy, h]
theorem dec_inv {b : List Int} {L : List Wr.Act} (h : Wr.dec b = some L) : ∃ n r0, Wr.num 256 b = some (n, r0) ∧ Wr.decL n r0 = some (L, []) := by
  unfold Wr.dec at h
  cases e : Wr.num 256 b with
  | none => rw [e] at h; cases h
  | some p =>
    rw [e] at h
    simp only [Option.bind_some] at h
    cases e2 : Wr.decL p.1 p.2 with
    | none => rw [e2] at h; cases h
    | some q =>
      rw [e2] at h
      simp only [Option.bind_some] at h
      split at h
      · rename_i hq
        cases h
        exact ⟨p.1, p.2, rfl, by rw [e2, ← hq]⟩
      · cases h
theorem decL_inv {m : Nat} {rest : List Int} {T : List Wr.Act} (h : Wr.decL (m + 1) rest = some (T, [])) : ∃ a r' T', T = a :: T' ∧ Wr.dec1 rest = some (a, r') ∧ Wr.decL m r' = some (T', []) := by
  simp only [Wr.decL] at h
  cases e : Wr.dec1 rest with
  | none => rw [e] at h; cases h
  | some a =>
    rw [e] at h
    simp only [Option.bind_some] at h
    split at h
    · cases e2 : Wr.decL m a.2 with
      | none => rw [e2] at h; cases h
      | some q =>
        rw [e2] at h
        simp only [Option.map_some, Option.some.injEq, Prod.mk.injEq] at h
        exact ⟨a.1, a.2, q.1, h.1.symm, rfl, by rw [e2, ← h.2]⟩
    · cases h
theorem dec1_inv {rest r' : List Int} {a : Wr.Act} (h : Wr.dec1 rest = some (a, r')) : ∃ kx r1 s r2, Wr.bts 64 rest = some (kx, r1) ∧ Wr.num 1 r1 = some (s, r2) ∧ ((s = 1 ∧ ∃ dx, Wr.bts 4096 r2 = some (dx, r') ∧ a = (kx, true, dx)) ∨ (s ≠ 1 ∧ r' = r2 ∧ a = (kx, false, []))) := by
  unfold Wr.dec1 at h
  cases e : Wr.bts 64 rest with
  | none => rw [e] at h; cases h
  | some k =>
    rw [e] at h
    simp only [Option.bind_some] at h
    cases e2 : Wr.num 1 k.2 with
    | none => rw [e2] at h; cases h
    | some s =>
      rw [e2] at h
      simp only [Option.bind_some] at h
      refine ⟨k.1, k.2, s.1, s.2, rfl, e2, ?_⟩
      split at h
      · rename_i hs
        cases e3 : Wr.bts 4096 s.2 with
        | none => rw [e3] at h; cases h
        | some d =>
          rw [e3] at h
          cases h
          exact Or.inl ⟨hs, d.1, rfl, rfl⟩
      · rename_i hs
        cases h
        exact Or.inr ⟨hs, rfl, rfl⟩
theorem drop_cons {L : List Wr.Act} {i : Nat} {a : Wr.Act} {T : List Wr.Act} (h : L.drop i = a :: T) : L.take (i + 1) = L.take i ++ [a] ∧ T = L.drop (i + 1) := by
  have hi : i < L.length := by
    rcases Nat.lt_or_ge i L.length with h2 | h2
    · exact h2
    · rw [List.drop_eq_nil_of_le h2] at h; cases h
  rw [List.drop_eq_getElem_cons hi] at h
  simp only [List.cons.injEq] at h
  exact ⟨by rw [List.take_succ_eq_append_getElem hi, h.1], h.2.symm⟩
/-- What the reference's Decode keeps between two acts. -/
def On (b : List Int) (N i p : Nat) (e : Int) (acts : List S62) : Prop := ∀ L, Wr.dec b = some L → e = 0 ∧ Wr.decL (N - i) (b.drop p) = some (L.drop i, []) ∧ acts.map toA = L.take i
theorem On.step0 {b : List Int} {N i p p1 p2 : Nat} {e e1 e2 : Int} {acts : List S62} {x1 : List Int} (h : On b N i p e acts) (hi : i < N) (hx : Wr.Byte x1)
    (imp1 : ∀ x0 r, e = 0 → Wr.bts 64 (b.drop p) = some (x0, r) → x1 = x0 ∧ e1 = 0 ∧ r = b.drop p1) (imp2 : ∀ n0 r, e1 = 0 → Wr.num 1 (b.drop p1) = some (n0, r) → 0 = n0 ∧ e2 = 0 ∧ r = b.drop p2) : On b N (i + 1) p2 e2 (acts ++ [⟨strOfNums x1, false, []⟩]) := by
  intro L hL
  obtain ⟨h1, h2, h3⟩ := h L hL
  rw [show N - i = (N - (i + 1)) + 1 by omega] at h2
  obtain ⟨a, r', T', hT, hd1, hdL⟩ := decL_inv h2
  obtain ⟨ht1, ht2⟩ := drop_cons hT
  obtain ⟨kx, r1, s, r2, b1, b2, b3⟩ := dec1_inv hd1
  obtain ⟨rfl, c2, c3⟩ := imp1 kx r1 h1 b1
  rw [c3] at b2
  obtain ⟨d1, d2, d3⟩ := imp2 s r2 c2 b2
  rcases b3 with ⟨hs, _⟩ | ⟨_, hr, ha⟩
  · omega
  · refine ⟨d2, by rw [← d3, ← hr, ← ht2]; exact hdL, ?_⟩
    rw [List.map_append, h3, ht1, ha]
    simp only [List.map_cons, List.map_nil, toA, kb_str _ hx]
theorem On.step1 {b : List Int} {N i p p1 p2 p3 : Nat} {e e1 e2 e3 : Int} {acts : List S62} {x1 x3 : List Int} (h : On b N i p e acts) (hi : i < N) (hx : Wr.Byte x1)
    (imp1 : ∀ x0 r, e = 0 → Wr.bts 64 (b.drop p) = some (x0, r) → x1 = x0 ∧ e1 = 0 ∧ r = b.drop p1) (imp2 : ∀ n0 r, e1 = 0 → Wr.num 1 (b.drop p1) = some (n0, r) → 1 = n0 ∧ e2 = 0 ∧ r = b.drop p2)
    (imp3 : ∀ x0 r, e2 = 0 → Wr.bts 4096 (b.drop p2) = some (x0, r) → x3 = x0 ∧ e3 = 0 ∧ r = b.drop p3) : On b N (i + 1) p3 e3 (acts ++ [⟨strOfNums x1, true, x3⟩]) := by
  intro L hL
  obtain ⟨h1, h2, h3⟩ := h L hL
  rw [show N - i = (N - (i + 1)) + 1 by omega] at h2
  obtain ⟨a, r', T', hT, hd1, hdL⟩ := decL_inv h2
  obtain ⟨ht1, ht2⟩ := drop_cons hT
  obtain ⟨kx, r1, s, r2, b1, b2, b3⟩ := dec1_inv hd1
  obtain ⟨rfl, c2, c3⟩ := imp1 kx r1 h1 b1
  rw [c3] at b2
  obtain ⟨d1, d2, d3⟩ := imp2 s r2 c2 b2
  rcases b3 with ⟨_, dx, b4, ha⟩ | ⟨hs, _⟩
  · rw [d3] at b4
    obtain ⟨rfl, f2, f3⟩ := imp3 dx r' d2 b4
    refine ⟨f2, by rw [← f3, ← ht2]; exact hdL, ?_⟩
    rw [List.map_append, h3, ht1, ha]
    simp only [List.map_cons, List.map_nil, toA, kb_str _ hx]
  · omega
theorem On.all {b : List Int} {N p : Nat} {e : Int} {acts : List S62} (h : On b N N p e acts) {L : List Wr.Act} (hL : Wr.dec b = some L) : L = acts.map toA := by
  obtain ⟨_, h2, h3⟩ := h L hL
  rw [Nat.sub_self] at h2
  simp only [Wr.decL, Option.some.injEq, Prod.mk.injEq] at h2
  rw [h3]
  conv => lhs; rw [← List.take_append_drop N L, ← h2.1, List.append_nil]
/-- What the reference's Decode answers. -/
def RefR (W w' : World) (e : Ending) (b : List Int) : Prop :=
  (∃ v l, Wr.dec b = some (l.map toA) ∧ b.length ≤ 13005 ∧ e = .returned (.tuple #[v, .int .i64 0]) ∧ Kd.R k62 62 w' W.heap.size (fun k => W.heap.size ≤ k) v l) ∨
  ((Wr.dec b = none ∨ 13005 < b.length) ∧ e = .returned (.tuple #[.slice none 0 0, .int .i64 5]))
theorem R_none62 (w : World) (B : Nat) (ok : Nat → Prop) (hB : B ≤ w.heap.size) (hok : ok w.heap.size) : Kd.R k62 62 (w.alloc (.cells #[] 62)) B ok (.slice (some ⟨w.heap.size, 0, none⟩) 0 0) [] :=
  ⟨fun k hk => by cases hk; exact hok, OwnRow.lit w B (Reps.none _ _) hB (by decide)⟩
end Go.Proofs.YtmajfcdfafhkfaaGreatDoor.H
