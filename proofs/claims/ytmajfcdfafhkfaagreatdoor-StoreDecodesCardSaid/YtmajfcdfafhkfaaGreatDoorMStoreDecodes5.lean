/- Words and walks that the claim StoreDecodes leans on (what it does not use is left out). -/
import Derived.Test.YtmajfcdfafhkfaaGreatDoorMStoreDecodes4
import Derived.Test.YtmajfcdfafhkfaaGreatDoorMStoreDecodes2
import Derived.Deep.Strs
import Derived.Deep.Slices
import Derived.ChangeSlices
import Derived.ChangeArms
namespace Go.Proofs.YtmajfcdfafhkfaaGreatDoor.H
open Go.RowKit Go.Proofs.YtmajfcdfafhkfaaGreatDoorW.PrintWords Go.Proofs.YtmajfcdfafhkfaaGreatDoorW.PrintLast Go.Proofs.YtmajfcdfafhkfaaGreatDoor.Leaf Go.Proofs.YtmajfcdfafhkfaaGreatDoor.P
set_option linter.unusedVariables false
set_option linter.unusedSimpArgs false
set_option maxHeartbeats 4000000
set_option maxRecDepth 100000
theorem ref_Decode (W : World) (A : Option Addr) (c : Nat) (b : List Int) (hC : Kd.C (Kd.int .u8) W A b.length b) (hc : b.length ≤ c) (hl : b.length < 1000000000) (hby : Wr.Byte b) :
    Calls Tryz.prog 12 #[.slice A b.length c] W fun e w' => RefR W w' e b ∧ Below W.heap.size W w' := by
  obtain ⟨N, p0, e0, hN, hp0, himp0, H0⟩ := ref_ReadNumber b 0 0 256 (by decide) hby hl (Nat.zero_le _)
  have HON : Aside0 (On b N 0 p0 e0 []) := ⟨fun L hL => by
    obtain ⟨n, r0, h1, h2⟩ := dec_inv hL
    obtain ⟨rfl, h4, h5⟩ := himp0 n r0 rfl (by rw [List.drop_zero]; exact h1)
    exact ⟨h4, by rw [← h5]; exact h2, rfl⟩⟩
  have HFIX := Aside0.mk (And.intro hby (And.intro hl (And.intro hC hc)))
  have HN256 := Aside0.mk hN
  have HP0 := Aside0.mk hp0
  have HN0 := Aside0.mk (H0 W (W.alloc (.cells #[.slice A b.length c, .int .i64 0, .int .i64 0] 79)) W.heap.size (IsS79.new W W A c b 0 0 (Below.refl _ _) hC hc) (below_alloc (Below.refl _ _) _))
  clear hC H0 himp0 hp0
  go_enter Tryz.func12, Tryz.ntmps12
  go_wp2_with (first | (go_at_call 39; refine HN0.out.mono ?_; rintro e w1 ⟨rfl, hI, hB, hK⟩; have HI := Aside0.mk (IsS79.alloc hI (.cells #[] 62)); have HV := Aside0.mk (R_none62 w1 W.heap.size (fun k => W.heap.size ≤ k ∧ W.heap.size < k) hB.size ⟨hB.size, IsS79.lt hI⟩); have HB := Aside0.mk (below_alloc hB (.cells #[] 62)); clear hI hB hK))
  go_loopg [6, 7, 8] N (fun gg s6 s7 _ wr => ∃ (i p : Nat) (e : Int) (acts : List S62), i ≤ N ∧ N - i ≤ gg ∧ s7 = .int .i64 (i : Int) ∧ p ≤ b.length ∧ Aside0 (IsS79 W wr W.heap.size b (p : Int) e) ∧ Aside0 (Kd.R k62 62 wr W.heap.size (fun k => W.heap.size ≤ k ∧ W.heap.size < k) s6 acts) ∧ Aside0 (Below W.heap.size W wr) ∧ Aside0 (acts.length = i) ∧ Aside0 (∀ x ∈ acts, Wr.Byte x.f2) ∧ Aside0 (On b N i p e acts))
  case atStart => exact ⟨0, p0, e0, [], Nat.zero_le _, by omega, rfl, HP0.out, HI, HV, HB, ⟨rfl⟩, ⟨fun x hx => by cases hx⟩, HON⟩
  case round =>
    clear HI HV HB HON HN0
    obtain ⟨i, p, e, acts, hi, hgg, rfl, hp, HI, HV, HB, HAL, HAB, HON⟩ := hrel
    by_cases hlt : i < N
    · have hltz : (i : Int) < (N : Int) := by omega
      have hw1 : IntKind.i64.wrap ((i : Int) + 1) = (i : Int) + 1 := IntWalk.i64_in _ (by have := HN256.out; omega)
      have HLT := Aside0.mk hlt
      obtain ⟨x1, p1, e1, hx1, _, hp1, imp1, H1⟩ := ref_ReadBytes b p e 64 (by decide) hby hl hp
      obtain ⟨n1, p2, e2, hn1, hp2, imp2, H2⟩ := ref_ReadNumber b p1 e1 1 (by decide) hby hl hp1
      have H1 := Aside0.mk H1
      have H2 := Aside0.mk H2
      have HX1 := Aside0.mk hx1
      have HP2 := Aside0.mk hp2
      rcases (by omega : n1 = 0 ∨ n1 = 1) with rfl | rfl
      · have HON2 := Aside0.mk (On.step0 HON.out hlt hx1 imp1 imp2)
        clear imp1 imp2 hx1 hp1 hp2 hn1 hp HON
        go_wp2_with (first | (go_at_call 40; refine (H1.out W wr W.heap.size HI.out HB.out).mono ?_; clear H1; rintro e w1 ⟨v1, rfl, hR, hI, hB, hK⟩; obtain ⟨A1, c1, rfl, _, hc1, hC1⟩ := R_own hR; have hcv1 := str_of w1 A1 c1 x1 hC1; have HB1 := Aside0.mk hB; have HGL := Aside0.mk (show W.heap.size < w1.heap.size from IsS79.lt hI); have HI1 := Aside0.mk (IsS79.alloc hI (.cells #[.string (strOfNums x1), .bool false, .slice none 0 0] 62)); have HV1 := Aside0.mk (Kd.R_mono (Kd.R_bound (Kd.R_keep HV.out hK (fun k hk => Nat.ne_of_gt hk.2))) (ok' := fun k => (W.heap.size ≤ k ∧ W.heap.size < k) ∧ k < w1.heap.size) (fun k hk => ⟨hk.1, hk.2.2.1⟩)); clear hR hI hB hK hc1 hC1) | (go_at_call 39; refine (H2.out W _ W.heap.size HI1.out (below_alloc HB1.out _)).mono ?_; clear H2; rintro e w2 ⟨rfl, hI, hB, hK⟩; have hq2 : w2.heap[w1.heap.size]? = some (.cells #[.string (strOfNums x1), .bool false, .slice none 0 0] 62 (0, 0)) := hK.blk (heap_top _ _) (by have := HGL.out; omega) (by simp); have q1 := cell_of_block (k := 1) hq2 rfl; have f1 := blk_frozen hq2 1; have HSZ2 : Aside0 (w1.heap.size < w2.heap.size) := ⟨Nat.lt_of_lt_of_le (by rw [World.size_alloc]; omega) hK.1⟩; have HV2 := Aside0.mk (Kd.R_keep (Kd.R_alloc HV1.out (.cells #[.string (strOfNums x1), .bool false, .slice none 0 0] 62)) hK (fun k hk => Nat.ne_of_gt hk.1.2)); have hq3 : (w2.setCell ⟨w1.heap.size, 1, none⟩ (.bool false)).heap[w1.heap.size]? = some (.cells #[.string (strOfNums x1), .bool false, .slice none 0 0] 62 (0, 0)) := (by simpa using blk_set hq2 1 (.bool false)); have m0 := cell_of_block (k := 0) hq3 rfl; have m1 := cell_of_block (k := 1) hq3 rfl; have m2 := cell_of_block (k := 2) hq3 rfl; have HQ3 := Aside0.mk hq3; have HV3 := Aside0.mk (Kd.R_far HV2.out (p := ⟨w1.heap.size, 1, none⟩) (fun k hk => Nat.ne_of_lt hk.2) (.bool false)); have HB3 := Aside0.mk (hB.setCell (p := ⟨w1.heap.size, 1, none⟩) HB1.out.size (.bool false)); have HI3 := Aside0.mk (IsS79.far hI (p := ⟨w1.heap.size, 1, none⟩) (by have := HGL.out; show W.heap.size ≠ w1.heap.size; omega) (.bool false)); have HS3 : Aside0 (w1.heap.size < (w2.setCell ⟨w1.heap.size, 1, none⟩ (.bool false)).heap.size) := ⟨by rw [World.size_setCell]; exact HSZ2.out⟩; clear hI hB hK hq3 hq2) | ((with_reducible refine gate_builtin (b := .append) (xs := #[.tmp 35, .tmp 37]) rfl ?_); at_builtin; refine Kd.R_append k62 (w0 := W) W.heap.size rfl (.tmp 35) (.tmp 37) 22 62 (.agg #[.string ⟨#[]⟩, .bool false, .slice none 0 0]) 48 rfl Tryz.underlying22 info62 rfl (by decide) (by decide) u6 acts (⟨strOfNums x1, false, []⟩ : S62) [.string (strOfNums x1), .bool false, .slice none 0 0] (fun k => W.heap.size ≤ k ∧ W.heap.size < k) (fun _ => False) rfl (by first | rfl | (rw [World.size_setCell]; rfl)) ?aP ?aK ?aF ?aO ?aB ?aS ?aL ?_; (case aP => exact k62_mkM _ _ _ _ (Kd.R_nil _ _ _ _ _)); (case aK => exact fun _ hk => hk.elim); (case aF => exact fun k hk => ⟨Nat.le_trans HB3.out.size hk, by have := IsS79.lt HI3.out; omega⟩); (case aO => exact Kd.R_mono HV3.out (fun k hk => hk.1)); (case aB => exact HB3.out); (case aS => exact HB3.out.size); (case aL => have := HAL.out; have := HLT.out; have := HN256.out; omega); intro v7 w7 ho hb hgr hat; have HV7 := Aside0.mk ho; have HB7 := Aside0.mk hb; have HI7 := Aside0.mk (IsS79.grown HI3.out hgr (fun h => Nat.lt_irrefl _ ((HV3.out.1 _ h.symm).1.2))); clear ho hb hgr hat))
        go_roundg (N - (i + 1))
        case measure => omega
        case rel => exact ⟨i + 1, p2, e2, acts ++ [⟨strOfNums x1, false, []⟩], by omega, by omega, by go_num, HP2.out, HI7, HV7, HB7, ⟨by rw [List.length_append, HAL.out]; rfl⟩, ⟨fun x hx => by
          rcases List.mem_append.1 hx with h | h
          · exact HAB.out x h
          · rw [List.mem_singleton.1 h]; exact fun c hc => by cases hc⟩, HON2⟩
      · obtain ⟨x3, p3, e3, hx3, hl3, hp3, imp3, H3⟩ := ref_ReadBytes b p2 e2 4096 (by decide) hby hl hp2
        have H3 := Aside0.mk H3
        have HX3 := Aside0.mk hx3
        have HP3 := Aside0.mk hp3
        have HON2 := Aside0.mk (On.step1 HON.out hlt hx1 imp1 imp2 imp3)
        clear imp1 imp2 imp3 hx1 hp1 hp2 hn1 hp hx3 hp3 HON
        go_wp2_with (first | (go_at_call 40; refine (H1.out W wr W.heap.size HI.out HB.out).mono ?_; clear H1; rintro e w1 ⟨v1, rfl, hR, hI, hB, hK⟩; obtain ⟨A1, c1, rfl, _, hc1, hC1⟩ := R_own hR; have hcv1 := str_of w1 A1 c1 x1 hC1; have HB1 := Aside0.mk hB; have HGL := Aside0.mk (show W.heap.size < w1.heap.size from IsS79.lt hI); have HI1 := Aside0.mk (IsS79.alloc hI (.cells #[.string (strOfNums x1), .bool false, .slice none 0 0] 62)); have HV1 := Aside0.mk (Kd.R_mono (Kd.R_bound (Kd.R_keep HV.out hK (fun k hk => Nat.ne_of_gt hk.2))) (ok' := fun k => (W.heap.size ≤ k ∧ W.heap.size < k) ∧ k < w1.heap.size) (fun k hk => ⟨hk.1, hk.2.2.1⟩)); clear hR hI hB hK hc1 hC1) | (go_at_call 39; refine (H2.out W _ W.heap.size HI1.out (below_alloc HB1.out _)).mono ?_; clear H2; rintro e w2 ⟨rfl, hI, hB, hK⟩; have hq2 : w2.heap[w1.heap.size]? = some (.cells #[.string (strOfNums x1), .bool false, .slice none 0 0] 62 (0, 0)) := hK.blk (heap_top _ _) (by have := HGL.out; omega) (by simp); have q1 := cell_of_block (k := 1) hq2 rfl; have f1 := blk_frozen hq2 1; have HSZ2 : Aside0 (w1.heap.size < w2.heap.size) := ⟨Nat.lt_of_lt_of_le (by rw [World.size_alloc]; omega) hK.1⟩; have HV2 := Aside0.mk (Kd.R_keep (Kd.R_alloc HV1.out (.cells #[.string (strOfNums x1), .bool false, .slice none 0 0] 62)) hK (fun k hk => Nat.ne_of_gt hk.1.2)); have hq3 : (w2.setCell ⟨w1.heap.size, 1, none⟩ (.bool true)).heap[w1.heap.size]? = some (.cells #[.string (strOfNums x1), .bool true, .slice none 0 0] 62 (0, 0)) := (by simpa using blk_set hq2 1 (.bool true)); have m1 := cell_of_block (k := 1) hq3 rfl; have HQ3 := Aside0.mk hq3; have HV3 := Aside0.mk (Kd.R_far HV2.out (p := ⟨w1.heap.size, 1, none⟩) (fun k hk => Nat.ne_of_lt hk.2) (.bool true)); have HB3 := Aside0.mk (hB.setCell (p := ⟨w1.heap.size, 1, none⟩) HB1.out.size (.bool true)); have HI3 := Aside0.mk (IsS79.far hI (p := ⟨w1.heap.size, 1, none⟩) (by have := HGL.out; show W.heap.size ≠ w1.heap.size; omega) (.bool true)); have HS3 : Aside0 (w1.heap.size < (w2.setCell ⟨w1.heap.size, 1, none⟩ (.bool true)).heap.size) := ⟨by rw [World.size_setCell]; exact HSZ2.out⟩; clear hI hB hK hq3 hq2) | (go_at_call 40; refine (H3.out W _ W.heap.size HI3.out HB3.out).mono ?_; clear H3; rintro e w4 ⟨v4, rfl, hR, hI, hB, hK⟩; obtain ⟨A4, c4, rfl, _, _, _⟩ := R_own hR; have hq4 : w4.heap[w1.heap.size]? = some (.cells #[.string (strOfNums x1), .bool true, .slice none 0 0] 62 (0, 0)) := hK.blk HQ3.out (by have := HGL.out; omega) (by simp); have q4 := cell_of_block (k := 2) hq4 rfl; have f4 := blk_frozen hq4 2; have hq5 : (w4.setCell ⟨w1.heap.size, 2, none⟩ (.slice A4 x3.length c4)).heap[w1.heap.size]? = some (.cells #[.string (strOfNums x1), .bool true, .slice A4 x3.length c4] 62 (0, 0)) := (by simpa using blk_set hq4 2 (.slice A4 x3.length c4)); have s0 := cell_of_block (k := 0) hq5 rfl; have s1 := cell_of_block (k := 1) hq5 rfl; have s2 := cell_of_block (k := 2) hq5 rfl; have HB5 := Aside0.mk (hB.setCell (p := ⟨w1.heap.size, 2, none⟩) HB1.out.size (.slice A4 x3.length c4)); have HI5 := Aside0.mk (IsS79.far hI (p := ⟨w1.heap.size, 2, none⟩) (by have := HGL.out; show W.heap.size ≠ w1.heap.size; omega) (.slice A4 x3.length c4)); have HV5 := Aside0.mk (Kd.R_far (Kd.R_keep HV3.out hK (fun k hk => Nat.ne_of_gt hk.1.2)) (p := ⟨w1.heap.size, 2, none⟩) (fun k hk => Nat.ne_of_lt hk.2) (.slice A4 x3.length c4)); have HD5 := Aside0.mk (Kd.R_far (Kd.R_mono (Kd.R_lower hR HB3.out.size) (ok' := fun k => w1.heap.size < k) (fun k hk => Nat.lt_of_lt_of_le HS3.out hk)) (p := ⟨w1.heap.size, 2, none⟩) (fun k hk => Nat.ne_of_gt hk) (.slice A4 x3.length c4)); clear hR hI hB hK hq4 hq5 m1) | ((with_reducible refine gate_builtin (b := .append) (xs := #[.tmp 35, .tmp 37]) rfl ?_); at_builtin; refine Kd.R_append k62 (w0 := W) W.heap.size rfl (.tmp 35) (.tmp 37) 22 62 (.agg #[.string ⟨#[]⟩, .bool false, .slice none 0 0]) 48 rfl Tryz.underlying22 info62 rfl (by decide) (by decide) u6 acts (⟨strOfNums x1, true, x3⟩ : S62) [.string (strOfNums x1), .bool true, .slice A4 x3.length c4] (fun k => W.heap.size ≤ k ∧ W.heap.size < k) (fun k => w1.heap.size < k) rfl (by first | rfl | (rw [World.size_setCell]; rfl)) ?aP ?aK ?aF ?aO ?aB ?aS ?aL ?_; (case aP => exact k62_mkM _ _ _ _ HD5.out); (case aK => exact fun k hk => ⟨⟨Nat.le_trans HB1.out.size (Nat.le_of_lt hk), Nat.lt_trans HGL.out hk⟩, fun h => by have := (HV5.out.1 k h.symm).2; omega⟩); (case aF => exact fun k hk => ⟨Nat.le_trans HB5.out.size hk, by have := IsS79.lt HI5.out; omega⟩); (case aO => exact Kd.R_mono HV5.out (fun k hk => hk.1)); (case aB => exact HB5.out); (case aS => exact HB5.out.size); (case aL => have := HAL.out; have := HLT.out; have := HN256.out; omega); intro v7 w7 ho hb hgr hat; have HV7 := Aside0.mk ho; have HB7 := Aside0.mk hb; have HI7 := Aside0.mk (IsS79.grown HI5.out hgr (fun h => Nat.lt_irrefl _ ((HV5.out.1 _ h.symm).1.2))); clear ho hb hgr hat))
        go_roundg (N - (i + 1))
        case measure => omega
        case rel => exact ⟨i + 1, p3, e3, acts ++ [⟨strOfNums x1, true, x3⟩], by omega, by omega, by go_num, HP3.out, HI7, HV7, HB7, ⟨by rw [List.length_append, HAL.out]; rfl⟩, ⟨fun x hx => by
          rcases List.mem_append.1 hx with h | h
          · exact HAB.out x h
          · rw [List.mem_singleton.1 h]; exact HX3.out⟩, HON2⟩
    · have hltz : ¬ (i : Int) < (N : Int) := by omega
      obtain rfl : i = N := by omega
      obtain ⟨Av, cv, rfl⟩ := Kd.R_slice HV.out
      have HE := Aside0.mk (ref_Encode wr Av acts.length cv acts (Kd.R_reads' HV.out).2.2 (by have := HAL.out; have := HN256.out; omega))
      have HV' := Aside0.mk (Kd.R_mono HV.out (ok' := fun k => W.heap.size ≤ k) (fun k hk => hk.1))
      clear HI HV
      by_cases hp : acts.length ≤ 256 ∧ ∀ a ∈ acts, Wr.may (toA a)
      · by_cases hbig : 13005 < (Wr.encs (acts.map toA)).length
        · have HNO : Aside0 (Wr.dec b = none ∨ 13005 < b.length) := ⟨by
            cases hd : Wr.dec b with
            | none => exact Or.inl rfl
            | some L =>
              have hL := On.all HON.out hd
              have := (Wr.dec_some hby hd).1
              right
              rw [this, hL]
              exact hbig⟩
          have HP := Aside0.mk (And.intro hp.1 (And.intro hp.2 hbig))
          have hcv := conv_nil
          clear hp hbig
          go_wp2_with (first | (go_at_call 8; refine HE.out.mono ?_; rintro e w2 ⟨hE, hb⟩; have he := enc_long hE HP.out.1 HP.out.2.1 HP.out.2.2; subst he; have HB2 := Aside0.mk (below_step HB.out hb); clear hE hb))
          go_ret2
          exact ⟨Or.inr ⟨HNO.out, rfl⟩, HB2.out⟩
        · have HP := Aside0.mk (And.intro hp.1 (And.intro hp.2 (show (Wr.encs (acts.map toA)).length ≤ 13005 by omega)))
          have HEB := Aside0.mk (encs_byte acts HAB.out)
          by_cases heq : Wr.encs (acts.map toA) = b
          · have HEQ := Aside0.mk heq
            have HDE : Aside0 (Wr.dec b = some (acts.map toA)) := ⟨by rw [← heq]; exact Wr.dec_enc _ (by rw [List.length_map]; exact hp.1) (fun a ha => by obtain ⟨x, hx, rfl⟩ := List.mem_map.1 ha; exact hp.2 x hx)⟩
            have hne : ((strOfNums b).toList != (strOfNums b).toList) = false := by simp
            clear hp hbig heq
            go_wp2_with (first | (go_at_call 8; refine HE.out.mono ?_; rintro e w2 ⟨hE, hb⟩; obtain ⟨v2, he, hR2⟩ := enc_ok hE HP.out.1 HP.out.2.1 HP.out.2.2; subst he; rw [HEQ.out] at hR2; obtain ⟨A2, c2, rfl, _, hc2, hC2⟩ := R_own hR2; have HB2 := Aside0.mk (below_step HB.out hb); have HV2 := Aside0.mk (Kd.R_below HV'.out hb); have hcv1 := str_of w2 A2 c2 b hC2; have hcv2 := str_of w2 A c b (Kd.C_below HFIX.out.2.2.1 HB2.out); clear hE hb hR2 hc2 hC2))
            go_ret2
            exact ⟨Or.inl ⟨_, acts, HDE.out, by have := HP.out.2.2; rw [HEQ.out] at this; exact this, rfl, HV2.out⟩, HB2.out⟩
          · have HNO : Aside0 (Wr.dec b = none ∨ 13005 < b.length) := ⟨by
              cases hd : Wr.dec b with
              | none => exact Or.inl rfl
              | some L =>
                have hL := On.all HON.out hd
                have h1 := (Wr.dec_some hby hd).1
                rw [hL] at h1
                exact absurd h1.symm heq⟩
            have hne : ((strOfNums (Wr.encs (acts.map toA))).toList != (strOfNums b).toList) = true := by
              rw [bne_iff_ne]
              exact fun h => heq (str_eq HEB.out hby h)
            have hne2 : ¬ (strOfNums (Wr.encs (acts.map toA))).toList = (strOfNums b).toList := fun h => heq (str_eq HEB.out hby h)
            have hne3 : ((strOfNums (Wr.encs (acts.map toA))).toList == (strOfNums b).toList) = false := beq_eq_false_iff_ne.2 hne2
            generalize hbs : Wr.encs (acts.map toA) = bs at *
            have HBS := Aside0.mk hbs
            clear hp hbig heq hbs
            go_wp2_with (first | (go_at_call 8; refine HE.out.mono ?_; rintro e w2 ⟨hE, hb⟩; obtain ⟨v2, he, hR2⟩ := enc_ok hE HP.out.1 HP.out.2.1 (by rw [HBS.out]; exact HP.out.2.2); subst he; rw [HBS.out] at hR2; obtain ⟨A2, c2, rfl, _, hc2, hC2⟩ := R_own hR2; have HB2 := Aside0.mk (below_step HB.out hb); have hcv1 := str_of w2 A2 c2 bs hC2; have hcv2 := str_of w2 A c b (Kd.C_below HFIX.out.2.2.1 HB2.out); clear hE hb hR2 hc2 hC2))
            go_ret2
            exact ⟨Or.inr ⟨HNO.out, rfl⟩, HB2.out⟩
      · have HNO : Aside0 (Wr.dec b = none ∨ 13005 < b.length) := ⟨by
          cases hd : Wr.dec b with
          | none => exact Or.inl rfl
          | some L =>
            have hL := On.all HON.out hd
            obtain ⟨_, h2, h3⟩ := Wr.dec_some hby hd
            rw [hL] at h2 h3
            rw [List.length_map] at h2
            exact absurd ⟨h2, fun a ha => h3 _ (List.mem_map.2 ⟨a, ha, rfl⟩)⟩ hp⟩
        have HP := Aside0.mk hp
        have hcv := conv_nil
        clear hp
        go_wp2_with (first | (go_at_call 8; refine HE.out.mono ?_; rintro e w2 ⟨hE, hb⟩; have he := enc_arg hE HP.out; subst he; have HB2 := Aside0.mk (below_step HB.out hb); clear hE hb))
        go_ret2
        exact ⟨Or.inr ⟨HNO.out, rfl⟩, HB2.out⟩
end Go.Proofs.YtmajfcdfafhkfaaGreatDoor.H
namespace Go.Proofs.YtmajfcdfafhkfaaGreatDoor.H
open Go.RowKit Go.Proofs.YtmajfcdfafhkfaaGreatDoorW.PrintWords Go.Proofs.YtmajfcdfafhkfaaGreatDoorW.PrintLast Go.Proofs.YtmajfcdfafhkfaaGreatDoor.Leaf Go.Proofs.YtmajfcdfafhkfaaGreatDoor.P
set_option linter.unusedVariables false
set_option linter.unusedSimpArgs false
set_option maxHeartbeats 4000000
set_option maxRecDepth 100000
theorem R_none5 (w : World) (B : Nat) (ok : Nat → Prop) (hB : B ≤ w.heap.size) (hok : ok w.heap.size) : Kd.R (Kd.int .u8) 5 (w.alloc (.cells #[] 5)) B ok (.slice (some ⟨w.heap.size, 0, none⟩) 0 0) [] :=
  ⟨fun k hk => by cases hk; exact hok, OwnRow.lit w B (Reps.none _ _) hB (by decide)⟩
theorem decr_yes {W w' : World} {e : Ending} {b : List Int} (h : DecR W w' e b) (hp : Wr.dec b ≠ none ∧ b.length ≤ 13005) :
    ∃ v l, Wr.dec b = some (l.map toA) ∧ e = .returned (.tuple #[v, .int .i64 0]) ∧ Kd.R k62 62 w' W.heap.size (fun k => W.heap.size ≤ k) v l := by
  rcases h with ⟨v, l, h1, _, h3, h4⟩ | ⟨h | h, _⟩
  · exact ⟨v, l, h1, h3, h4⟩
  · exact absurd h hp.1
  · omega
theorem decr_no {W w' : World} {e : Ending} {b : List Int} (h : DecR W w' e b) (hp : ¬ (Wr.dec b ≠ none ∧ b.length ≤ 13005)) : e = .returned (.tuple #[.slice none 0 0, .int .i64 5]) := by
  rcases h with ⟨v, l, h1, h2, _⟩ | ⟨_, h⟩
  · exact absurd ⟨fun h => (by rw [h1] at h; cases h), h2⟩ hp
  · exact h
theorem dec_small {b : List Int} {l : List S62} (hb : Wr.Byte b) (h : Wr.dec b = some (l.map toA)) : l.length < 1000000000 := by
  have := (Wr.dec_some hb h).2.1
  rw [List.length_map] at this
  omega
theorem StoreDecodes_calls (W : World) (A : Option Addr) (n c : Nat) (b : List Int) (hC : Kd.C (Kd.int .u8) W A n b) (hn : n ≤ 9223372036854775807) (hc : n ≤ c) (hby : Wr.Byte b) :
    Calls Tryz.prog 4 #[.slice A n c] W fun e w' => e = .returned (.bool true) ∧ Below W.heap.size W w' := by
  have hnl : b.length = n := hC.1
  subst hnl
  have HC := Aside0.mk (And.intro hC (And.intro hc hby))
  clear hC
  by_cases hlong : 32768 < b.length
  · have hz : ((b.length : Nat) : Int) > 32768 := by omega
    have HA := Aside0.mk (awake_ W)
    go_enter Tryz.func4, Tryz.ntmps4
    go_wp2_with (first | (go_at_call 9; refine HA.out.mono ?_; rintro e w3 ⟨rfl, hb⟩; have HB3 := Aside0.mk hb; clear hb))
    go_ret
    exact ⟨rfl, HB3.out⟩
  · have hz : ¬ ((b.length : Nat) : Int) > 32768 := by omega
    have HL := Aside0.mk (show b.length < 1000000 by omega)
    by_cases hp : Wr.dec b ≠ none ∧ b.length ≤ 13005
    · have HP := Aside0.mk hp
      clear hp hby hlong
      go_enter Tryz.func4, Tryz.ntmps4
      go_wp2_with (first | ((with_reducible refine gate_builtin (b := .append) (xs := #[.tmp 12, .tmp 13]) rfl ?_); at_builtin; refine Kd.R_append_rows (Kd.int .u8) (Rr := fun (x : Int) cs => cs = [Value.int .u8 x]) (w0 := W) W.heap.size rfl (.tmp 12) (.tmp 13) 23 5 (.int .u8 0) 1 rfl Tryz.underlying23 P.info5 rfl (by decide) (by decide) (.slice (some ⟨W.heap.size, 0, none⟩) 0 0) [] b A b.length c (fun k => W.heap.size ≤ k) (fun _ => False) rfl rfl ?aO ?aR (fun _ _ h => h) (fun _ h => h.elim) ?aF ?aB ?aS ?aL ?_; (case aO => exact R_none5 W W.heap.size _ (Nat.le_refl _) (Nat.le_refl _)); (case aR => exact Kd.C_alloc HC.out.1 _); (case aF => exact fun k hk => Nat.le_trans (below_alloc (Below.refl _ _) _).size hk); (case aB => exact below_alloc (Below.refl _ _) _); (case aS => exact (below_alloc (Below.refl W.heap.size W) _).size); (case aL => have := HL.out; show (0 + b.length) * 1 ≤ _; omega); intro v1 w1 ho hb hgr hat; rw [List.nil_append] at ho; obtain ⟨A1, c1, rfl, _, hc1, hC1⟩ := R_own ho; have HB1 := Aside0.mk hb; have HDC := Aside0.mk (store_Decode w1 A1 c1 b hC1 hc1 (by have := HL.out; omega) HC.out.2.2); clear ho hb hgr hat hc1 hC1) | (go_at_call 10; refine HDC.out.mono ?_; rintro e w2 ⟨hD, hb⟩; obtain ⟨v2, l2, hd2, he, hR2⟩ := decr_yes hD HP.out; subst he; have HB2 := Aside0.mk (below_step HB1.out hb); have HR2 := Aside0.mk (And.intro hd2 hR2); have HRF := Aside0.mk (ref_Decode w2 A c b (Kd.C_below HC.out.1 HB2.out) HC.out.2.1 (by have := HL.out; omega) HC.out.2.2); obtain ⟨Ax, cx, rfl⟩ := Kd.R_slice hR2; clear hD hb hd2 hR2) | (go_at_call 12; refine HRF.out.mono ?_; rintro e w3 ⟨hD, hb⟩; obtain ⟨v3, l3, hd3, he, hR3⟩ := decr_yes (show DecR w2 w3 _ b from hD) HP.out; subst he; have hll : l3 = l2 := map_toA_inj (Option.some.inj (hd3.symm.trans HR2.out.1)); subst hll; have HB3 := Aside0.mk (below_step HB2.out hb); obtain ⟨Ay, cy, rfl⟩ := Kd.R_slice hR3; have hk2 := Kd.R_reads' (Kd.R_below HR2.out.2 hb); have hk3 := Kd.R_reads' hR3; have HSM := Aside0.mk (mooringref09_Same.calls (l3.length + 1) Ax cx l3 Ay cy l3 true w3 hk2.2.2 hk2.2.1 hk3.2.2 hk3.2.1 (same_self l3 (dec_small HC.out.2.2 HR2.out.1))); clear hD hb hd3 hR3 hk2 hk3) | (go_at_call 11; refine HSM.out.mono ?_; rintro e w4 ⟨rfl, ⟨nd, rfl⟩⟩; have HB4 := Aside0.mk (pw_below_drewN HB3.out nd); have HA := Aside0.mk (awake_ (w3.drewN nd))) | (go_at_call 9; refine HA.out.mono ?_; rintro e w5 ⟨rfl, hb⟩; have HB5 := Aside0.mk (below_step HB4.out hb); clear hb))
      go_ret
      exact ⟨rfl, HB5.out⟩
    · have HP := Aside0.mk hp
      clear hp hby hlong
      go_enter Tryz.func4, Tryz.ntmps4
      go_wp2_with (first | ((with_reducible refine gate_builtin (b := .append) (xs := #[.tmp 12, .tmp 13]) rfl ?_); at_builtin; refine Kd.R_append_rows (Kd.int .u8) (Rr := fun (x : Int) cs => cs = [Value.int .u8 x]) (w0 := W) W.heap.size rfl (.tmp 12) (.tmp 13) 23 5 (.int .u8 0) 1 rfl Tryz.underlying23 P.info5 rfl (by decide) (by decide) (.slice (some ⟨W.heap.size, 0, none⟩) 0 0) [] b A b.length c (fun k => W.heap.size ≤ k) (fun _ => False) rfl rfl ?aO ?aR (fun _ _ h => h) (fun _ h => h.elim) ?aF ?aB ?aS ?aL ?_; (case aO => exact R_none5 W W.heap.size _ (Nat.le_refl _) (Nat.le_refl _)); (case aR => exact Kd.C_alloc HC.out.1 _); (case aF => exact fun k hk => Nat.le_trans (below_alloc (Below.refl _ _) _).size hk); (case aB => exact below_alloc (Below.refl _ _) _); (case aS => exact (below_alloc (Below.refl W.heap.size W) _).size); (case aL => have := HL.out; show (0 + b.length) * 1 ≤ _; omega); intro v1 w1 ho hb hgr hat; rw [List.nil_append] at ho; obtain ⟨A1, c1, rfl, _, hc1, hC1⟩ := R_own ho; have HB1 := Aside0.mk hb; have HDC := Aside0.mk (store_Decode w1 A1 c1 b hC1 hc1 (by have := HL.out; omega) HC.out.2.2); clear ho hb hgr hat hc1 hC1) | (go_at_call 10; refine HDC.out.mono ?_; rintro e w2 ⟨hD, hb⟩; have he := decr_no hD HP.out; subst he; have HB2 := Aside0.mk (below_step HB1.out hb); have HRF := Aside0.mk (ref_Decode w2 A c b (Kd.C_below HC.out.1 HB2.out) HC.out.2.1 (by have := HL.out; omega) HC.out.2.2); clear hD hb) | (go_at_call 12; refine HRF.out.mono ?_; rintro e w3 ⟨hD, hb⟩; have he := decr_no (show DecR w2 w3 _ b from hD) HP.out; subst he; have HB3 := Aside0.mk (below_step HB2.out hb); have HSM := Aside0.mk (mooringref09_Same.calls 1 none 0 [] none 0 [] true w3 (Kd.C_nil _ _) (Nat.le_refl _) (Kd.C_nil _ _) (Nat.le_refl _) (same_self [] (by decide))); clear hD hb) | (go_at_call 11; refine HSM.out.mono ?_; rintro e w4 ⟨rfl, ⟨nd, rfl⟩⟩; have HB4 := Aside0.mk (pw_below_drewN HB3.out nd); have HA := Aside0.mk (awake_ (w3.drewN nd))) | (go_at_call 9; refine HA.out.mono ?_; rintro e w5 ⟨rfl, hb⟩; have HB5 := Aside0.mk (below_step HB4.out hb); clear hb))
      go_ret
      exact ⟨rfl, HB5.out⟩
end Go.Proofs.YtmajfcdfafhkfaaGreatDoor.H
namespace Go.Proofs.YtmajfcdfafhkfaaGreatDoor.H
open Go.RowKit Go.Deep Go.ChangeShapes Go.WideShapes Go.ChangeMaps Go.Proofs.YtmajfcdfafhkfaaGreatDoorW.PrintWords Go.Proofs.YtmajfcdfafhkfaaGreatDoorW.PrintLast Go.Proofs.YtmajfcdfafhkfaaGreatDoor.Leaf Go.Proofs.YtmajfcdfafhkfaaGreatDoor.P
set_option linter.unusedVariables false
set_option linter.unusedSimpArgs false
set_option maxHeartbeats 1000000
set_option maxRecDepth 100000
theorem bytes_wf {n : Int} (h : (Lit.int .u8 n).wf = true) : 0 ≤ n ∧ n < 256 := by
  have h2 : IntKind.u8.min ≤ n ∧ n ≤ IntKind.u8.max := by simpa [Lit.wf] using h
  have e1 : IntKind.u8.min = 0 := by decide
  have e2 : IntKind.u8.max = 255 := by decide
  omega
theorem row_of {w : World} {a : Addr} {len cap : Nat} {zs : List Int} (hl : len ≤ cap) (hm : cap ≤ maxLen) (hz : zs.length = cap) (hc : ∀ i, i < zs.length → w.cell? (a.add i) = some (.int .u8 (zs.getD i 0))) : Kd.C (Kd.int .u8) w (some a) (zs.take len).length (zs.take len) := by
  have hlen : (zs.take len).length = len := by rw [List.length_take]; omega
  refine ⟨rfl, by rw [hlen]; unfold maxLen at hm; omega, fun _ => ⟨_, rfl, fun j q hj => ?_⟩⟩
  refine ⟨[.int .u8 q], rfl, rfl, fun i u hu => ?_⟩
  have hi : i = 0 := by have := (List.getElem?_eq_some_iff.1 hu).1; simpa using this
  subst hi
  cases hu
  have hjl := (List.getElem?_eq_some_iff.1 hj).1
  rw [show j * (Kd.int .u8).sz + 0 = j by show j * 1 + 0 = j; omega, hc j (by omega)]
  rw [List.getElem?_take_of_lt (by omega)] at hj
  rw [List.getD_eq_getElem?_getD, hj]
  rfl
theorem bytes_arg0 {H : Type} {enc : TypeId × Value → H} {W : World} {a : Option Addr} {len cap : Nat} {d : DataW H} {ps : List MemPlace} (h : DataW.Trod enc Tryz.prog W 0 (fun _ => true) true 23 (.slice a len cap) d ps) :
    ∃ l : List Int, len = l.length ∧ len ≤ cap ∧ Kd.C (Kd.int .u8) W a len l ∧ len ≤ 9223372036854775807 ∧ Wr.Byte l := by
  obtain ⟨fuel, hf⟩ := h
  rcases open_ints Tryz.underlying23 Tryz.underlying5 (by kernel_rfl) hf with ⟨hcs, _⟩ | ⟨a', len', cap', zs, hcs, _, hlc, hm, hz, _, hcell, hwf⟩
  · simp [Value.cells] at hcs
    obtain ⟨rfl, rfl, rfl⟩ := hcs
    exact ⟨[], rfl, Nat.le_refl _, Kd.C_nil _ _, by decide, fun c hc => by cases hc⟩
  · simp [Value.cells] at hcs
    obtain ⟨rfl, rfl, rfl⟩ := hcs
    have hz' : zs.length = cap := by simpa using hz
    have hlen : (zs.take len).length = len := by rw [List.length_take]; omega
    have hC := row_of hlc hm hz' hcell
    rw [hlen] at hC
    exact ⟨zs.take len, hlen.symm, hlc, hC, by unfold maxLen at hm; omega, fun c hc => bytes_wf (hwf c (List.mem_of_mem_take hc))⟩
end Go.Proofs.YtmajfcdfafhkfaaGreatDoor.H
