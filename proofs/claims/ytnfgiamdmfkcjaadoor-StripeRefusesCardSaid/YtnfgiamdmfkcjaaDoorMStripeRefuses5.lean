/- Words and walks that the claim StripeRefuses leans on (what it does not use is left out). -/
import Derived.Test.YtnfgiamdmfkcjaaDoorMStripeRefuses3
import Derived.Test.YtnfgiamdmfkcjaaDoorMStripeRefuses4
import Derived.StillTailTactics
import Derived.Test.YtnfgiamdmfkcjaaDoorMStripeRefuses1
import Derived.Test.YtnfgiamdmfkcjaaDoorMStripeRefuses2
namespace Go.Proofs.YtnfgiamdmfkcjaaDoor.H
open Go.RowKit Go.Proofs.YtnfgiamdmfkcjaaDoorW.PrintWords Go.Proofs.YtnfgiamdmfkcjaaDoorW.PrintLast Go.Proofs.YtnfgiamdmfkcjaaDoor.Leaf Go.Proofs.YtnfgiamdmfkcjaaDoor.Gf Go.Proofs.YtnfgiamdmfkcjaaDoor.Red Go.Proofs.YtnfgiamdmfkcjaaDoor.P
set_option linter.unusedVariables false
set_option linter.unusedSimpArgs false
def splR (a b : Int) (L : List B) : List (List Int) × Int := if codeB a b = true then (if L.length > 4096 then ([], 3) else encR a b (spM a.toNat (lenS a.toNat L.length) L)) else ([], 1)
def stripe_Split.f (a0 : Int) (a1 : Int) (l2 : List Int) : Option (List (List Int) × Int) := if -9223372036854775808 ≤ a0 ∧ byteRow l2 = true then some (splR a0 a1 (l2.map toB)) else none
theorem stripe_Split.f_ofL (a b : Int) (ha : -9223372036854775808 ≤ a) (L : List B) : stripe_Split.f a b (ofL L) = some (splR a b L) := by
  unfold stripe_Split.f
  rw [if_pos ⟨ha, byteRow_ofL L⟩]
  congr 2
  unfold ofL
  rw [List.map_map]
  exact (List.map_congr_left fun x _ => toB_ofB x).trans (List.map_id' L)
theorem Mp.fresh {W : World} {base k : Nat} (hb : base ≤ W.heap.size) (hk : k ≤ 255) : Mp (W.alloc (.cells (madeCells #[.slice none 0 0] k) 22 (0, 0))) base W.heap.size k k (fun _ => 0) (fun _ => 0) [] := by
  have h := own_made_of (enc := fun v : Value => v) (d := .slice none 0 0) W base 22 k hb (by omega)
  refine ⟨⟨fun _ => .slice none 0 0, ?_⟩, fun i hi => absurd hi (Nat.not_lt_zero _), fun i j hi => absurd hi (Nat.not_lt_zero _), Nat.zero_le _⟩
  have e : encs (fun j => if j < ([] : List (List Int)).length then sl (fun _ => 0) (fun _ => 0) [] j else (.slice none 0 0 : Value)) (List.range k) = encs (fun v : Value => v) (List.replicate k (.slice none 0 0)) := by
    unfold encs
    refine List.ext_getElem (by simp) fun j h1 h2 => ?_
    simp
  rw [e]
  exact h
theorem Rw.fresh {W : World} {base n : Nat} (hb : base ≤ W.heap.size) (hn : n ≤ 9223372036854775807) : Rw (W.alloc (.cells (madeCells #[.int .u8 0] n) 5 (0, 0))) base W.heap.size n (ofL (List.replicate n 0#8)) := by
  have h := own_made_of (enc := Value.int .u8) (d := (0 : Int)) W base 5 n hb hn
  unfold Rw
  rw [ofL_length, List.length_replicate, ← ofL_replicate]
  exact h
theorem code_form {a b : Int} (h : codeB a b = true) : ∃ k m : Nat, a = (k : Int) ∧ b = (m : Int) ∧ 1 ≤ k ∧ 1 ≤ m ∧ k + m ≤ 255 := by
  rcases codeB_form a b with ⟨_, k, m, h1, h2, h3, h4, h5, _⟩ | ⟨h1, _⟩
  · exact ⟨k, m, h1, h2, h3, h4, h5⟩
  · rw [h1] at h; cases h
theorem lo_hi_run (b n c lo : Nat) (h : lo + 16 ≤ n) (hc : n ≤ c) (x y : Int) (hx : x = (lo : Int)) (hy : y = ((lo + 16 : Nat) : Int)) : ∀ W : World, (Instr.slice 22 (.slice (some ⟨b, 0, none⟩) n c) (some (.int .i64 x)) (some (.int .i64 y)) none).run Tryd.prog W = .ok (.slice (some ⟨b, lo, none⟩) 16 (c - lo)) W := by
  intro W
  subst hx hy
  obtain ⟨i0, hi, hz⟩ := Option.map_eq_some_iff.1 Go.Proofs.YtnfgiamdmfkcjaaDoor.P.info5
  simp only [Prod.mk.injEq] at hz
  have hel : Tryd.prog.elem 22 = 5 := by simp [Program.elem, Tryd.underlying22]
  have hu : Tryd.prog.underlying 22 = some (.slice (Tryd.prog.elem 22)) := by rw [hel]; exact Tryd.underlying22
  rw [run_slice_lh W 22 _ n c hu .i64 .i64 (lo : Int) ((lo + 16 : Nat) : Int) (by omega) (by omega) (by omega), hel]
  have hcd : c ≠ lo := by omega
  simp [sizeOf, typeInfo, hi, hz.2.1, sliced, Result.andThen, hcd, Addr.add]
  exact ⟨fun e => e.symm, by omega⟩
theorem from_run (ad : Addr) (n c at_ : Nat) (h : at_ < n) (hc : n ≤ c) (x : Int) (hx : x = (at_ : Int)) : ∀ W : World, (Instr.slice 22 (.slice (some ad) n c) (some (.int .i64 x)) none none).run Tryd.prog W = .ok (.slice (some (ad.add at_)) (n - at_) (c - at_)) W := by
  intro W
  subst hx
  obtain ⟨i0, hi, hz⟩ := Option.map_eq_some_iff.1 Go.Proofs.YtnfgiamdmfkcjaaDoor.P.info5
  simp only [Prod.mk.injEq] at hz
  have hel : Tryd.prog.elem 22 = 5 := by simp [Program.elem, Tryd.underlying22]
  have hu : Tryd.prog.underlying 22 = some (.slice (Tryd.prog.elem 22)) := by rw [hel]; exact Tryd.underlying22
  rw [run_slice_l W 22 _ n c hu .i64 (at_ : Int) (by omega) (by omega), hel]
  have hcd : c ≠ at_ := by omega
  simp [sizeOf, typeInfo, hi, hz.2.1, sliced, Result.andThen, hcd]
theorem src_cells {w W : World} {ad : Addr} {L : List B} (h : Kd.C (Kd.int .u8) w (some ad) (ofL L).length (ofL L)) (hb : Below w.heap.size w W) (at_ : Nat) : ∀ j v, (encs (Value.int .u8) (ofL ((L.drop at_).take 16)))[j]? = some v → W.cell? ((ad.add at_).add j) = some v := by
  intro j v hj
  unfold encs at hj
  rw [List.getElem?_map] at hj
  obtain ⟨x, hx, rfl⟩ := Option.map_eq_some_iff.1 hj
  have hjl := (List.getElem?_eq_some_iff.1 hx).1
  rw [ofL_length, List.length_take, List.length_drop] at hjl
  obtain ⟨ad', e, hc⟩ := Kd.at_int h ((at_ + j : Nat) : Int) (by omega) (by rw [ofL_length]; omega)
  cases e
  rw [Int.toNat_natCast] at hc
  have e2 : (ad.add at_).add j = ad.add (at_ + j) := by by_cases h1 : at_ = 0 <;> by_cases h2 : j = 0 <;> simp [Addr.add, h1, h2, Nat.add_assoc]
  rw [e2]
  have hc2 := pw_cell_below hb hc
  rw [hc2, rd_ofL]
  unfold ofL at hx
  rw [List.getElem?_map] at hx
  obtain ⟨y, hy, rfl⟩ := Option.map_eq_some_iff.1 hx
  rw [List.getElem?_take, List.getElem?_drop] at hy
  unfold at0
  rw [List.getD_eq_getElem?_getD]
  split at hy
  · rw [hy]; rfl
  · cases hy
theorem ofL_splice (L : List B) (off : Nat) (cs : List B) : ofL (Go.splice L off cs) = Go.splice (ofL L) off (ofL cs) := by
  unfold Go.splice ofL
  rw [List.map_append, List.map_append, List.map_take, List.map_drop, List.length_map]
def rowsTo (k n : Nat) (L : List B) (i : Nat) : List (List Int) := (List.range i).map fun j => ofL (spR k n L j (n / 16))
theorem rowsTo_length (k n : Nat) (L : List B) (i : Nat) : (rowsTo k n L i).length = i := by simp [rowsTo]
theorem rowsTo_next (k n : Nat) (L : List B) (i : Nat) : rowsTo k n L i ++ [ofL (spR k n L i (n / 16))] = rowsTo k n L (i + 1) := by unfold rowsTo; rw [List.range_succ, List.map_append]; rfl
theorem rowsTo_all (k n : Nat) (L : List B) : rowsTo k n L k = oM (spM k n L) := by unfold rowsTo oM spM; rw [List.map_map]; rfl
set_option maxHeartbeats 8000000 in
set_option maxRecDepth 100000 in
theorem stripe_Split.calls (a0 : Int) (a1 : Int) (A2 : Option Addr) (c2 : Nat) (l2 : List Int) (r1 : List (List Int)) (r2 : Int) (w : World) (hr2 : Kd.C (Kd.int .u8) w A2 l2.length l2) (hc2 : l2.length ≤ c2) (h : stripe_Split.f a0 a1 l2 = some (r1, r2)) :
    Calls Tryd.prog 30 #[.int .i64 a0, .int .i64 a1, .slice A2 l2.length c2] w fun e w' => ∃ v0_ : Value, e = .returned (.tuple #[v0_, .int .i64 r2]) ∧ Kd.N (Kd.slice 5 (Kd.int .u8)) 22 w' w.heap.size (fun k_ => (w.heap.size ≤ k_)) v0_ r1 ∧ Below w.heap.size w w' := by
  unfold stripe_Split.f at h
  by_cases hby : -9223372036854775808 ≤ a0 ∧ byteRow l2 = true
  · rw [if_pos hby] at h
    have hsp := Option.some.inj h
    obtain ⟨L, hL⟩ : ∃ L, L = l2.map toB := ⟨_, rfl⟩
    have hl2 : l2 = ofL L := by rw [hL]; exact (ofL_toB l2 hby.2).symm
    rw [← hL] at hsp
    clear hL h
    subst hl2
    have hlen : (ofL L).length = L.length := ofL_length L
    have his : Aside0 (∀ W, Calls Tryd.prog 32 #[.int .i64 a0, .int .i64 a1] W fun e w' => e = .returned (.bool (codeB a0 a1)) ∧ Drawn0 W w') := ⟨fun W => stripe_is.calls a0 a1 _ W (is_eq a0 a1)⟩
    unfold splR at hsp
    have ha0 := hby.1
    clear hby
    cases hcb : codeB a0 a1 with
    | false =>
      rw [hcb] at hsp his
      rw [if_neg (by decide)] at hsp
      obtain ⟨rfl, rfl⟩ := Prod.mk.inj hsp
      clear hsp hr2
      go_enter Tryd.func30, Tryd.ntmps30
      go_wp2_with fail
      refine (his.out _).mono ?_
      rintro e w' ⟨rfl, ⟨nq, rfl⟩⟩
      clear his
      go_wp2
      go_ret2
      exact ⟨_, rfl, Kd.N_nil _ _ _ _ _, pw_below_drewN (Below.refl _ _) nq⟩
    | true =>
      obtain ⟨k, m, rfl, rfl, hk, hm, hkm⟩ := code_form hcb
      rw [hcb, if_pos rfl] at hsp
      rw [hcb] at his
      rw [Int.toNat_natCast] at hsp
      have hLen : Aside0 (∀ W, Calls Tryd.prog 31 #[.int .i64 (k : Int), .int .i64 (L.length : Int)] W fun e w' => e = .returned (.tuple #[.int .i64 (lenR (k : Int) (L.length : Int)).1, .int .i64 (lenR (k : Int) (L.length : Int)).2]) ∧ Drawn0 W w') := ⟨fun W => by
        obtain ⟨f, hf⟩ := (evLength (k : Int) (L.length : Int)).rounds
        exact stripe_Length.calls f _ _ _ _ W hf⟩
      rw [hlen]
      rw [hlen] at hc2
      unfold lenR at hLen
      rw [if_pos (by omega)] at hLen
      by_cases hbig : L.length > 4096
      · rw [if_pos hbig] at hsp
        rw [if_pos (by omega)] at hLen
        obtain ⟨rfl, rfl⟩ := Prod.mk.inj hsp
        clear hsp hr2
        go_enter Tryd.func30, Tryd.ntmps30
        go_wp2_with fail
        refine (his.out _).mono ?_
        rintro e w' ⟨rfl, ⟨nq, rfl⟩⟩
        clear his
        go_wp2_with fail
        refine (hLen.out _).mono ?_
        rintro e w' ⟨rfl, ⟨nq2, rfl⟩⟩
        clear hLen
        go_wp2
        go_ret2
        exact ⟨_, rfl, Kd.N_nil _ _ _ _ _, pw_below_drewN (Below.refl _ _) (nq + nq2)⟩
      · rw [if_neg hbig] at hsp
        rw [if_neg (by omega), Int.toNat_natCast, Int.toNat_natCast] at hLen
        obtain ⟨n, hn⟩ : ∃ n, n = lenS k L.length := ⟨_, rfl⟩
        rw [← hn] at hsp hLen
        have hu : n = nS k L.length * 16 := hn
        have hnb : n ≤ 70000 := by have := nS_le k L.length (by omega); omega
        obtain ⟨u, hu2⟩ : ∃ u, u = n / 16 := ⟨_, rfl⟩
        have hnu : n = u * 16 := by omega
        have hub : u ≤ 4096 := by have := nS_le k L.length (by omega); omega
        have HU := Aside0.mk hu2
        have HSP := Aside0.mk hsp
        have HC := Aside0.mk hr2
        clear hn hu hu2 hsp hr2 hcb
        have hd1 : ((n : Int) / 16) = (u : Int) := by omega
        have hd2 : Int.tdiv (n : Int) 16 = (u : Int) := by rw [Int.tdiv_eq_ediv_of_nonneg (by omega)]; exact hd1
        have hmk1 := print_make_of (P := Tryd.prog) 26 22 (.slice none 0 0) 24 Tryd.underlying26 Go.Proofs.YtnfgiamdmfkcjaaDoor.P.info22 rfl (by decide) k (by omega)
        have hmk2 := print_make_of (P := Tryd.prog) 22 5 (.int .u8 0) 1 Tryd.underlying22 Go.Proofs.YtnfgiamdmfkcjaaDoor.P.info5 rfl (by decide) n (by omega)
        have hnn : (0 : Int) ≤ (n : Int) := by omega
        have HNU := Aside0.mk hnu
        clear hnu
        go_enter Tryd.func30, Tryd.ntmps30
        go_wp2_with fail
        refine (his.out _).mono ?_
        rintro e w' ⟨rfl, ⟨nq, rfl⟩⟩
        clear his
        go_wp2_with fail
        refine (hLen.out _).mono ?_
        rintro e w' ⟨rfl, ⟨nq2, rfl⟩⟩
        clear hLen
        have HM0 : Aside0 (Mp ((w.drewN (nq + nq2)).alloc (.cells (madeCells #[.slice none 0 0] k) 22 (0, 0))) w.heap.size w.heap.size k k (fun _ => 0) (fun _ => 0) []) := ⟨Mp.fresh (W := w.drewN (nq + nq2)) (Nat.le_refl _) (by omega)⟩
        have HB0 : Aside0 (Below w.heap.size w ((w.drewN (nq + nq2)).alloc (.cells (madeCells #[.slice none 0 0] k) 22 (0, 0)))) := ⟨below_alloc (pw_below_drewN (Below.refl _ _) _) _⟩
        go_wp2
        go_loopg [32] k (fun gg v32 w' => ∃ (i : Nat) (id cap : Nat → Nat), i + gg = k ∧ v32 = .int .i64 (i : Int) ∧ Aside0 (Mp w' w.heap.size w.heap.size k k id cap (rowsTo k n L i)) ∧ Aside0 (Below w.heap.size w w'))
        case atStart => exact ⟨0, _, _, Nat.zero_add _, rfl, HM0, HB0⟩
        case round =>
          clear HM0 HB0
          obtain ⟨i, id, cap, hig, rfl, HM, HB⟩ := hrel
          by_cases hi : i < k
          · have hi' : (i : Int) < (k : Int) := by omega
            have hi0 : (0 : Int) ≤ (i : Int) := by omega
            have hM2 := HM.out.below ((Below.refl wr.heap.size wr).alloc (Nat.le_refl _) (.cells (madeCells #[.int .u8 0] n) 5 (0, 0)))
            obtain ⟨⟨u0, hu0⟩, hf0⟩ := hM2.free i hi
            have hadd := hM2.add (by rw [rowsTo_length]; exact hi) (Rw.fresh (W := wr) (n := n) (below_size HB.out) (by omega)) (fun j hj => by have := (HM.out.rows j hj).lt; omega)
            rw [ofL_length, List.length_replicate, rowsTo_length, ← spR_zero k n L i] at hadd
            have HADD := Aside0.mk hadd
            have HB2 : Aside0 (Below w.heap.size w ((wr.alloc (.cells (madeCells #[.int .u8 0] n) 5 (0, 0))).setCell ⟨w.heap.size, i, none⟩ (.slice (some ⟨wr.heap.size, 0, none⟩) n n))) := ⟨(below_alloc HB.out _).setCell (Nat.le_refl _) _⟩
            clear hM2 hadd HM HB
            go_wp2
            clear hu0 hf0
            obtain ⟨id', hid'⟩ : ∃ id', id' = up id i wr.heap.size := ⟨_, rfl⟩
            obtain ⟨cap', hcap'⟩ : ∃ cap', cap' = up cap i n := ⟨_, rfl⟩
            rw [← hid', ← hcap'] at HADD
            clear hid' hcap'
            generalize (wr.alloc (.cells (madeCells #[.int .u8 0] n) 5 (0, 0))).setCell ⟨w.heap.size, i, none⟩ (.slice (some ⟨wr.heap.size, 0, none⟩) n n) = w5 at *
            go_loopg [42] u (fun gg v42 w' => ∃ (s : Nat), s + gg = u ∧ v42 = .int .i64 (s : Int) ∧ Aside0 (Mp w' w.heap.size w.heap.size k k id' cap' (rowsTo k n L i ++ [ofL (spR k n L i s)])) ∧ Aside0 (Below w.heap.size w w'))
            case atStart => exact ⟨0, Nat.zero_add _, rfl, HADD, HB2⟩
            case round =>
              clear HADD HB2
              obtain ⟨s, hsg, rfl, HM, HB⟩ := hrel
              by_cases hs : s < u
              · have hs' : (s : Int) < (u : Int) := by omega
                have hs0 : (0 : Int) ≤ (s : Int) := by omega
                obtain ⟨q, hq⟩ : ∃ q, q = s * k := ⟨_, rfl⟩
                have hqb : q ≤ 4096 * 255 := by rw [hq]; exact Nat.mul_le_mul (by omega) (by omega)
                have hq1 : IntKind.i64.wrap ((s : Int) * (k : Int)) = (q : Int) := by rw [show (s : Int) * (k : Int) = (q : Int) by rw [hq, Int.natCast_mul]]; exact IntWalk.i64_in _ (by omega)
                have HQ := Aside0.mk hq
                clear hq
                by_cases hat : (q + i) * 16 < L.length
                · have hat' : ((q : Int) + (i : Int)) * 16 < (L.length : Int) := by omega
                  obtain ⟨at_, hatq⟩ : ∃ at_, at_ = (q + i) * 16 := ⟨_, rfl⟩
                  have hx1 : ((q : Int) + (i : Int)) * 16 = (at_ : Int) := by omega
                  obtain ⟨ad, rfl, _⟩ := HC.out.2.2 (by rw [ofL_length]; omega)
                  have hrun2 := from_run ad L.length c2 at_ (by omega) hc2 (((q : Int) + (i : Int)) * 16) hx1
                  have hlast : (rowsTo k n L i ++ [ofL (spR k n L i s)]).getD i [] = ofL (spR k n L i s) := by
                    rw [List.getD_eq_getElem?_getD, List.getElem?_append_right (by rw [rowsTo_length]; omega), rowsTo_length, Nat.sub_self]
                    rfl
                  have hil : i < (rowsTo k n L i ++ [ofL (spR k n L i s)]).length := by rw [List.length_append, rowsTo_length]; simp
                  have hcell := (HM.out.at_ i hil).1
                  unfold sl at hcell
                  rw [hlast, ofL_length, spR_length] at hcell
                  have hrw := HM.out.rows i hil
                  rw [hlast] at hrw
                  have hcap := hrw.reads.2
                  rw [ofL_length, spR_length] at hcap
                  have hsn : (s + 1) * 16 ≤ n := by have := HNU.out; omega
                  have hrun1 := lo_hi_run (id' i) n (cap' i) (s * 16) (by omega) hcap ((s : Int) * 16) (((s : Int) + 1) * 16) (by omega) (by omega)
                  have HRW := Aside0.mk hrw
                  have HLA := Aside0.mk (show _ ∧ _ from ⟨hlast, hil⟩)
                  have HNX : Aside0 (Go.splice (spR k n L i s) (s * 16) ((L.drop at_).take 16) = spR k n L i (s + 1)) := ⟨by rw [hatq, HQ.out]; exact spR_next k n L i s hsn (by rw [← HQ.out]; exact hat)⟩
                  have HAT := Aside0.mk (show at_ < L.length from by omega)
                  have HSN := Aside0.mk (show _ ∧ _ from ⟨hsn, hcap⟩)
                  have hw1 : IntKind.i64.wrap ((s : Int) * 16) = (s : Int) * 16 := IntWalk.i64_in _ (by omega)
                  have hw2 : IntKind.i64.wrap ((s : Int) + 1) = (s : Int) + 1 := IntWalk.i64_in _ (by omega)
                  have hw3 : IntKind.i64.wrap (((s : Int) + 1) * 16) = ((s : Int) + 1) * 16 := IntWalk.i64_in _ (by omega)
                  clear hrw hlast hil hcap hsn hat hatq hx1
                  go_upto_region 16 with (fail)
                  go_still_tail 13, (by kernel_rfl)
                  change wpList _ _ _ _ _ wr.drew
                  clear hrun1 hrun2 hcell hw1 hw2 hw3
                  have HM6 : Aside0 (Mp wr.drew w.heap.size w.heap.size k k id' cap' (rowsTo k n L i ++ [ofL (spR k n L i s)])) := ⟨HM.out.below (below_drew (Below.refl _ _))⟩
                  have HRW6 : Aside0 (Rw wr.drew w.heap.size (id' i) (cap' i) (ofL (spR k n L i s))) := ⟨HRW.out⟩
                  have HB6 : Aside0 (Below w.heap.size w wr.drew) := ⟨below_drew HB.out⟩
                  clear HM HRW HB
                  generalize wr.drew = w6 at *
                  obtain ⟨cur, hcur, hcopy⟩ := HRW6.out.splice
                  obtain ⟨c1, c3⟩ := hcopy (s * 16) (ofL ((L.drop at_).take 16)) (by rw [ofL_length, ofL_length, List.length_take, spR_length]; have := HSN.out.1; omega)
                  rw [← ofL_splice, HNX.out] at c3
                  have HC3 := Aside0.mk c3
                  have HGS := Aside0.mk (HRW6.out.base_)
                  refine wpList_copy_own rfl (.tmp 64) (.tmp 67) 22 22 rfl 5 Tryd.underlying22 (by kernel_rfl) (id' i) (s * 16) 16 (cap' i - s * 16) (ad.add at_) (L.length - at_) (c2 - at_) rfl rfl cur 5 hcur (encs (Value.int .u8) (ofL ((L.drop at_).take 16))) (by rw [show (encs (Value.int .u8) (ofL ((L.drop at_).take 16))).length = ((L.drop at_).take 16).length by simp [encs, ofL], List.length_take, List.length_drop]; exact Nat.min_comm _ _) (src_cells HC.out HB6.out at_) (by simpa [encs] using c1) (fun v hv => by
                    unfold encs at hv
                    obtain ⟨x, _, rfl⟩ := List.mem_map.1 hv
                    rfl) ?_
                  have HM7 := Aside0.mk (HM6.out.copy HLA.out.2 (s := ofL (spR k n L i (s + 1))) (by rw [HLA.out.1, ofL_length, ofL_length, spR_length, spR_length]) HC3.out)
                  have HB7 := Aside0.mk (below_setRow HB6.out HGS.out (cur.toList.take (s * 16) ++ (encs (Value.int .u8) (ofL ((L.drop at_).take 16)) ++ cur.toList.drop (s * 16 + (ofL ((L.drop at_).take 16)).length))).toArray)
                  have hel : (encs (Value.int .u8) (ofL ((L.drop at_).take 16))).length = (ofL ((L.drop at_).take 16)).length := by simp [encs]
                  rw [hel]
                  clear hel hcur c1 c3 hcopy HC3 HM6 HB6 HRW6
                  generalize w6.setRow (id' i) (cur.toList.take (s * 16) ++ (encs (Value.int .u8) (ofL ((L.drop at_).take 16)) ++ cur.toList.drop (s * 16 + (ofL ((L.drop at_).take 16)).length))).toArray = w7 at *
                  go_wp2
                  go_roundg (u - (s + 1))
                  case measure => omega
                  case rel => exact ⟨s + 1, by omega, by go_num, ⟨by
                    have := HM7.out
                    rw [show (rowsTo k n L i ++ [ofL (spR k n L i s)]).set i (ofL (spR k n L i (s + 1))) = rowsTo k n L i ++ [ofL (spR k n L i (s + 1))] by
                      rw [List.set_append_right _ _ (by rw [rowsTo_length]; omega), rowsTo_length, Nat.sub_self]
                      rfl] at this
                    exact this⟩, HB7⟩
                · have HN : Aside0 (spR k n L i (s + 1) = spR k n L i s) := ⟨spR_skip k n L i s (by rw [← HQ.out]; omega)⟩
                  have hat' : ¬ (((q : Int) + (i : Int)) * 16 < (L.length : Int)) := by omega
                  clear hat
                  go_wp2
                  go_roundg (u - (s + 1))
                  case measure => omega
                  case rel => exact ⟨s + 1, by omega, by go_num, ⟨by rw [HN.out]; exact HM.out⟩, HB⟩
              · have hs' : ¬ (s : Int) < (u : Int) := by omega
                have hsu : s = n / 16 := by have := HU.out; omega
                have HM2 : Aside0 (Mp wr w.heap.size w.heap.size k k id' cap' (rowsTo k n L (i + 1))) := ⟨by have := HM.out; rw [hsu, rowsTo_next] at this; exact this⟩
                clear hsu HM hsg
                go_wp2
                go_roundg (k - (i + 1))
                case measure => omega
                case rel => exact ⟨i + 1, id', cap', by omega, by go_num, HM2, HB⟩
          · have hi' : ¬ (i : Int) < (k : Int) := by omega
            have hik : i = k := by omega
            have hM := HM.out
            rw [hik] at hM
            have hMt := hM.full (rowsTo_length k n L k)
            rw [rowsTo_all] at hMt
            have hC := (Kd.S_reads' hMt.to_S).2.2
            have hle := (Kd.S_reads' hMt.to_S).2.1
            have henc : Aside0 (Calls Tryd.prog 54 #[.int .i64 (k : Int), .int .i64 (m : Int), .slice (some ⟨w.heap.size, 0, none⟩) k k] wr fun e w' => ∃ v, e = .returned (.tuple #[v, .int .i64 r2]) ∧ Kd.N (Kd.slice 5 (Kd.int .u8)) 22 w' wr.heap.size (fun k_ => wr.heap.size ≤ k_) v r1 ∧ Below wr.heap.size wr w') := ⟨by
              obtain ⟨f, hf⟩ := (evEncode (k : Int) (m : Int) (by omega) (spM k n L) (fun i hi => by rw [(spM_reg k n L).1] at hi; rw [(spM_reg k n L).2 i hi]; omega)).rounds
              rw [HSP.out] at hf
              have := code_Encode.calls f (k : Int) (m : Int) _ k (oM (spM k n L)) r1 r2 wr hC hle hf
              rw [oM_length, (spM_reg k n L).1] at this
              exact this⟩
            clear hik hM hMt hC hle HM hig
            go_wp2_with fail
            refine henc.out.mono ?_
            rintro e w' ⟨v, rfl, hN, hb⟩
            have HN := Aside0.mk hN
            have HB2 := Aside0.mk (below_then HB.out (below_size HB.out) hb)
            have hsz := below_size HB.out
            have HSZ := Aside0.mk hsz
            clear hN hb hsz henc
            go_wp2
            go_ret2
            exact ⟨_, rfl, Kd.N_lower (Kd.N_mono HN.out (fun q hq => Nat.le_trans HSZ.out hq)) HSZ.out, HB2.out⟩
  · rw [if_neg hby] at h
    cases h
end Go.Proofs.YtnfgiamdmfkcjaaDoor.H
namespace Go.Proofs.YtnfgiamdmfkcjaaDoor.P
open Go.Proofs.YtnfgiamdmfkcjaaDoor.H
open Go.Proofs.YtnfgiamdmfkcjaaDoor.Leaf
open Go.RowKit Go.Proofs.YtnfgiamdmfkcjaaDoorW.PrintWords Go.Proofs.YtnfgiamdmfkcjaaDoorW.PrintLast Go.Proofs.YtnfgiamdmfkcjaaDoorW.PrintMore
attribute [local go_sem] max2_int min2_int max_two min_two max_three min_three max_four min_four   -- for this text's walks alone
set_option linter.unusedVariables false
set_option linter.unusedSimpArgs false
def mooringlaw20_awake.f (k : Nat)  : Option (Bool) := if 20 ≤ 281474976710656 then ((stripe_Split.f 2 1 (List.replicate 20 0)).bind fun bt104 => ((stripe_Length.f k 2 33).bind fun bt108 => (if bt104.2 = 0 then (if (bt104.1.length : Int) = 3 then (if 0 < (bt104.1.length : Int) then (if ((rd_L1 bt104.1 0).length : Int) = 16 then (if bt108.2 = 0 then (some (bt108.1 == 32)) else (some false)) else (some false)) else (none)) else (some false)) else (some false)))) else (none)
theorem mooringlaw20_awake.mono : ∀ k, LeO (mooringlaw20_awake.f k ) (mooringlaw20_awake.f (k + 1) ) := by
 intro  k
 unfold mooringlaw20_awake.f
 repeat' first
   | (with_reducible exact stripe_Length.mono _ _ _)
   | (with_reducible exact LeO.refl _)
   | (with_reducible exact LeO.none _)
   | (with_reducible refine LeO.ite ?_ ?_)
   | (with_reducible refine LeO.bind ?_ (fun _ => ?_))
   | exact stripe_Length.mono _ _ _
   | exact LeO.none _
   | refine LeO.ite ?_ ?_
   | refine LeO.bind ?_ (fun _ => ?_)
set_option maxHeartbeats 8000000 in
set_option maxRecDepth 100000 in
theorem mooringlaw20_awake.calls (k : Nat)  (r : Bool) (w : World) (h : mooringlaw20_awake.f k  = some r) :
  Calls Tryd.prog 11 #[] w fun e w' => e = .returned (.bool r) ∧ Below w.heap.size w w' := by
 have HB := Aside0.mk (Below.refl w.heap.size w)
 have H : (if 20 ≤ 281474976710656 then ((stripe_Split.f 2 1 (List.replicate 20 0)).bind fun bt104 => ((stripe_Length.f k 2 33).bind fun bt108 => (if bt104.2 = 0 then (if (bt104.1.length : Int) = 3 then (if 0 < (bt104.1.length : Int) then (if ((rd_L1 bt104.1 0).length : Int) = 16 then (if bt108.2 = 0 then (some (bt108.1 == 32)) else (some false)) else (some false)) else (none)) else (some false)) else (some false)))) else (none)) = some r := h
 clear h
 by_cases c1 : 20 ≤ 281474976710656
 ·rw [if_pos c1] at H
  have c1b0 := eq_true c1
  have c1b1 : decide (20 ≤ 281474976710656) = true := decide_eq_true c1
  clear c1
  obtain ⟨y101, hy101⟩ : ∃ y_ : List Int, y_ = (List.replicate 20 0) := ⟨_, rfl⟩
  replace H : ((stripe_Split.f 2 1 y101).bind fun bt104 => ((stripe_Length.f k 2 33).bind fun bt108 => (if bt104.2 = 0 then (if (bt104.1.length : Int) = 3 then (if 0 < (bt104.1.length : Int) then (if ((rd_L1 bt104.1 0).length : Int) = 16 then (if bt108.2 = 0 then (some (bt108.1 == 32)) else (some false)) else (some false)) else (none)) else (some false)) else (some false)))) = some r := by first | (rw [hy101]; with_reducible exact H) | (have H2_ := (Option.bind_some _ _).symm.trans H; rw [hy101]; with_reducible exact H2_) | (have H2_ := (Option.bind_some _ _).symm.trans H; with_reducible exact H2_) | with_reducible exact H | (rw [hy101]; exact H) | exact H
  have Ny101 := Aside0.mk hy101
  clear hy101
  replace H := Option.bind_eq_some_iff.mp H
  obtain ⟨⟨t104, t107⟩, A20, H⟩ := H
  replace H : ((stripe_Length.f k 2 33).bind fun bt108 => (if t107 = 0 then (if (t104.length : Int) = 3 then (if 0 < (t104.length : Int) then (if ((rd_L1 t104 0).length : Int) = 16 then (if bt108.2 = 0 then (some (bt108.1 == 32)) else (some false)) else (some false)) else (none)) else (some false)) else (some false))) = some r := H
  have A2 := Aside0.mk A20
  clear A20
  replace H := Option.bind_eq_some_iff.mp H
  obtain ⟨⟨t108, t109⟩, A30, H⟩ := H
  replace H : (if t107 = 0 then (if (t104.length : Int) = 3 then (if 0 < (t104.length : Int) then (if ((rd_L1 t104 0).length : Int) = 16 then (if t109 = 0 then (some (t108 == 32)) else (some false)) else (some false)) else (none)) else (some false)) else (some false)) = some r := H
  have A3 := Aside0.mk A30
  clear A30
  by_cases c4 : t107 = 0
  ·rw [if_pos c4] at H
   have c4b0 : (t107 == 0) = true := beq_iff_eq.mpr c4
   have c4b1 : (t107 != 0) = false := bne_eq_false_iff_eq.mpr c4
   clear c4
   by_cases c5 : (t104.length : Int) = 3
   ·rw [if_pos c5] at H
    have c5b0 : ((t104.length : Int) == 3) = true := beq_iff_eq.mpr c5
    have c5b1 : ((t104.length : Int) != 3) = false := bne_eq_false_iff_eq.mpr c5
    clear c5
    by_cases c6 : 0 < (t104.length : Int)
    ·rw [if_pos c6] at H
     have c6b0 : decide (0 < (t104.length : Int)) = true := decide_eq_true c6
     have c6b1 : decide (0 < t104.length) = true := decide_eq_true (by omega)
     clear c6
     by_cases c7 : ((rd_L1 t104 0).length : Int) = 16
     ·rw [if_pos c7] at H
      have c7b0 : (((rd_L1 t104 0).length : Int) == 16) = true := beq_iff_eq.mpr c7
      have c7b1 : (((rd_L1 t104 0).length : Int) != 16) = false := bne_eq_false_iff_eq.mpr c7
      clear c7
      by_cases c8 : t109 = 0
      ·rw [if_pos c8] at H
       have c8b0 : (t109 == 0) = true := beq_iff_eq.mpr c8
       have c8b1 : (t109 != 0) = false := bne_eq_false_iff_eq.mpr c8
       clear c8
       obtain rfl := Option.some.inj H
       go_enter Tryd.func11, Tryd.ntmps11
       go_wp2_with (first | ((with_reducible refine gate_dst (N := 6) rfl ?_); (try (refine gate_guard (by rfl) ?_; dsimp only)); refine Kd.R_make (Kd.int .u8) _ 5 rfl (N := 6) rfl 22 _ _ rfl 20 rfl rfl Tryd.underlying22 (.int .u8 0) 1 info5 rfl (by decide) (by omega) 0 (ok := fun _ => True) (okp := fun _ => True) rfl (fun _ hk => hk) trivial (by omega) (by omega) (Below.refl _ _) (Nat.le_refl _) ?_; intro v102 w9 ho10 hb hg_ hnew_; clear hg_ hnew_; (first | rw [← Ny101.out] at ho10 | (simp only [Int.reduceToNat] at ho10; rw [← Ny101.out] at ho10)); have n0_ := Aside0.mk (Kd.R_lower ho10 (below_size (by repeat (first | (with_reducible first | exact HB.out | apply below_alloc | apply pw_below_drewN | apply below_drew1) | exact HB.out)))); have n1_ := Aside0.mk (below_step (by repeat (first | (with_reducible first | exact HB.out | apply below_alloc | apply pw_below_drewN | apply below_drew1) | exact HB.out)) hb); clear HB; have HO103 := n0_; have HB := n1_; clear n0_ n1_; clear hb ho10; obtain ⟨Ao11, co11, eo11⟩ := Kd.R_slice HO103.out; subst eo11) | ((with_reducible refine gate_callee (f := 30) rfl ?_); refine goesL_ (some 7) rfl rfl Tryd.func30 (by kernel_rfl) rfl #[.int .i64 2, .int .i64 1, .slice Ao11 y101.length co11] rfl (by (try simp only [List.map_toArray, List.map_cons, List.map_nil]); first | done | rfl | (simp only [List.length_drop, List.length_take]; rfl)) ?_; (with_reducible refine (stripe_Split.calls 2 1 _ _ y101 t104 t107 _ ?side1 ?side2 A2.out).mono ?_); (case side1 => repeat (first | exact (Kd.R_reads' HO103.out).2.2 | (with_reducible refine Kd.C_alloc ?_ _) | (with_reducible refine Kd.C_drewN ?_ _) | (with_reducible refine Kd.C_drew ?_))); (case side2 => exact (Kd.R_reads' HO103.out).2.1); rintro e w12 ⟨v105, rfl, ho0, hb⟩; refine ⟨_, rfl, ?_⟩; have n0_ := Aside0.mk (Kd.R_below (by (with_reducible repeat (first | apply Kd.R_alloc | apply Kd.R_drewN | apply Kd.R_drew)); exact HO103.out) hb); have n1_ := Aside0.mk (Kd.N_lower (Kd.N_mono (ok' := fun k_ => some k_ ≠ (.slice Ao11 y101.length co11 : Value).ownBlock) ho0 (fun k_ hk_ => (Kd.fresh' (Kd.R_lt (by (with_reducible repeat (first | apply Kd.R_alloc | apply Kd.R_drewN | apply Kd.R_drew)); exact HO103.out)) k_ hk_))) (below_size (by repeat (first | (with_reducible first | exact HB.out | apply below_alloc | apply pw_below_drewN | apply below_drew1) | exact HB.out)))); have n2_ := Aside0.mk (below_step (by repeat (first | (with_reducible first | exact HB.out | apply below_alloc | apply pw_below_drewN | apply below_drew1) | exact HB.out)) hb); clear HO103; clear HB; have HO103 := n0_; have HO106 := n1_; have HB := n2_; clear n0_ n1_ n2_; (try clear hb); (try clear hb2); (try clear hk); (try clear hi); (try clear ho0)) | ((with_reducible refine gate_callee (f := 31) rfl ?_); refine goesL_ (some 11) rfl rfl Tryd.func31 (by kernel_rfl) rfl #[.int .i64 2, .int .i64 33] rfl (by (try simp only [List.map_toArray, List.map_cons, List.map_nil]); first | done | rfl | (simp only [List.length_drop, List.length_take]; rfl)) ?_; (with_reducible refine (stripe_Length.calls k 2 33 t108 t109 _ A3.out).mono ?_); rintro e w' ⟨rfl, ⟨nd, rfl⟩⟩; refine ⟨_, rfl, ?_⟩; obtain ⟨Ao13, co13, eo13⟩ := Kd.N_slice HO106.out; subst eo13; have p110 : 0 ≤ (0 : Int) := (by omega); have q110 : 0 < (t104.length : Int) := of_decide_eq_true (by first | (with_reducible assumption) | assumption); obtain ⟨ad110, A110_0, c110_0, e110, hx110_0, hl110_0, hi110_0⟩ := at_L1 (Kd.N_reads' HO106.out).2.2 0 p110 q110; cases e110; obtain ⟨ce110, hce110, hMe110, hcc110⟩ := Kd.N_get HO106.out [] 0 p110 (by first | exact q110 | exact of_decide_eq_true (by first | (with_reducible assumption) | assumption) | (have e_ := (Kd.N_reads' HO106.out).1; omega)); obtain ⟨ua110_0, uc110_0, rfl, ul110_0, ge110_0⟩ := Kd.FK_slice_open hMe110; have hv110_0 := hcc110 0 _ rfl; rw [Nat.add_zero, show ((Kd.slice 5 (Kd.int .u8))).sz = 1 from rfl, Nat.mul_one] at hv110_0; replace hv110_0 := Option.some.inj (hv110_0.symm.trans hx110_0); injection hv110_0 with hva_ hvn_ hvc_; rw [hva_] at ge110_0; rw [hvc_] at ul110_0; have HL110_0 := Aside0.mk (show Kd.V (Kd.int .u8) 5 _ w.heap.size _ _ (rd_L1 t104 0) from Kd.V_mk ul110_0 ge110_0); clear hva_ hvn_ hvc_ ge110_0 ul110_0; clear hcc110 hce110; have qi110 : (0 < t104.length) = True := eq_true (by omega); (try rw [show ((0 : Int)).toNat = 0 from rfl] at hx110_0); (try rw [Addr.add_zero'] at hx110_0); have HR110_0 := Aside0.mk hi110_0; have HC110_0 := Aside0.mk hl110_0; clear hi110_0 hl110_0; replace p110 := eq_true p110; replace q110 := eq_true q110))
       go_ret
       exact ⟨by first | rfl | (simp [errW_none, errW_some] <;> rfl) | (simp [*, errW_none, errW_some] <;> rfl), by repeat (first | (with_reducible first | exact HB.out | apply below_alloc | apply pw_below_drewN | apply below_drew1) | exact HB.out)⟩
      ·rw [if_neg c8] at H
       have c8b0 : (t109 == 0) = false := beq_eq_false_iff_ne.mpr c8
       have c8b1 : (t109 != 0) = true := bne_iff_ne.mpr c8
       obtain rfl := Option.some.inj H
       go_enter Tryd.func11, Tryd.ntmps11
       go_wp2_with (first | ((with_reducible refine gate_dst (N := 6) rfl ?_); (try (refine gate_guard (by rfl) ?_; dsimp only)); refine Kd.R_make (Kd.int .u8) _ 5 rfl (N := 6) rfl 22 _ _ rfl 20 rfl rfl Tryd.underlying22 (.int .u8 0) 1 info5 rfl (by decide) (by omega) 0 (ok := fun _ => True) (okp := fun _ => True) rfl (fun _ hk => hk) trivial (by omega) (by omega) (Below.refl _ _) (Nat.le_refl _) ?_; intro v102 w14 ho15 hb hg_ hnew_; clear hg_ hnew_; (first | rw [← Ny101.out] at ho15 | (simp only [Int.reduceToNat] at ho15; rw [← Ny101.out] at ho15)); have n0_ := Aside0.mk (Kd.R_lower ho15 (below_size (by repeat (first | (with_reducible first | exact HB.out | apply below_alloc | apply pw_below_drewN | apply below_drew1) | exact HB.out)))); have n1_ := Aside0.mk (below_step (by repeat (first | (with_reducible first | exact HB.out | apply below_alloc | apply pw_below_drewN | apply below_drew1) | exact HB.out)) hb); clear HB; have HO103 := n0_; have HB := n1_; clear n0_ n1_; clear hb ho15; obtain ⟨Ao16, co16, eo16⟩ := Kd.R_slice HO103.out; subst eo16) | ((with_reducible refine gate_callee (f := 30) rfl ?_); refine goesL_ (some 7) rfl rfl Tryd.func30 (by kernel_rfl) rfl #[.int .i64 2, .int .i64 1, .slice Ao16 y101.length co16] rfl (by (try simp only [List.map_toArray, List.map_cons, List.map_nil]); first | done | rfl | (simp only [List.length_drop, List.length_take]; rfl)) ?_; (with_reducible refine (stripe_Split.calls 2 1 _ _ y101 t104 t107 _ ?side1 ?side2 A2.out).mono ?_); (case side1 => repeat (first | exact (Kd.R_reads' HO103.out).2.2 | (with_reducible refine Kd.C_alloc ?_ _) | (with_reducible refine Kd.C_drewN ?_ _) | (with_reducible refine Kd.C_drew ?_))); (case side2 => exact (Kd.R_reads' HO103.out).2.1); rintro e w17 ⟨v105, rfl, ho0, hb⟩; refine ⟨_, rfl, ?_⟩; have n0_ := Aside0.mk (Kd.R_below (by (with_reducible repeat (first | apply Kd.R_alloc | apply Kd.R_drewN | apply Kd.R_drew)); exact HO103.out) hb); have n1_ := Aside0.mk (Kd.N_lower (Kd.N_mono (ok' := fun k_ => some k_ ≠ (.slice Ao16 y101.length co16 : Value).ownBlock) ho0 (fun k_ hk_ => (Kd.fresh' (Kd.R_lt (by (with_reducible repeat (first | apply Kd.R_alloc | apply Kd.R_drewN | apply Kd.R_drew)); exact HO103.out)) k_ hk_))) (below_size (by repeat (first | (with_reducible first | exact HB.out | apply below_alloc | apply pw_below_drewN | apply below_drew1) | exact HB.out)))); have n2_ := Aside0.mk (below_step (by repeat (first | (with_reducible first | exact HB.out | apply below_alloc | apply pw_below_drewN | apply below_drew1) | exact HB.out)) hb); clear HO103; clear HB; have HO103 := n0_; have HO106 := n1_; have HB := n2_; clear n0_ n1_ n2_; (try clear hb); (try clear hb2); (try clear hk); (try clear hi); (try clear ho0)) | ((with_reducible refine gate_callee (f := 31) rfl ?_); refine goesL_ (some 11) rfl rfl Tryd.func31 (by kernel_rfl) rfl #[.int .i64 2, .int .i64 33] rfl (by (try simp only [List.map_toArray, List.map_cons, List.map_nil]); first | done | rfl | (simp only [List.length_drop, List.length_take]; rfl)) ?_; (with_reducible refine (stripe_Length.calls k 2 33 t108 t109 _ A3.out).mono ?_); rintro e w' ⟨rfl, ⟨nd, rfl⟩⟩; refine ⟨_, rfl, ?_⟩; obtain ⟨Ao18, co18, eo18⟩ := Kd.N_slice HO106.out; subst eo18; have p110 : 0 ≤ (0 : Int) := (by omega); have q110 : 0 < (t104.length : Int) := of_decide_eq_true (by first | (with_reducible assumption) | assumption); obtain ⟨ad110, A110_0, c110_0, e110, hx110_0, hl110_0, hi110_0⟩ := at_L1 (Kd.N_reads' HO106.out).2.2 0 p110 q110; cases e110; obtain ⟨ce110, hce110, hMe110, hcc110⟩ := Kd.N_get HO106.out [] 0 p110 (by first | exact q110 | exact of_decide_eq_true (by first | (with_reducible assumption) | assumption) | (have e_ := (Kd.N_reads' HO106.out).1; omega)); obtain ⟨ua110_0, uc110_0, rfl, ul110_0, ge110_0⟩ := Kd.FK_slice_open hMe110; have hv110_0 := hcc110 0 _ rfl; rw [Nat.add_zero, show ((Kd.slice 5 (Kd.int .u8))).sz = 1 from rfl, Nat.mul_one] at hv110_0; replace hv110_0 := Option.some.inj (hv110_0.symm.trans hx110_0); injection hv110_0 with hva_ hvn_ hvc_; rw [hva_] at ge110_0; rw [hvc_] at ul110_0; have HL110_0 := Aside0.mk (show Kd.V (Kd.int .u8) 5 _ w.heap.size _ _ (rd_L1 t104 0) from Kd.V_mk ul110_0 ge110_0); clear hva_ hvn_ hvc_ ge110_0 ul110_0; clear hcc110 hce110; have qi110 : (0 < t104.length) = True := eq_true (by omega); (try rw [show ((0 : Int)).toNat = 0 from rfl] at hx110_0); (try rw [Addr.add_zero'] at hx110_0); have HR110_0 := Aside0.mk hi110_0; have HC110_0 := Aside0.mk hl110_0; clear hi110_0 hl110_0; replace p110 := eq_true p110; replace q110 := eq_true q110))
       go_ret
       exact ⟨by first | rfl | (simp [errW_none, errW_some] <;> rfl) | (simp [*, errW_none, errW_some] <;> rfl), by repeat (first | (with_reducible first | exact HB.out | apply below_alloc | apply pw_below_drewN | apply below_drew1) | exact HB.out)⟩
     ·rw [if_neg c7] at H
      have c7b0 : (((rd_L1 t104 0).length : Int) == 16) = false := beq_eq_false_iff_ne.mpr c7
      have c7b1 : (((rd_L1 t104 0).length : Int) != 16) = true := bne_iff_ne.mpr c7
      obtain rfl := Option.some.inj H
      go_enter Tryd.func11, Tryd.ntmps11
      go_wp2_with (first | ((with_reducible refine gate_dst (N := 6) rfl ?_); (try (refine gate_guard (by rfl) ?_; dsimp only)); refine Kd.R_make (Kd.int .u8) _ 5 rfl (N := 6) rfl 22 _ _ rfl 20 rfl rfl Tryd.underlying22 (.int .u8 0) 1 info5 rfl (by decide) (by omega) 0 (ok := fun _ => True) (okp := fun _ => True) rfl (fun _ hk => hk) trivial (by omega) (by omega) (Below.refl _ _) (Nat.le_refl _) ?_; intro v102 w19 ho20 hb hg_ hnew_; clear hg_ hnew_; (first | rw [← Ny101.out] at ho20 | (simp only [Int.reduceToNat] at ho20; rw [← Ny101.out] at ho20)); have n0_ := Aside0.mk (Kd.R_lower ho20 (below_size (by repeat (first | (with_reducible first | exact HB.out | apply below_alloc | apply pw_below_drewN | apply below_drew1) | exact HB.out)))); have n1_ := Aside0.mk (below_step (by repeat (first | (with_reducible first | exact HB.out | apply below_alloc | apply pw_below_drewN | apply below_drew1) | exact HB.out)) hb); clear HB; have HO103 := n0_; have HB := n1_; clear n0_ n1_; clear hb ho20; obtain ⟨Ao21, co21, eo21⟩ := Kd.R_slice HO103.out; subst eo21) | ((with_reducible refine gate_callee (f := 30) rfl ?_); refine goesL_ (some 7) rfl rfl Tryd.func30 (by kernel_rfl) rfl #[.int .i64 2, .int .i64 1, .slice Ao21 y101.length co21] rfl (by (try simp only [List.map_toArray, List.map_cons, List.map_nil]); first | done | rfl | (simp only [List.length_drop, List.length_take]; rfl)) ?_; (with_reducible refine (stripe_Split.calls 2 1 _ _ y101 t104 t107 _ ?side1 ?side2 A2.out).mono ?_); (case side1 => repeat (first | exact (Kd.R_reads' HO103.out).2.2 | (with_reducible refine Kd.C_alloc ?_ _) | (with_reducible refine Kd.C_drewN ?_ _) | (with_reducible refine Kd.C_drew ?_))); (case side2 => exact (Kd.R_reads' HO103.out).2.1); rintro e w22 ⟨v105, rfl, ho0, hb⟩; refine ⟨_, rfl, ?_⟩; have n0_ := Aside0.mk (Kd.R_below (by (with_reducible repeat (first | apply Kd.R_alloc | apply Kd.R_drewN | apply Kd.R_drew)); exact HO103.out) hb); have n1_ := Aside0.mk (Kd.N_lower (Kd.N_mono (ok' := fun k_ => some k_ ≠ (.slice Ao21 y101.length co21 : Value).ownBlock) ho0 (fun k_ hk_ => (Kd.fresh' (Kd.R_lt (by (with_reducible repeat (first | apply Kd.R_alloc | apply Kd.R_drewN | apply Kd.R_drew)); exact HO103.out)) k_ hk_))) (below_size (by repeat (first | (with_reducible first | exact HB.out | apply below_alloc | apply pw_below_drewN | apply below_drew1) | exact HB.out)))); have n2_ := Aside0.mk (below_step (by repeat (first | (with_reducible first | exact HB.out | apply below_alloc | apply pw_below_drewN | apply below_drew1) | exact HB.out)) hb); clear HO103; clear HB; have HO103 := n0_; have HO106 := n1_; have HB := n2_; clear n0_ n1_ n2_; (try clear hb); (try clear hb2); (try clear hk); (try clear hi); (try clear ho0)) | ((with_reducible refine gate_callee (f := 31) rfl ?_); refine goesL_ (some 11) rfl rfl Tryd.func31 (by kernel_rfl) rfl #[.int .i64 2, .int .i64 33] rfl (by (try simp only [List.map_toArray, List.map_cons, List.map_nil]); first | done | rfl | (simp only [List.length_drop, List.length_take]; rfl)) ?_; (with_reducible refine (stripe_Length.calls k 2 33 t108 t109 _ A3.out).mono ?_); rintro e w' ⟨rfl, ⟨nd, rfl⟩⟩; refine ⟨_, rfl, ?_⟩; obtain ⟨Ao23, co23, eo23⟩ := Kd.N_slice HO106.out; subst eo23; have p110 : 0 ≤ (0 : Int) := (by omega); have q110 : 0 < (t104.length : Int) := of_decide_eq_true (by first | (with_reducible assumption) | assumption); obtain ⟨ad110, A110_0, c110_0, e110, hx110_0, hl110_0, hi110_0⟩ := at_L1 (Kd.N_reads' HO106.out).2.2 0 p110 q110; cases e110; obtain ⟨ce110, hce110, hMe110, hcc110⟩ := Kd.N_get HO106.out [] 0 p110 (by first | exact q110 | exact of_decide_eq_true (by first | (with_reducible assumption) | assumption) | (have e_ := (Kd.N_reads' HO106.out).1; omega)); obtain ⟨ua110_0, uc110_0, rfl, ul110_0, ge110_0⟩ := Kd.FK_slice_open hMe110; have hv110_0 := hcc110 0 _ rfl; rw [Nat.add_zero, show ((Kd.slice 5 (Kd.int .u8))).sz = 1 from rfl, Nat.mul_one] at hv110_0; replace hv110_0 := Option.some.inj (hv110_0.symm.trans hx110_0); injection hv110_0 with hva_ hvn_ hvc_; rw [hva_] at ge110_0; rw [hvc_] at ul110_0; have HL110_0 := Aside0.mk (show Kd.V (Kd.int .u8) 5 _ w.heap.size _ _ (rd_L1 t104 0) from Kd.V_mk ul110_0 ge110_0); clear hva_ hvn_ hvc_ ge110_0 ul110_0; clear hcc110 hce110; have qi110 : (0 < t104.length) = True := eq_true (by omega); (try rw [show ((0 : Int)).toNat = 0 from rfl] at hx110_0); (try rw [Addr.add_zero'] at hx110_0); have HR110_0 := Aside0.mk hi110_0; have HC110_0 := Aside0.mk hl110_0; clear hi110_0 hl110_0; replace p110 := eq_true p110; replace q110 := eq_true q110))
      go_ret
      exact ⟨by first | rfl | (simp [errW_none, errW_some] <;> rfl) | (simp [*, errW_none, errW_some] <;> rfl), by repeat (first | (with_reducible first | exact HB.out | apply below_alloc | apply pw_below_drewN | apply below_drew1) | exact HB.out)⟩
    ·rw [if_neg c6] at H
     exact absurd H (by simp)
   ·rw [if_neg c5] at H
    have c5b0 : ((t104.length : Int) == 3) = false := beq_eq_false_iff_ne.mpr c5
    have c5b1 : ((t104.length : Int) != 3) = true := bne_iff_ne.mpr c5
    obtain rfl := Option.some.inj H
    go_enter Tryd.func11, Tryd.ntmps11
    go_wp2_with (first | ((with_reducible refine gate_dst (N := 6) rfl ?_); (try (refine gate_guard (by rfl) ?_; dsimp only)); refine Kd.R_make (Kd.int .u8) _ 5 rfl (N := 6) rfl 22 _ _ rfl 20 rfl rfl Tryd.underlying22 (.int .u8 0) 1 info5 rfl (by decide) (by omega) 0 (ok := fun _ => True) (okp := fun _ => True) rfl (fun _ hk => hk) trivial (by omega) (by omega) (Below.refl _ _) (Nat.le_refl _) ?_; intro v102 w24 ho25 hb hg_ hnew_; clear hg_ hnew_; (first | rw [← Ny101.out] at ho25 | (simp only [Int.reduceToNat] at ho25; rw [← Ny101.out] at ho25)); have n0_ := Aside0.mk (Kd.R_lower ho25 (below_size (by repeat (first | (with_reducible first | exact HB.out | apply below_alloc | apply pw_below_drewN | apply below_drew1) | exact HB.out)))); have n1_ := Aside0.mk (below_step (by repeat (first | (with_reducible first | exact HB.out | apply below_alloc | apply pw_below_drewN | apply below_drew1) | exact HB.out)) hb); clear HB; have HO103 := n0_; have HB := n1_; clear n0_ n1_; clear hb ho25; obtain ⟨Ao26, co26, eo26⟩ := Kd.R_slice HO103.out; subst eo26) | ((with_reducible refine gate_callee (f := 30) rfl ?_); refine goesL_ (some 7) rfl rfl Tryd.func30 (by kernel_rfl) rfl #[.int .i64 2, .int .i64 1, .slice Ao26 y101.length co26] rfl (by (try simp only [List.map_toArray, List.map_cons, List.map_nil]); first | done | rfl | (simp only [List.length_drop, List.length_take]; rfl)) ?_; (with_reducible refine (stripe_Split.calls 2 1 _ _ y101 t104 t107 _ ?side1 ?side2 A2.out).mono ?_); (case side1 => repeat (first | exact (Kd.R_reads' HO103.out).2.2 | (with_reducible refine Kd.C_alloc ?_ _) | (with_reducible refine Kd.C_drewN ?_ _) | (with_reducible refine Kd.C_drew ?_))); (case side2 => exact (Kd.R_reads' HO103.out).2.1); rintro e w27 ⟨v105, rfl, ho0, hb⟩; refine ⟨_, rfl, ?_⟩; have n0_ := Aside0.mk (Kd.R_below (by (with_reducible repeat (first | apply Kd.R_alloc | apply Kd.R_drewN | apply Kd.R_drew)); exact HO103.out) hb); have n1_ := Aside0.mk (Kd.N_lower (Kd.N_mono (ok' := fun k_ => some k_ ≠ (.slice Ao26 y101.length co26 : Value).ownBlock) ho0 (fun k_ hk_ => (Kd.fresh' (Kd.R_lt (by (with_reducible repeat (first | apply Kd.R_alloc | apply Kd.R_drewN | apply Kd.R_drew)); exact HO103.out)) k_ hk_))) (below_size (by repeat (first | (with_reducible first | exact HB.out | apply below_alloc | apply pw_below_drewN | apply below_drew1) | exact HB.out)))); have n2_ := Aside0.mk (below_step (by repeat (first | (with_reducible first | exact HB.out | apply below_alloc | apply pw_below_drewN | apply below_drew1) | exact HB.out)) hb); clear HO103; clear HB; have HO103 := n0_; have HO106 := n1_; have HB := n2_; clear n0_ n1_ n2_; (try clear hb); (try clear hb2); (try clear hk); (try clear hi); (try clear ho0)) | ((with_reducible refine gate_callee (f := 31) rfl ?_); refine goesL_ (some 11) rfl rfl Tryd.func31 (by kernel_rfl) rfl #[.int .i64 2, .int .i64 33] rfl (by (try simp only [List.map_toArray, List.map_cons, List.map_nil]); first | done | rfl | (simp only [List.length_drop, List.length_take]; rfl)) ?_; (with_reducible refine (stripe_Length.calls k 2 33 t108 t109 _ A3.out).mono ?_); rintro e w' ⟨rfl, ⟨nd, rfl⟩⟩; refine ⟨_, rfl, ?_⟩; obtain ⟨Ao28, co28, eo28⟩ := Kd.N_slice HO106.out; subst eo28))
    go_ret
    exact ⟨by first | rfl | (simp [errW_none, errW_some] <;> rfl) | (simp [*, errW_none, errW_some] <;> rfl), by repeat (first | (with_reducible first | exact HB.out | apply below_alloc | apply pw_below_drewN | apply below_drew1) | exact HB.out)⟩
  ·rw [if_neg c4] at H
   have c4b0 : (t107 == 0) = false := beq_eq_false_iff_ne.mpr c4
   have c4b1 : (t107 != 0) = true := bne_iff_ne.mpr c4
   obtain rfl := Option.some.inj H
   go_enter Tryd.func11, Tryd.ntmps11
   go_wp2_with (first | ((with_reducible refine gate_dst (N := 6) rfl ?_); (try (refine gate_guard (by rfl) ?_; dsimp only)); refine Kd.R_make (Kd.int .u8) _ 5 rfl (N := 6) rfl 22 _ _ rfl 20 rfl rfl Tryd.underlying22 (.int .u8 0) 1 info5 rfl (by decide) (by omega) 0 (ok := fun _ => True) (okp := fun _ => True) rfl (fun _ hk => hk) trivial (by omega) (by omega) (Below.refl _ _) (Nat.le_refl _) ?_; intro v102 w29 ho30 hb hg_ hnew_; clear hg_ hnew_; (first | rw [← Ny101.out] at ho30 | (simp only [Int.reduceToNat] at ho30; rw [← Ny101.out] at ho30)); have n0_ := Aside0.mk (Kd.R_lower ho30 (below_size (by repeat (first | (with_reducible first | exact HB.out | apply below_alloc | apply pw_below_drewN | apply below_drew1) | exact HB.out)))); have n1_ := Aside0.mk (below_step (by repeat (first | (with_reducible first | exact HB.out | apply below_alloc | apply pw_below_drewN | apply below_drew1) | exact HB.out)) hb); clear HB; have HO103 := n0_; have HB := n1_; clear n0_ n1_; clear hb ho30; obtain ⟨Ao31, co31, eo31⟩ := Kd.R_slice HO103.out; subst eo31) | ((with_reducible refine gate_callee (f := 30) rfl ?_); refine goesL_ (some 7) rfl rfl Tryd.func30 (by kernel_rfl) rfl #[.int .i64 2, .int .i64 1, .slice Ao31 y101.length co31] rfl (by (try simp only [List.map_toArray, List.map_cons, List.map_nil]); first | done | rfl | (simp only [List.length_drop, List.length_take]; rfl)) ?_; (with_reducible refine (stripe_Split.calls 2 1 _ _ y101 t104 t107 _ ?side1 ?side2 A2.out).mono ?_); (case side1 => repeat (first | exact (Kd.R_reads' HO103.out).2.2 | (with_reducible refine Kd.C_alloc ?_ _) | (with_reducible refine Kd.C_drewN ?_ _) | (with_reducible refine Kd.C_drew ?_))); (case side2 => exact (Kd.R_reads' HO103.out).2.1); rintro e w32 ⟨v105, rfl, ho0, hb⟩; refine ⟨_, rfl, ?_⟩; have n0_ := Aside0.mk (Kd.R_below (by (with_reducible repeat (first | apply Kd.R_alloc | apply Kd.R_drewN | apply Kd.R_drew)); exact HO103.out) hb); have n1_ := Aside0.mk (Kd.N_lower (Kd.N_mono (ok' := fun k_ => some k_ ≠ (.slice Ao31 y101.length co31 : Value).ownBlock) ho0 (fun k_ hk_ => (Kd.fresh' (Kd.R_lt (by (with_reducible repeat (first | apply Kd.R_alloc | apply Kd.R_drewN | apply Kd.R_drew)); exact HO103.out)) k_ hk_))) (below_size (by repeat (first | (with_reducible first | exact HB.out | apply below_alloc | apply pw_below_drewN | apply below_drew1) | exact HB.out)))); have n2_ := Aside0.mk (below_step (by repeat (first | (with_reducible first | exact HB.out | apply below_alloc | apply pw_below_drewN | apply below_drew1) | exact HB.out)) hb); clear HO103; clear HB; have HO103 := n0_; have HO106 := n1_; have HB := n2_; clear n0_ n1_ n2_; (try clear hb); (try clear hb2); (try clear hk); (try clear hi); (try clear ho0)) | ((with_reducible refine gate_callee (f := 31) rfl ?_); refine goesL_ (some 11) rfl rfl Tryd.func31 (by kernel_rfl) rfl #[.int .i64 2, .int .i64 33] rfl (by (try simp only [List.map_toArray, List.map_cons, List.map_nil]); first | done | rfl | (simp only [List.length_drop, List.length_take]; rfl)) ?_; (with_reducible refine (stripe_Length.calls k 2 33 t108 t109 _ A3.out).mono ?_); rintro e w' ⟨rfl, ⟨nd, rfl⟩⟩; refine ⟨_, rfl, ?_⟩))
   go_ret
   exact ⟨by first | rfl | (simp [errW_none, errW_some] <;> rfl) | (simp [*, errW_none, errW_some] <;> rfl), by repeat (first | (with_reducible first | exact HB.out | apply below_alloc | apply pw_below_drewN | apply below_drew1) | exact HB.out)⟩
 ·rw [if_neg c1] at H
  exact absurd H (by simp)
end Go.Proofs.YtnfgiamdmfkcjaaDoor.P
namespace Go.Proofs.YtnfgiamdmfkcjaaDoor.P
open Go.Proofs.YtnfgiamdmfkcjaaDoor.Leaf
open Go.RowKit Go.Proofs.YtnfgiamdmfkcjaaDoorW.PrintWords Go.Proofs.YtnfgiamdmfkcjaaDoorW.PrintLast Go.Proofs.YtnfgiamdmfkcjaaDoorW.PrintMore
attribute [local go_sem] max2_int min2_int max_two min_two max_three min_three max_four min_four   -- for this text's walks alone
set_option linter.unusedVariables false
set_option linter.unusedSimpArgs false
mutual
def matrix_Check.j0 : Nat → List (List Int) → Bool → Option (Int)
 | 0, _, _ => none
 | k + 1, x0, x26 => if x26 = true then (some 1) else (matrix_Check.l0 k x0 x0 (x0.length : Int) 0)
def matrix_Check.l0 : Nat → List (List Int) → List (List Int) → Int → Int → Option (Int)
 | 0, _, _, _, _ => none
 | k + 1, x0, x27, x28, x29 => if x29 < x28 then (if 0 ≤ x29 then (if x29 < (x27.length : Int) then (if 0 < (x0.length : Int) then (if ((rd_L1 x27 x29).length : Int) = ((rd_L1 x0 0).length : Int) then (matrix_Check.l0 k x0 x27 x28 (wrap64 (x29 + 1))) else (some 1)) else (none)) else (none)) else (none)) else (some 0)
end
def matrix_Check.f (k : Nat) (l0 : List (List Int)) : Option (Int) := if (l0.length : Int) = 0 then (matrix_Check.j0 k l0 true) else (if (l0.length : Int) > 255 then (matrix_Check.j0 k l0 true) else (if 0 < (l0.length : Int) then (if ((rd_L1 l0 0).length : Int) = 0 then (matrix_Check.j0 k l0 true) else (matrix_Check.j0 k l0 (decide (((rd_L1 l0 0).length : Int) > 255)))) else (none)))
theorem matrix_Check.mono_l : ∀ k, (∀ y0 y1, LeO (matrix_Check.j0 k y0 y1) (matrix_Check.j0 (k + 1) y0 y1)) ∧ (∀ y0 y1 y2 y3, LeO (matrix_Check.l0 k y0 y1 y2 y3) (matrix_Check.l0 (k + 1) y0 y1 y2 y3))
 | 0 => ⟨fun _ _ r h => by simp [matrix_Check.j0] at h, fun _ _ _ _ r h => by simp [matrix_Check.l0] at h⟩
 | k + 1 => by
  obtain ⟨ih0, ih1⟩ := matrix_Check.mono_l k
  refine ⟨?_, ?_⟩
  ·intro y0 y1
   unfold matrix_Check.j0
   repeat' first
   | (with_reducible exact ih0 _ _)
   | (with_reducible exact ih1 _ _ _ _)
   | (with_reducible exact LeO.refl _)
   | (with_reducible exact LeO.none _)
   | (with_reducible refine LeO.ite ?_ ?_)
   | (with_reducible refine LeO.bind ?_ (fun _ => ?_))
   | exact ih0 _ _
   | exact ih1 _ _ _ _
   | exact LeO.none _
   | refine LeO.ite ?_ ?_
   | refine LeO.bind ?_ (fun _ => ?_)
  ·intro y0 y1 y2 y3
   unfold matrix_Check.l0
   repeat' first
   | (with_reducible exact ih0 _ _)
   | (with_reducible exact ih1 _ _ _ _)
   | (with_reducible exact LeO.refl _)
   | (with_reducible exact LeO.none _)
   | (with_reducible refine LeO.ite ?_ ?_)
   | (with_reducible refine LeO.bind ?_ (fun _ => ?_))
   | exact ih0 _ _
   | exact ih1 _ _ _ _
   | exact LeO.none _
   | refine LeO.ite ?_ ?_
   | refine LeO.bind ?_ (fun _ => ?_)
theorem matrix_Check.mono : ∀ a0 k, LeO (matrix_Check.f k a0) (matrix_Check.f (k + 1) a0) := by
 intro a0 k
 obtain ⟨ih0, ih1⟩ := matrix_Check.mono_l k
 unfold matrix_Check.f
 repeat' first
   | (with_reducible exact ih0 _ _)
   | (with_reducible exact ih1 _ _ _ _)
   | (with_reducible exact LeO.refl _)
   | (with_reducible exact LeO.none _)
   | (with_reducible refine LeO.ite ?_ ?_)
   | (with_reducible refine LeO.bind ?_ (fun _ => ?_))
   | exact ih0 _ _
   | exact ih1 _ _ _ _
   | exact LeO.none _
   | refine LeO.ite ?_ ?_
   | refine LeO.bind ?_ (fun _ => ?_)
set_option maxHeartbeats 8000000 in
set_option maxRecDepth 100000 in
theorem matrix_Check.calls (k : Nat) (A0 : Option Addr) (c0 : Nat) (l0 : List (List Int)) (r : Int) (w : World) (hr0 : Kd.C (Kd.slice 5 (Kd.int .u8)) w A0 l0.length l0) (hc0 : l0.length ≤ c0) (h : matrix_Check.f k l0 = some r) :
  Calls Tryd.prog 67 #[.slice A0 l0.length c0] w fun e w' => e = .returned (.int .i64 r) ∧ Drawn0 w w' := by
 have HR0 := Aside0.mk hr0
 have HC0 := Aside0.mk hc0
 clear hr0 hc0
 have H : (if (l0.length : Int) = 0 then (matrix_Check.j0 k l0 true) else (if (l0.length : Int) > 255 then (matrix_Check.j0 k l0 true) else (if 0 < (l0.length : Int) then (if ((rd_L1 l0 0).length : Int) = 0 then (matrix_Check.j0 k l0 true) else (matrix_Check.j0 k l0 (decide (((rd_L1 l0 0).length : Int) > 255)))) else (none)))) = some r := h
 clear h
 have HC2 := Aside0.mk H
 clear H
 go_enter Tryd.func67, Tryd.ntmps67
 go_upto_region 1 with (fail)
 go_cut [26] (fun v26 wc => ∃ (kq : Nat) (x26_1 : Bool), v26 = .bool x26_1 ∧ Aside0 (matrix_Check.j0 kq l0 x26_1 = some r) ∧ Aside0 (kq ≤ k) ∧ Drawn0 w wc)
 case first =>
  have H := HC2.out
  clear HC2
  by_cases c3 : (l0.length : Int) = 0
  ·rw [if_pos c3] at H
   have c3b0 : ((l0.length : Int) == 0) = true := beq_iff_eq.mpr c3
   have c3b1 : ((l0.length : Int) != 0) = false := bne_eq_false_iff_eq.mpr c3
   clear c3
   (first | rw [c3b0] | (simp only [i64_w, i32_w]; rw [c3b0]) | skip)
   have H' := Aside0.mk H
   clear H
   go_wp2
   go_meet
   case rel => exact ⟨_, (true), (by first | rfl | (simp; done) | (simp [*]; done)), H', ⟨by first | omega | exact Nat.le_refl _⟩, by repeat (first | exact Drawn0.refl _ | apply Drawn0.step)⟩
  ·rw [if_neg c3] at H
   have c3b0 : ((l0.length : Int) == 0) = false := beq_eq_false_iff_ne.mpr c3
   have c3b1 : ((l0.length : Int) != 0) = true := bne_iff_ne.mpr c3
   have c3b2 : ¬ (l0 = []) := fun h_ => c3 (by rw [h_]; rfl)
   (first | rw [c3b0] | (simp only [i64_w, i32_w]; rw [c3b0]) | skip)
   by_cases c4 : (l0.length : Int) > 255
   ·rw [if_pos c4] at H
    have c4b0 : decide (255 < (l0.length : Int)) = true := decide_eq_true c4
    have c4b1 : decide (255 < l0.length) = true := decide_eq_true (by omega)
    clear c4
    have H' := Aside0.mk H
    clear H
    go_wp2
    go_meet
    case rel => exact ⟨_, (true), (by first | rfl | (simp; done) | (simp [*]; done)), H', ⟨by first | omega | exact Nat.le_refl _⟩, by repeat (first | exact Drawn0.refl _ | apply Drawn0.step)⟩
   ·rw [if_neg c4] at H
    have c4b0 : decide (255 < (l0.length : Int)) = false := decide_eq_false c4
    have c4b1 : decide (255 < l0.length) = false := decide_eq_false (by omega)
    clear c4
    by_cases c5 : 0 < (l0.length : Int)
    ·rw [if_pos c5] at H
     have c5b0 : decide (0 < (l0.length : Int)) = true := decide_eq_true c5
     have c5b1 : decide (0 < l0.length) = true := decide_eq_true (by omega)
     clear c5
     by_cases c6 : ((rd_L1 l0 0).length : Int) = 0
     ·rw [if_pos c6] at H
      have c6b0 : (((rd_L1 l0 0).length : Int) == 0) = true := beq_iff_eq.mpr c6
      have c6b1 : (((rd_L1 l0 0).length : Int) != 0) = false := bne_eq_false_iff_eq.mpr c6
      clear c6
      have H' := Aside0.mk H
      clear H
      have p101 : 0 ≤ (0 : Int) := (by omega)
      have q101 : 0 < (l0.length : Int) := of_decide_eq_true (by first | (with_reducible assumption) | assumption)
      obtain ⟨ad101, A101_0, c101_0, e101, hx101_0, hl101_0, hi101_0⟩ := at_L1 HR0.out 0 p101 q101
      cases e101
      have qi101 : (0 < l0.length) = True := eq_true (by omega)
      (try rw [show ((0 : Int)).toNat = 0 from rfl] at hx101_0)
      (try rw [Addr.add_zero'] at hx101_0)
      have HR101_0 := Aside0.mk hi101_0
      have HC101_0 := Aside0.mk hl101_0
      clear hi101_0 hl101_0
      replace p101 := eq_true p101
      replace q101 := eq_true q101
      go_wp2
      go_meet
      case rel => exact ⟨_, (true), (by first | rfl | (simp; done) | (simp [*]; done)), H', ⟨by first | omega | exact Nat.le_refl _⟩, by repeat (first | exact Drawn0.refl _ | apply Drawn0.step)⟩
     ·rw [if_neg c6] at H
      have c6b0 : (((rd_L1 l0 0).length : Int) == 0) = false := beq_eq_false_iff_ne.mpr c6
      have c6b1 : (((rd_L1 l0 0).length : Int) != 0) = true := bne_iff_ne.mpr c6
      have c6b2 : ¬ ((rd_L1 l0 0) = []) := fun h_ => c6 (by rw [h_]; rfl)
      have H' := Aside0.mk H
      clear H
      have p101 : 0 ≤ (0 : Int) := (by omega)
      have q101 : 0 < (l0.length : Int) := of_decide_eq_true (by first | (with_reducible assumption) | assumption)
      obtain ⟨ad101, A101_0, c101_0, e101, hx101_0, hl101_0, hi101_0⟩ := at_L1 HR0.out 0 p101 q101
      cases e101
      have qi101 : (0 < l0.length) = True := eq_true (by omega)
      (try rw [show ((0 : Int)).toNat = 0 from rfl] at hx101_0)
      (try rw [Addr.add_zero'] at hx101_0)
      have HR101_0 := Aside0.mk hi101_0
      have HC101_0 := Aside0.mk hl101_0
      clear hi101_0 hl101_0
      replace p101 := eq_true p101
      replace q101 := eq_true q101
      have p102 : 0 ≤ (0 : Int) := (by omega)
      have q102 : 0 < (l0.length : Int) := of_decide_eq_true (by first | (with_reducible assumption) | assumption)
      obtain ⟨ad102, A102_0, c102_0, e102, hx102_0, hl102_0, hi102_0⟩ := at_L1 HR0.out 0 p102 q102
      obtain rfl : ad101 = ad102 := (by injection e102)
      have qi102 : (0 < l0.length) = True := eq_true (by omega)
      (try rw [show ((0 : Int)).toNat = 0 from rfl] at hx102_0)
      (try rw [Addr.add_zero'] at hx102_0)
      have HR102_0 := Aside0.mk hi102_0
      have HC102_0 := Aside0.mk hl102_0
      clear hi102_0 hl102_0
      replace p102 := eq_true p102
      replace q102 := eq_true q102
      have ea_ := Option.some.inj (hx101_0.symm.trans hx102_0)
      injection ea_ with ea_ en_ ec_
      subst ea_
      subst ec_
      clear en_
      go_wp2
      go_meet
      case rel => exact ⟨_, (decide (((rd_L1 l0 0).length : Int) > 255)), (by first | rfl | (simp; done) | (simp [*]; done)), H', ⟨by first | omega | exact Nat.le_refl _⟩, by repeat (first | exact Drawn0.refl _ | apply Drawn0.step)⟩
    ·rw [if_neg c5] at H
     exact absurd H (by simp)
 case rest =>
  clear HC2
  try clear c1
  try clear p1
  try clear q1
  try clear hx1
  try clear qi1
  try clear p2
  try clear c3
  try clear c3b0
  try clear c3b1
  try clear c3b2
  try clear c4
  try clear c4b0
  try clear c4b1
  try clear c5
  try clear c5b0
  try clear c5b1
  try clear c6
  try clear c6b0
  try clear c6b1
  try clear c6b2
  try clear hx101_0
  try clear hx102_0
  try clear p101
  try clear p102
  try clear q101
  try clear q102
  obtain ⟨kq, x26_1, rfl, HA, HJ1, ⟨mc1, rfl⟩⟩ := hcut
  cases kq with
  | zero => exact absurd HA.out (by simp [matrix_Check.j0])
  | succ kj1 =>
   have H := HA.out
   clear HA
   simp only [matrix_Check.j0] at H
   by_cases c7 : x26_1 = true
   ·subst c7
    have H1 : (some 1) = some r := by rw [if_pos rfl] at H; exact H
    clear H
    have H := H1
    clear H1
    obtain rfl := Option.some.inj H
    go_wp2
    go_ret
    exact ⟨by first | rfl | (simp; done) | (simp [*]; done), by repeat (first | exact Drawn0.refl _ | apply Drawn0.step)⟩
   ·replace c7 := Bool.eq_false_iff.mpr c7
    subst c7
    have H1 : (matrix_Check.l0 kj1 l0 l0 (l0.length : Int) 0) = some r := by rw [if_neg (show ¬ (false = true) by decide)] at H; exact H
    clear H
    have H := H1
    clear H1
    have H' := Aside0.mk H
    clear H
    go_wp2
    go_loopg [29] kj1 (fun kq v29 w' => ∃ (x29_2 : Int), v29 = .int .i64 x29_2 ∧ Aside0 (matrix_Check.l0 kq l0 l0 (l0.length : Int) x29_2 = some r) ∧ Aside0 (kq ≤ kj1) ∧ Drawn0 w w')
    case atStart => exact ⟨(0), (by first | rfl | (simp; done) | (simp [*]; done)), H', ⟨Nat.le_refl _⟩, by repeat (first | exact Drawn0.refl _ | apply Drawn0.step)⟩
    case round =>
     clear H'
     try clear c1
     try clear p1
     try clear q1
     try clear hx1
     try clear qi1
     try clear p2
     try clear c3
     try clear c3b0
     try clear c3b1
     try clear c3b2
     try clear c4
     try clear c4b0
     try clear c4b1
     try clear c5
     try clear c5b0
     try clear c5b1
     try clear c6
     try clear c6b0
     try clear c6b1
     try clear c6b2
     try clear c7
     try clear hx101_0
     try clear hx102_0
     try clear p1
     try clear p101
     try clear p102
     try clear p2
     try clear q1
     try clear q101
     try clear q102
     obtain ⟨x29_2, rfl, HA, HK2, ⟨m2, rfl⟩⟩ := hrel
     cases gk with
     | zero => exact absurd HA.out (by simp [matrix_Check.l0])
     | succ k2 =>
      have H := HA.out
      clear HA
      simp only [matrix_Check.l0] at H
      by_cases c8 : x29_2 < (l0.length : Int)
      ·rw [if_pos c8] at H
       have c8b0 : decide (x29_2 < (l0.length : Int)) = true := decide_eq_true c8
       clear c8
       by_cases c9 : 0 ≤ x29_2
       ·rw [if_pos c9] at H
        have c9b0 : decide (0 ≤ x29_2) = true := decide_eq_true c9
        clear c9
        by_cases c10 : x29_2 < (l0.length : Int)
        ·rw [if_pos c10] at H
         have c10b0 : decide (x29_2 < (l0.length : Int)) = true := decide_eq_true c10
         clear c10
         by_cases c11 : 0 < (l0.length : Int)
         ·rw [if_pos c11] at H
          have c11b0 : decide (0 < (l0.length : Int)) = true := decide_eq_true c11
          have c11b1 : decide (0 < l0.length) = true := decide_eq_true (by omega)
          clear c11
          by_cases c12 : ((rd_L1 l0 x29_2).length : Int) = ((rd_L1 l0 0).length : Int)
          ·rw [if_pos c12] at H
           have c12b0 : (((rd_L1 l0 x29_2).length : Int) == ((rd_L1 l0 0).length : Int)) = true := beq_iff_eq.mpr c12
           have c12b1 : (((rd_L1 l0 x29_2).length : Int) != ((rd_L1 l0 0).length : Int)) = false := bne_eq_false_iff_eq.mpr c12
           have c12b2 : ((rd_L1 l0 x29_2).length == (rd_L1 l0 0).length) = true := by first | simpa using c12 | (simp at c12 ⊢; omega)
           clear c12
           have H' := Aside0.mk H
           clear H
           have p103 : 0 ≤ (x29_2 : Int) := of_decide_eq_true (by first | (with_reducible assumption) | assumption)
           have q103 : x29_2 < (l0.length : Int) := of_decide_eq_true (by first | (with_reducible assumption) | assumption)
           obtain ⟨ad103, A103_0, c103_0, e103, hx103_0, hl103_0, hi103_0⟩ := at_L1 HR0.out x29_2 p103 q103
           cases e103
           have HR103_0 := Aside0.mk hi103_0
           have HC103_0 := Aside0.mk hl103_0
           clear hi103_0 hl103_0
           replace p103 := eq_true p103
           replace q103 := eq_true q103
           have p104 : 0 ≤ (0 : Int) := (by omega)
           have q104 : 0 < (l0.length : Int) := of_decide_eq_true (by first | (with_reducible assumption) | assumption)
           obtain ⟨ad104, A104_0, c104_0, e104, hx104_0, hl104_0, hi104_0⟩ := at_L1 HR0.out 0 p104 q104
           obtain rfl : ad103 = ad104 := (by injection e104)
           have qi104 : (0 < l0.length) = True := eq_true (by omega)
           (try rw [show ((0 : Int)).toNat = 0 from rfl] at hx104_0)
           (try rw [Addr.add_zero'] at hx104_0)
           have HR104_0 := Aside0.mk hi104_0
           have HC104_0 := Aside0.mk hl104_0
           clear hi104_0 hl104_0
           replace p104 := eq_true p104
           replace q104 := eq_true q104
           go_wp2
           go_roundg k2
           case measure => have := HJ1.out; have := HK2.out; omega
           case rel => exact ⟨(wrap64 (x29_2 + 1)), (by first | rfl | (simp; done) | (simp [*]; done)), H', ⟨by have := HJ1.out; have := HK2.out; omega⟩, by repeat (first | exact Drawn0.refl _ | apply Drawn0.step)⟩
          ·rw [if_neg c12] at H
           have c12b0 : (((rd_L1 l0 x29_2).length : Int) == ((rd_L1 l0 0).length : Int)) = false := beq_eq_false_iff_ne.mpr c12
           have c12b1 : (((rd_L1 l0 x29_2).length : Int) != ((rd_L1 l0 0).length : Int)) = true := bne_iff_ne.mpr c12
           have c12b2 : ((rd_L1 l0 x29_2).length == (rd_L1 l0 0).length) = false := by first | simpa using c12 | (simp at c12 ⊢; omega)
           obtain rfl := Option.some.inj H
           have p103 : 0 ≤ (x29_2 : Int) := of_decide_eq_true (by first | (with_reducible assumption) | assumption)
           have q103 : x29_2 < (l0.length : Int) := of_decide_eq_true (by first | (with_reducible assumption) | assumption)
           obtain ⟨ad103, A103_0, c103_0, e103, hx103_0, hl103_0, hi103_0⟩ := at_L1 HR0.out x29_2 p103 q103
           cases e103
           have HR103_0 := Aside0.mk hi103_0
           have HC103_0 := Aside0.mk hl103_0
           clear hi103_0 hl103_0
           replace p103 := eq_true p103
           replace q103 := eq_true q103
           have p104 : 0 ≤ (0 : Int) := (by omega)
           have q104 : 0 < (l0.length : Int) := of_decide_eq_true (by first | (with_reducible assumption) | assumption)
           obtain ⟨ad104, A104_0, c104_0, e104, hx104_0, hl104_0, hi104_0⟩ := at_L1 HR0.out 0 p104 q104
           obtain rfl : ad103 = ad104 := (by injection e104)
           have qi104 : (0 < l0.length) = True := eq_true (by omega)
           (try rw [show ((0 : Int)).toNat = 0 from rfl] at hx104_0)
           (try rw [Addr.add_zero'] at hx104_0)
           have HR104_0 := Aside0.mk hi104_0
           have HC104_0 := Aside0.mk hl104_0
           clear hi104_0 hl104_0
           replace p104 := eq_true p104
           replace q104 := eq_true q104
           go_wp2
           go_ret
           exact ⟨by first | rfl | (simp; done) | (simp [*]; done), by repeat (first | exact Drawn0.refl _ | apply Drawn0.step)⟩
         ·rw [if_neg c11] at H
          exact absurd H (by simp)
        ·rw [if_neg c10] at H
         exact absurd H (by simp)
       ·rw [if_neg c9] at H
        exact absurd H (by simp)
      ·rw [if_neg c8] at H
       have c8b0 : decide (x29_2 < (l0.length : Int)) = false := decide_eq_false c8
       clear c8
       obtain rfl := Option.some.inj H
       go_wp2
       go_ret
       exact ⟨by first | rfl | (simp; done) | (simp [*]; done), by repeat (first | exact Drawn0.refl _ | apply Drawn0.step)⟩
end Go.Proofs.YtnfgiamdmfkcjaaDoor.P
namespace Go.Proofs.YtnfgiamdmfkcjaaDoor.P
open Go.Proofs.YtnfgiamdmfkcjaaDoor.Leaf
open Go.RowKit Go.Proofs.YtnfgiamdmfkcjaaDoorW.PrintWords Go.Proofs.YtnfgiamdmfkcjaaDoorW.PrintLast Go.Proofs.YtnfgiamdmfkcjaaDoorW.PrintMore
attribute [local go_sem] max2_int min2_int max_two min_two max_three min_three max_four min_four   -- for this text's walks alone
set_option linter.unusedVariables false
set_option linter.unusedSimpArgs false
def matrix_own.l0 : Nat → List (List Int) → List (List Int) → Int → Int → Option ((List (List Int)))
 | 0, _, _, _, _ => none
 | k + 1, x3, x9, x10, x11 => if x11 < x10 then (if 0 ≤ x11 then (if x11 < (x9.length : Int) then ((slices_Clone_byte_byte.f (rd_L1 x9 x11)).bind fun t105 => (if x11 < (x3.length : Int) then (matrix_own.l0 k (x3.set (x11 : Int).toNat t105) x9 x10 (wrap64 (x11 + 1))) else (none))) else (none)) else (none)) else (some x3)
def matrix_own.f (k : Nat) (l0 : List (List Int)) : Option ((List (List Int))) := if 0 ≤ (l0.length : Int) then (if ((l0.length : Int) : Int).toNat ≤ 11728124029610 then (matrix_own.l0 k (List.replicate ((l0.length : Int) : Int).toNat []) l0 (l0.length : Int) 0) else (none)) else (none)
theorem matrix_own.mono_l : ∀ k, (∀ y0 y1 y2 y3, LeO (matrix_own.l0 k y0 y1 y2 y3) (matrix_own.l0 (k + 1) y0 y1 y2 y3))
 | 0 => fun _ _ _ _ r h => by simp [matrix_own.l0] at h
 | k + 1 => by
  have ih0 := matrix_own.mono_l k
  ·intro y0 y1 y2 y3
   unfold matrix_own.l0
   repeat' first
   | (with_reducible exact ih0 _ _ _ _)
   | (with_reducible exact LeO.refl _)
   | (with_reducible exact LeO.none _)
   | (with_reducible refine LeO.ite ?_ ?_)
   | (with_reducible refine LeO.bind ?_ (fun _ => ?_))
   | exact ih0 _ _ _ _
   | exact LeO.none _
   | refine LeO.ite ?_ ?_
   | refine LeO.bind ?_ (fun _ => ?_)
theorem matrix_own.mono : ∀ a0 k, LeO (matrix_own.f k a0) (matrix_own.f (k + 1) a0) := by
 intro a0 k
 have ih0 := matrix_own.mono_l k
 unfold matrix_own.f
 repeat' first
   | (with_reducible exact ih0 _ _ _ _)
   | (with_reducible exact LeO.refl _)
   | (with_reducible exact LeO.none _)
   | (with_reducible refine LeO.ite ?_ ?_)
   | (with_reducible refine LeO.bind ?_ (fun _ => ?_))
   | exact ih0 _ _ _ _
   | exact LeO.none _
   | refine LeO.ite ?_ ?_
   | refine LeO.bind ?_ (fun _ => ?_)
set_option maxHeartbeats 8000000 in
set_option maxRecDepth 100000 in
theorem matrix_own.calls (k : Nat) (A0 : Option Addr) (c0 : Nat) (l0 : List (List Int)) (r : List (List Int)) (w : World) (hr0 : Kd.C (Kd.slice 5 (Kd.int .u8)) w A0 l0.length l0) (hc0 : l0.length ≤ c0) (h : matrix_own.f k l0 = some r) :
  Calls Tryd.prog 70 #[.slice A0 l0.length c0] w fun e w' => ∃ v0_ : Value, e = .returned (v0_) ∧ Kd.S (Kd.slice 5 (Kd.int .u8)) 22 w' w.heap.size (fun _ => True) v0_ r ∧ Below w.heap.size w w' := by
 have HR0 := Aside0.mk hr0
 have HC0 := Aside0.mk hc0
 clear hr0 hc0
 have HB := Aside0.mk (Below.refl w.heap.size w)
 have H : (if 0 ≤ (l0.length : Int) then (if ((l0.length : Int) : Int).toNat ≤ 11728124029610 then (matrix_own.l0 k (List.replicate ((l0.length : Int) : Int).toNat []) l0 (l0.length : Int) 0) else (none)) else (none)) = some r := h
 clear h
 by_cases c2 : 0 ≤ (l0.length : Int)
 ·rw [if_pos c2] at H
  have c2b0 := eq_true c2
  have c2b1 : decide (0 ≤ (l0.length : Int)) = true := decide_eq_true c2
  clear c2
  by_cases c3 : ((l0.length : Int) : Int).toNat ≤ 11728124029610
  ·rw [if_pos c3] at H
   have c3b0 := eq_true c3
   have c3b1 : decide (((l0.length : Int) : Int).toNat ≤ 11728124029610) = true := decide_eq_true c3
   clear c3
   obtain ⟨y101, hy101⟩ : ∃ y_ : List (List Int), y_ = (List.replicate ((l0.length : Int) : Int).toNat []) := ⟨_, rfl⟩
   replace H : (matrix_own.l0 k y101 l0 (l0.length : Int) 0) = some r := by first | (rw [hy101]; with_reducible exact H) | (have H2_ := (Option.bind_some _ _).symm.trans H; rw [hy101]; with_reducible exact H2_) | (have H2_ := (Option.bind_some _ _).symm.trans H; with_reducible exact H2_) | with_reducible exact H | (rw [hy101]; exact H) | exact H
   have Ny101 := Aside0.mk hy101
   clear hy101
   have H' := Aside0.mk H
   clear H
   go_enter Tryd.func70, Tryd.ntmps70
   go_wp2_with (first | ((with_reducible refine gate_dst (N := 8) rfl ?_); refine Kd.S_make (Kd.slice 5 (Kd.int .u8)) _ 22 rfl (N := 8) rfl 26 _ _ rfl (l0.length : Int) rfl rfl Tryd.underlying26 (.slice none 0 0) 24 info22 rfl (by decide) (by omega) [] (ok := fun _ => True) (okp := fun _ => True) ⟨_, rfl, Kd.R_nil _ _ _ _ _⟩ (fun _ hk => hk) trivial (of_decide_eq_true (by first | (with_reducible assumption) | assumption)) (Nat.le_trans (Nat.mul_le_mul_right _ (of_decide_eq_true (by first | (with_reducible assumption) | assumption) : (l0.length : Int).toNat ≤ 11728124029610)) (by omega)) (Below.refl _ _) (Nat.le_refl _) ?_; intro v102 w4 ho5 hb hg_ hnew_; clear hg_ hnew_; (first | rw [← Ny101.out] at ho5 | (simp only [Int.reduceToNat] at ho5; rw [← Ny101.out] at ho5)); have n0_ := Aside0.mk (Kd.S_lower ho5 (below_size (by repeat (first | (with_reducible first | exact HB.out | apply below_alloc | apply pw_below_drewN | apply below_drew1) | exact HB.out)))); have n1_ := Aside0.mk (below_step (by repeat (first | (with_reducible first | exact HB.out | apply below_alloc | apply pw_below_drewN | apply below_drew1) | exact HB.out)) hb); clear HB; have HO103 := n0_; have HB := n1_; clear n0_ n1_; clear hb ho5))
   go_loopg [11] k (fun kq v11 w' => ∃ (x3_1 : List (List Int)) (x11_1 : Int), v11 = .int .i64 x11_1 ∧ Aside0 (matrix_own.l0 kq x3_1 l0 (l0.length : Int) x11_1 = some r) ∧ Aside0 (kq ≤ k) ∧ Aside0 (Kd.S (Kd.slice 5 (Kd.int .u8)) 22 w' w.heap.size (fun _ => True) v102 x3_1) ∧ Aside0 (Below w.heap.size w w'))
   case atStart => exact ⟨(y101), (0), (by first | rfl | (simp; done) | (simp [*]; done)), H', ⟨Nat.le_refl _⟩, ⟨by (with_reducible repeat (first | apply Kd.S_alloc | apply Kd.S_drewN | apply Kd.S_drew)); exact HO103.out⟩, ⟨by repeat (first | (with_reducible first | exact HB.out | apply below_alloc | apply pw_below_drewN | apply below_drew1) | exact HB.out)⟩⟩
   case round =>
    clear H'
    try clear c2
    try clear c2b0
    try clear c2b1
    try clear p2
    try clear c3
    try clear c3b0
    try clear c3b1
    obtain ⟨x3_1, x11_1, rfl, HA, HK1, HO_3, HB⟩ := hrel
    cases gk with
    | zero => exact absurd HA.out (by simp [matrix_own.l0])
    | succ k1 =>
     have H := HA.out
     clear HA
     simp only [matrix_own.l0] at H
     by_cases c6 : x11_1 < (l0.length : Int)
     ·rw [if_pos c6] at H
      have c6b0 : decide (x11_1 < (l0.length : Int)) = true := decide_eq_true c6
      clear c6
      by_cases c7 : 0 ≤ x11_1
      ·rw [if_pos c7] at H
       have c7b0 : decide (0 ≤ x11_1) = true := decide_eq_true c7
       clear c7
       by_cases c8 : x11_1 < (l0.length : Int)
       ·rw [if_pos c8] at H
        have c8b0 : decide (x11_1 < (l0.length : Int)) = true := decide_eq_true c8
        clear c8
        replace H := Option.bind_eq_some_iff.mp H
        obtain ⟨t105, A90, H⟩ := H
        replace H : (if x11_1 < (x3_1.length : Int) then (matrix_own.l0 k1 (x3_1.set (x11_1 : Int).toNat t105) l0 (l0.length : Int) (wrap64 (x11_1 + 1))) else (none)) = some r := H
        have A9 := Aside0.mk A90
        clear A90
        by_cases c10 : x11_1 < (x3_1.length : Int)
        ·rw [if_pos c10] at H
         have c10b0 : decide (x11_1 < (x3_1.length : Int)) = true := decide_eq_true c10
         clear c10
         obtain ⟨y108, hy108⟩ : ∃ y_ : List (List Int), y_ = (x3_1.set (x11_1 : Int).toNat t105) := ⟨_, rfl⟩
         replace H : (matrix_own.l0 k1 y108 l0 (l0.length : Int) (wrap64 (x11_1 + 1))) = some r := by first | (rw [hy108]; with_reducible exact H) | (have H2_ := (Option.bind_some _ _).symm.trans H; rw [hy108]; with_reducible exact H2_) | (have H2_ := (Option.bind_some _ _).symm.trans H; with_reducible exact H2_) | with_reducible exact H | (rw [hy108]; exact H) | exact H
         have Ny108 := Aside0.mk hy108
         clear hy108
         have H' := Aside0.mk H
         clear H
         have p104 : 0 ≤ (x11_1 : Int) := of_decide_eq_true (by first | (with_reducible assumption) | assumption)
         have q104 : x11_1 < (l0.length : Int) := of_decide_eq_true (by first | (with_reducible assumption) | assumption)
         obtain ⟨ad104, A104_0, c104_0, e104, hx104_0, hl104_0, hi104_0⟩ := at_L1 HR0.out x11_1 p104 q104
         cases e104
         replace hx104_0 := (HB.out.cell (World.block_lt_of_cell? w _ hx104_0)).trans hx104_0
         have HR104_0 := Aside0.mk hi104_0
         have HC104_0 := Aside0.mk hl104_0
         clear hi104_0 hl104_0
         replace p104 := eq_true p104
         replace q104 := eq_true q104
         go_wp2_with (first | ((with_reducible refine gate_callee (f := 68) rfl ?_); refine goesL_ (some 19) rfl rfl Tryd.func68 (by kernel_rfl) rfl #[.slice A104_0 (rd_L1 l0 x11_1).length c104_0] rfl (by (try simp only [List.map_toArray, List.map_cons, List.map_nil]); first | done | rfl | (simp only [List.length_drop, List.length_take]; rfl)) ?_; (with_reducible refine (slices_Clone_byte_byte.calls _ _ (rd_L1 l0 x11_1) t105 _ ?side1 ?side2 A9.out).mono ?_); (case side1 => repeat (first | exact (Kd.C_below HR104_0.out HB.out) | (with_reducible refine Kd.C_alloc ?_ _) | (with_reducible refine Kd.C_drewN ?_ _) | (with_reducible refine Kd.C_drew ?_))); (case side2 => exact HC104_0.out); rintro e w12 ⟨v106, rfl, ho0, hb⟩; refine ⟨_, rfl, ?_⟩; have n0_ := Aside0.mk (Kd.S_elder' (by (with_reducible repeat (first | apply Kd.S_alloc | apply Kd.S_drewN | apply Kd.S_drew)); exact HO_3.out) (Kd.R_base ho0) hb); have n1_ := Aside0.mk (Kd.R_lower ho0 (below_size (by repeat (first | (with_reducible first | exact HB.out | apply below_alloc | apply pw_below_drewN | apply below_drew1) | exact HB.out)))); have n2_ := Aside0.mk (below_step (by repeat (first | (with_reducible first | exact HB.out | apply below_alloc | apply pw_below_drewN | apply below_drew1) | exact HB.out)) hb); clear HO_3; clear HB; have HO_3 := n0_; have HO107 := n1_; have HB := n2_; clear n0_ n1_ n2_; (try clear hb); (try clear hb2); (try clear hk); (try clear hi); (try clear ho0); have p11 : 0 ≤ (x11_1 : Int) := of_decide_eq_true (by first | (with_reducible assumption) | assumption); have q11 : (x11_1 : Int) < ((x3_1.length : Int) : Int) := of_decide_eq_true (by first | (with_reducible assumption) | assumption); obtain ⟨go11, co11, eo11, gb11, gl11, cl11, HG11⟩ := Kd.S_form HO_3.out (by omega); (first | cases eo11 | (injection eo11 with ea_ en_ ec_; (first | subst ea_ | (injection ea_ with ea_; subst ea_)); subst ec_; clear en_)); have GB11 := Aside0.mk gb11; have GG11 := Aside0.mk HG11; clear gb11 gl11 HG11; obtain ⟨_, ce11, hcl11, hM11, hcc11, hfr11, _, _⟩ := Kd.S_elem HO_3.out [] (x11_1 : Int) p11 q11; obtain ⟨ve11_0, rfl, ge11_0⟩ := hM11; have hx11_0 := hcc11 0 _ rfl; have hf11_0 := hfr11 0; (try simp only [show ((Kd.slice 5 (Kd.int .u8))).sz = 1 from rfl, Nat.mul_one, Nat.add_zero] at hx11_0); (try simp only [show ((Kd.slice 5 (Kd.int .u8))).sz = 1 from rfl, Nat.mul_one, Nat.add_zero] at hf11_0); (try clear hcl11); (try clear hcc11); (try clear hfr11); (try clear hM11); replace p11 := eq_true p11; replace q11 := eq_true q11; have n_ := Aside0.mk (Kd.S_mono (ok' := (fun k_ => some k_ ≠ (v106 : Value).ownBlock)) HO_3.out (fun k_ hk => hk.2)); clear HO_3; have HO_3 := n_; clear n_; have HX13 := Aside0.mk (show Kd.S (Kd.slice 5 (Kd.int .u8)) 22 w12 w.heap.size (fun k_ => ((fun _ => True)) k_ ∧ ¬ ((fun k_ => some k_ = (v106 : Value).ownBlock)) k_) (.slice (some ⟨go11, 0, none⟩) x3_1.length co11) x3_1 from (by (with_reducible repeat (first | apply Kd.S_alloc | apply Kd.S_drewN | apply Kd.S_drew)); exact Kd.S_mono HO_3.out (fun k_ hk => ⟨trivial, fun e_ => hk e_⟩))); obtain ⟨oki13, ce13, hcl13, hM13, hcc13, hfr13, hoki13, hH13⟩ := Kd.S_elem HX13.out [] (x11_1 : Int) (of_decide_eq_true (by first | (with_reducible assumption) | assumption)) (by have h_ : (x11_1 : Int) < ((x3_1.length : Int) : Int) := of_decide_eq_true (by first | (with_reducible assumption) | assumption); first | exact h_ | (have e_ := (Kd.S_reads' HO_3.out).1; omega) | simpa using h_); obtain ⟨ve13_0, rfl, ge13_0⟩ := hM13; obtain ⟨Av13_, cv13_, ev13_⟩ := Kd.R_slice HO107.out; subst ev13_; have HP13 := Kd.S_seg hH13 (of_decide_eq_true (by first | (with_reducible assumption) | assumption)) (by have h_ : (x11_1 : Int) < ((x3_1.length : Int) : Int) := of_decide_eq_true (by first | (with_reducible assumption) | assumption); first | exact h_ | (have e_ := (Kd.S_reads' HO_3.out).1; omega) | simpa using h_) (seg := [(.slice Av13_ t105.length cv13_)]) (j := 0) (show 1 ≤ 1 from by decide) (x' := t105) (Kd.M_row (Kd.R_mono (Kd.R_tight rfl (Kd.R_mono (ok' := fun k_ => ((fun _ => True)) k_ ∧ k_ ≠ go11) (Kd.R_apart' (HO107.out) (Kd.S_typed HO_3.out) (by decide)) (fun k_ hk => ⟨trivial, fun e_ => (hk.2) (by rw [e_]; rfl)⟩))) (fun _ h_ => Or.inr (h_)))) (fun _ hk => hk) (fun k_ hk_ => ((Kd.R_mono (ok' := fun k_ => ((fun _ => True)) k_ ∧ k_ ≠ go11) (Kd.R_apart' (HO107.out) (Kd.S_typed HO_3.out) (by decide)) (fun k_ hk => ⟨trivial, fun e_ => (hk.2) (by rw [e_]; rfl)⟩))).1 k_ hk_.symm); have hx13_0 := hcc13 0 _ rfl; (try simp only [show ((Kd.slice 5 (Kd.int .u8))).sz = 1 from rfl, Nat.mul_one, Nat.add_zero] at hx13_0); have hf13_0 := hfr13 0; (try simp only [show ((Kd.slice 5 (Kd.int .u8))).sz = 1 from rfl, Nat.mul_one, Nat.add_zero] at hf13_0); (try clear hcl13); (try clear hcc13); (try clear hfr13); (try clear hM13); (try clear hoki13); (try clear hH13); (try simp only [show ((Kd.slice 5 (Kd.int .u8))).sz = 1 from rfl, Nat.mul_one, Nat.add_zero] at HP13)) | ((with_reducible refine gate_store (t := 22) (p := 20) rfl ?_); refine store_event (t := 22) (p := 20) (v := ?vo_w14) (w1 := (w12.setCell ⟨go11, (x11_1 : Int).toNat, none⟩ ((.slice Av13_ t105.length cv13_)))) ?hg ?ho ?hn ?hr ?_; (case ho => rfl); (case hg => rfl); (case hn => rfl); (case hr => first | (go_simp; done) | (go_simp; rfl)); intro w14 hw; have hg : w12.grownBy w14 (some go11) := (by rw [hw]; exact HP13.2); have hp_ : Kd.S (Kd.slice 5 (Kd.int .u8)) 22 w14 w.heap.size (fun _ => True) (.slice (some ⟨go11, 0, none⟩) x3_1.length co11) y108 := (by rw [hw, Ny108.out]; exact HP13.1); clear HP13; have n0_ := Aside0.mk (hp_); have n1_ := Aside0.mk ((by rw [hw]; exact below_set (HB.out) GB11.out : Below w.heap.size w w14)); clear HO_3; clear HB; clear HO107; have HO_3 := n0_; have HB := n1_; clear n0_ n1_; clear hg hw hp_))
         go_roundg k1
         case measure => have := HK1.out; omega
         case rel => exact ⟨(y108), (wrap64 (x11_1 + 1)), (by first | rfl | (simp; done) | (simp [*]; done)), H', ⟨by have := HK1.out; omega⟩, ⟨by (with_reducible repeat (first | apply Kd.S_alloc | apply Kd.S_drewN | apply Kd.S_drew)); exact HO_3.out⟩, ⟨by repeat (first | (with_reducible first | exact HB.out | apply below_alloc | apply pw_below_drewN | apply below_drew1) | exact HB.out)⟩⟩
        ·rw [if_neg c10] at H
         exact absurd H (by simp)
       ·rw [if_neg c8] at H
        exact absurd H (by simp)
      ·rw [if_neg c7] at H
       exact absurd H (by simp)
     ·rw [if_neg c6] at H
      have c6b0 : decide (x11_1 < (l0.length : Int)) = false := decide_eq_false c6
      clear c6
      obtain rfl := Option.some.inj H
      go_wp2
      go_ret
      exact ⟨_, by first | rfl | (simp [errW_none, errW_some] <;> rfl) | (simp [*, errW_none, errW_some] <;> rfl), by (with_reducible repeat (first | apply Kd.S_alloc | apply Kd.S_drewN | apply Kd.S_drew)); exact HO_3.out, by repeat (first | (with_reducible first | exact HB.out | apply below_alloc | apply pw_below_drewN | apply below_drew1) | exact HB.out)⟩
  ·rw [if_neg c3] at H
   exact absurd H (by simp)
 ·rw [if_neg c2] at H
  exact absurd H (by simp)
end Go.Proofs.YtnfgiamdmfkcjaaDoor.P
namespace Go.Proofs.YtnfgiamdmfkcjaaDoor.Red
open Go.RowKit Go.Proofs.YtnfgiamdmfkcjaaDoorW.PrintWords Go.Proofs.YtnfgiamdmfkcjaaDoor.Leaf Go.Proofs.YtnfgiamdmfkcjaaDoor.Gf Go.Proofs.YtnfgiamdmfkcjaaDoor.H Go.Proofs.YtnfgiamdmfkcjaaDoor.Mx Go.Proofs.YtnfgiamdmfkcjaaDoor.P
set_option linter.unusedVariables false
set_option linter.unusedSimpArgs false
/-- May a matrix be? -/
def mayB (A : Mat) : Bool := decide (0 < A.length) && decide (A.length ≤ 255) && decide (0 < (row A 0).length) && decide ((row A 0).length ≤ 255) && (List.range A.length).all fun i => (row A i).length == (row A 0).length
theorem mayB_iff (A : Mat) : mayB A = true ↔ 0 < A.length ∧ A.length ≤ 255 ∧ 0 < (row A 0).length ∧ (row A 0).length ≤ 255 ∧ ∀ i, i < A.length → (row A i).length = (row A 0).length := by
  unfold mayB
  simp only [Bool.and_eq_true, decide_eq_true_eq, List.all_eq_true, List.mem_range, beq_iff_eq]
  exact ⟨fun ⟨⟨⟨⟨a, b⟩, c⟩, d⟩, e⟩ => ⟨a, b, c, d, e⟩, fun ⟨a, b, c, d, e⟩ => ⟨⟨⟨⟨a, b⟩, c⟩, d⟩, e⟩⟩
theorem mayB_reg {A : Mat} (h : mayB A = true) : Reg A A.length (row A 0).length ∧ 0 < A.length ∧ A.length ≤ 255 ∧ 0 < (row A 0).length ∧ (row A 0).length ≤ 255 := by
  obtain ⟨a, b, c, d, e⟩ := (mayB_iff A).1 h
  exact ⟨⟨rfl, e⟩, a, b, c, d⟩
theorem mayB_of {A : Mat} {n m : Nat} (h : Reg A n m) (h1 : 0 < n) (h2 : n ≤ 255) (h3 : 0 < m) (h4 : m ≤ 255) : mayB A = true := by
  rw [mayB_iff, h.1, h.2 0 h1]
  exact ⟨h1, h2, h3, h4, fun i hi => h.2 i hi⟩
theorem chk_ok (A : Mat) (hs : A.length ≤ 9223372036854775807) (h : ∀ j, j < A.length → (row A j).length = (row A 0).length) (n : Nat) : ∀ i : Nat, i + n = A.length → Ev (fun k => matrix_Check.l0 k (oM A) (oM A) (A.length : Int) (i : Int)) 0 := by
  induction n with
  | zero =>
    intro i hi
    refine Ev.step (f := fun _ => some 0) (fun k => ?_) (Ev.now _)
    simp only [matrix_Check.l0]
    rw [if_neg (by omega)]
  | succ n ih =>
    intro i hi
    refine Ev.step (f := fun k => matrix_Check.l0 k (oM A) (oM A) (A.length : Int) ((i + 1 : Nat) : Int)) (fun k => ?_) (ih (i + 1) (by omega))
    simp only [matrix_Check.l0, oM_length, rd_oM, rd_oM0, ofL_length]
    rw [if_pos (by omega), if_pos (by omega), if_pos (by omega), if_pos (by omega), if_pos (by rw [h i (by omega)]), w64 _ (by omega) (by omega)]
    rfl
theorem chk_bad (A : Mat) (hs : A.length ≤ 9223372036854775807) (j : Nat) (hj : j < A.length) (hne : (row A j).length ≠ (row A 0).length) (n : Nat) : ∀ i : Nat, i + n = j → Ev (fun k => matrix_Check.l0 k (oM A) (oM A) (A.length : Int) (i : Int)) 1 := by
  induction n with
  | zero =>
    intro i hi
    refine Ev.step (f := fun _ => some 1) (fun k => ?_) (Ev.now _)
    simp only [matrix_Check.l0, oM_length, rd_oM, rd_oM0, ofL_length]
    rw [if_pos (by omega), if_pos (by omega), if_pos (by omega), if_pos (by omega), if_neg (by rw [show i = j by omega]; omega)]
  | succ n ih =>
    intro i hi
    by_cases he : (row A i).length = (row A 0).length
    · refine Ev.step (f := fun k => matrix_Check.l0 k (oM A) (oM A) (A.length : Int) ((i + 1 : Nat) : Int)) (fun k => ?_) (ih (i + 1) (by omega))
      simp only [matrix_Check.l0, oM_length, rd_oM, rd_oM0, ofL_length]
      rw [if_pos (by omega), if_pos (by omega), if_pos (by omega), if_pos (by omega), if_pos (by rw [he]), w64 _ (by omega) (by omega)]
      rfl
    · refine Ev.step (f := fun _ => some 1) (fun k => ?_) (Ev.now _)
      simp only [matrix_Check.l0, oM_length, rd_oM, rd_oM0, ofL_length]
      rw [if_pos (by omega), if_pos (by omega), if_pos (by omega), if_pos (by omega), if_neg (by omega)]
theorem not_may {A : Mat} (h : ¬ (0 < A.length ∧ A.length ≤ 255 ∧ 0 < (row A 0).length ∧ (row A 0).length ≤ 255 ∧ ∀ i, i < A.length → (row A i).length = (row A 0).length)) : mayB A = false := by
  rw [← Bool.not_eq_true, mayB_iff]; exact h
theorem evCheck (A : Mat) (hs : A.length ≤ 9223372036854775807) : Ev (fun k => matrix_Check.f k (oM A)) (if mayB A = true then 0 else 1) := by
  have j1 : Ev (fun k => matrix_Check.j0 k (oM A) true) 1 := Ev.step (f := fun _ => some 1) (fun k => by simp only [matrix_Check.j0, if_true]) (Ev.now _)
  unfold matrix_Check.f
  simp only [oM_length, rd_oM0, ofL_length]
  by_cases h1 : A.length = 0
  · rw [not_may (by omega)]
    simp only [show ((A.length : Int) = 0) = True from eq_true (by omega), if_true, Bool.false_eq_true, if_false]
    exact j1
  · simp only [show ((A.length : Int) = 0) = False from eq_false (by omega), if_false]
    by_cases h2 : A.length > 255
    · rw [not_may (by omega)]
      simp only [show ((A.length : Int) > 255) = True from eq_true (by omega), if_true, Bool.false_eq_true, if_false]
      exact j1
    · simp only [show ((A.length : Int) > 255) = False from eq_false (by omega), if_false, show ((0 : Int) < (A.length : Int)) = True from eq_true (by omega), if_true]
      by_cases h3 : (row A 0).length = 0
      · rw [not_may (by omega)]
        simp only [show (((row A 0).length : Int) = 0) = True from eq_true (by omega), if_true, Bool.false_eq_true, if_false]
        exact j1
      · simp only [show (((row A 0).length : Int) = 0) = False from eq_false (by omega), if_false]
        by_cases h4 : (row A 0).length > 255
        · rw [not_may (by omega)]
          simp only [show decide (((row A 0).length : Int) > 255) = true from decide_eq_true (by omega), Bool.false_eq_true, if_false]
          exact j1
        · simp only [show decide (((row A 0).length : Int) > 255) = false from decide_eq_false (by omega)]
          by_cases h5 : ∀ j, j < A.length → (row A j).length = (row A 0).length
          · rw [show mayB A = true from (mayB_iff A).2 ⟨by omega, by omega, by omega, by omega, h5⟩, if_pos rfl]
            refine Ev.step (f := fun k => matrix_Check.l0 k (oM A) (oM A) (A.length : Int) ((0 : Nat) : Int)) (fun k => ?_) (chk_ok A hs h5 A.length 0 (by omega))
            simp only [matrix_Check.j0, Bool.false_eq_true, if_false, oM_length]
            rfl
          · obtain ⟨j, hj, hne⟩ := uneven h5
            rw [not_may (fun h => h5 h.2.2.2.2)]
            simp only [Bool.false_eq_true, if_false]
            refine Ev.step (f := fun k => matrix_Check.l0 k (oM A) (oM A) (A.length : Int) ((0 : Nat) : Int)) (fun k => ?_) (chk_bad A hs j hj hne j 0 (by omega))
            simp only [matrix_Check.j0, Bool.false_eq_true, if_false, oM_length]
            rfl
theorem own_l0 (A : Mat) (hs : A.length < 2 ^ 62) (hr : ∀ i, i < A.length → (row A i).length < 140737488355328) (d : Nat) : ∀ (i : Nat) (X : Mat), i + d = A.length → X.length = A.length → (∀ j, j < i → row X j = row A j) → Ev (fun k => matrix_own.l0 k (oM X) (oM A) (A.length : Int) (i : Int)) (oM A) := by
  induction d with
  | zero =>
    intro i X hi hl h
    refine Ev.step (f := fun _ => some (oM X)) (fun k => ?_) ?_
    · simp only [matrix_own.l0]
      rw [if_neg (by omega)]
    · rw [show A = X from List.ext_getElem hl.symm fun j h1 h2 => by
        have h3 := h j (by omega)
        unfold row at h3
        rw [List.getD_eq_getElem?_getD, List.getElem?_eq_getElem h2, List.getD_eq_getElem?_getD, List.getElem?_eq_getElem h1] at h3
        exact h3.symm]
      exact Ev.now _
  | succ d ih =>
    intro i X hi hl h
    refine Ev.step (f := fun k => matrix_own.l0 k (oM (X.set i (row A i))) (oM A) (A.length : Int) ((i + 1 : Nat) : Int)) (fun k => ?_) (ih (i + 1) _ (by omega) (by rw [List.length_set]; exact hl) (fun j hj => ?_))
    · simp only [matrix_own.l0, oM_length, rd_oM, slices_Clone_byte_byte.f, ofL_length, Int.toNat_natCast]
      rw [if_pos (by omega), if_pos (by omega), if_pos (by omega), if_pos (hr i (by omega)), Option.bind_some, if_pos (by omega), oM_set, w64 _ (by omega) (by omega)]
      rfl
    · rw [row_set _ _ _ _ (by omega)]
      by_cases e : j = i
      · rw [if_pos e, e]
      · rw [if_neg e]; exact h j (by omega)
theorem evOwn (A : Mat) (hs : A.length ≤ 11728124029610) (hr : ∀ i, i < A.length → (row A i).length < 140737488355328) : Ev (fun k => matrix_own.f k (oM A)) (oM A) := by
  unfold matrix_own.f
  simp only [oM_length, Int.toNat_natCast, show ((0 : Int) ≤ (A.length : Int)) = True from eq_true (by omega), if_true, show (A.length ≤ 11728124029610) = True from eq_true hs]
  have e : List.replicate A.length ([] : List Int) = oM (List.replicate A.length []) := by unfold oM; rw [List.map_replicate]; rfl
  rw [e]
  exact own_l0 A (by omega) hr A.length 0 _ (by omega) (List.length_replicate ..) (fun j hj => by omega)
end Go.Proofs.YtnfgiamdmfkcjaaDoor.Red
namespace Go.Proofs.YtnfgiamdmfkcjaaDoor.P
open Go.Proofs.YtnfgiamdmfkcjaaDoor.Leaf
open Go.RowKit Go.Proofs.YtnfgiamdmfkcjaaDoorW.PrintWords Go.Proofs.YtnfgiamdmfkcjaaDoorW.PrintLast Go.Proofs.YtnfgiamdmfkcjaaDoorW.PrintMore
attribute [local go_sem] max2_int min2_int max_two min_two max_three min_three max_four min_four   -- for this text's walks alone
set_option linter.unusedVariables false
set_option linter.unusedSimpArgs false
mutual
def matrix_Rows.j0 : Nat → List (List Int) → List Int → Bool → Option ((List (List Int)) × Int)
 | 0, _, _, _ => none
 | k + 1, x0, x1, x21 => if x21 = true then (some (([] : List (List Int)), 1)) else (matrix_Rows.l0 k x0 ([] : List (List Int)) x1 (x1.length : Int) 0)
def matrix_Rows.l0 : Nat → List (List Int) → List (List Int) → List Int → Int → Int → Option ((List (List Int)) × Int)
 | 0, _, _, _, _, _ => none
 | k + 1, x0, x6, x22, x23, x24 => if x24 < x23 then (if 0 ≤ x24 then (if x24 < (x22.length : Int) then (if (rd x22 x24) < 0 then (some (([] : List (List Int)), 1)) else (if (rd x22 x24) ≥ (x0.length : Int) then (some (([] : List (List Int)), 1)) else (if 0 ≤ (rd x22 x24) then (if (rd x22 x24) < (x0.length : Int) then ((slices_Clone_byte_byte.f (rd_L1 x0 (rd x22 x24))).bind fun t104 => (if x6.length < 5864062014805 then (matrix_Rows.l0 k x0 (x6 ++ [t104]) x22 x23 (wrap64 (x24 + 1))) else (none))) else (none)) else (none)))) else (none)) else (none)) else (some (x6, 0))
end
def matrix_Rows.f (k : Nat) (l0 : List (List Int)) (l1 : List Int) : Option ((List (List Int)) × Int) := (matrix_Check.f k l0).bind fun t101 => (if t101 = 0 then (if (l1.length : Int) = 0 then (matrix_Rows.j0 k l0 l1 true) else (matrix_Rows.j0 k l0 l1 (decide ((l1.length : Int) > 255)))) else (matrix_Rows.j0 k l0 l1 true))
theorem matrix_Rows.mono_l : ∀ k, (∀ y0 y1 y2, LeO (matrix_Rows.j0 k y0 y1 y2) (matrix_Rows.j0 (k + 1) y0 y1 y2)) ∧ (∀ y0 y1 y2 y3 y4, LeO (matrix_Rows.l0 k y0 y1 y2 y3 y4) (matrix_Rows.l0 (k + 1) y0 y1 y2 y3 y4))
 | 0 => ⟨fun _ _ _ r h => by simp [matrix_Rows.j0] at h, fun _ _ _ _ _ r h => by simp [matrix_Rows.l0] at h⟩
 | k + 1 => by
  obtain ⟨ih0, ih1⟩ := matrix_Rows.mono_l k
  refine ⟨?_, ?_⟩
  ·intro y0 y1 y2
   unfold matrix_Rows.j0
   repeat' first
   | (with_reducible exact ih0 _ _ _)
   | (with_reducible exact ih1 _ _ _ _ _)
   | (with_reducible exact matrix_Check.mono _ _)
   | (with_reducible exact LeO.refl _)
   | (with_reducible exact LeO.none _)
   | (with_reducible refine LeO.ite ?_ ?_)
   | (with_reducible refine LeO.bind ?_ (fun _ => ?_))
   | exact ih0 _ _ _
   | exact ih1 _ _ _ _ _
   | exact matrix_Check.mono _ _
   | exact LeO.none _
   | refine LeO.ite ?_ ?_
   | refine LeO.bind ?_ (fun _ => ?_)
  ·intro y0 y1 y2 y3 y4
   unfold matrix_Rows.l0
   repeat' first
   | (with_reducible exact ih0 _ _ _)
   | (with_reducible exact ih1 _ _ _ _ _)
   | (with_reducible exact matrix_Check.mono _ _)
   | (with_reducible exact LeO.refl _)
   | (with_reducible exact LeO.none _)
   | (with_reducible refine LeO.ite ?_ ?_)
   | (with_reducible refine LeO.bind ?_ (fun _ => ?_))
   | exact ih0 _ _ _
   | exact ih1 _ _ _ _ _
   | exact matrix_Check.mono _ _
   | exact LeO.none _
   | refine LeO.ite ?_ ?_
   | refine LeO.bind ?_ (fun _ => ?_)
theorem matrix_Rows.mono : ∀ a0 a1 k, LeO (matrix_Rows.f k a0 a1) (matrix_Rows.f (k + 1) a0 a1) := by
 intro a0 a1 k
 obtain ⟨ih0, ih1⟩ := matrix_Rows.mono_l k
 unfold matrix_Rows.f
 repeat' first
   | (with_reducible exact ih0 _ _ _)
   | (with_reducible exact ih1 _ _ _ _ _)
   | (with_reducible exact matrix_Check.mono _ _)
   | (with_reducible exact LeO.refl _)
   | (with_reducible exact LeO.none _)
   | (with_reducible refine LeO.ite ?_ ?_)
   | (with_reducible refine LeO.bind ?_ (fun _ => ?_))
   | exact ih0 _ _ _
   | exact ih1 _ _ _ _ _
   | exact matrix_Check.mono _ _
   | exact LeO.none _
   | refine LeO.ite ?_ ?_
   | refine LeO.bind ?_ (fun _ => ?_)
set_option maxHeartbeats 8000000 in
set_option maxRecDepth 100000 in
theorem matrix_Rows.calls (k : Nat) (A0 : Option Addr) (c0 : Nat) (l0 : List (List Int)) (A1 : Option Addr) (c1 : Nat) (l1 : List Int) (r1 : List (List Int)) (r2 : Int) (w : World) (hr0 : Kd.C (Kd.slice 5 (Kd.int .u8)) w A0 l0.length l0) (hc0 : l0.length ≤ c0) (hr1 : Kd.C (Kd.int .i64) w A1 l1.length l1) (hc1 : l1.length ≤ c1) (h : matrix_Rows.f k l0 l1 = some (r1, r2)) :
  Calls Tryd.prog 36 #[.slice A0 l0.length c0, .slice A1 l1.length c1] w fun e w' => ∃ v0_ : Value, e = .returned (.tuple #[v0_, .int .i64 r2]) ∧ Kd.S (Kd.slice 5 (Kd.int .u8)) 22 w' w.heap.size (fun _ => True) v0_ r1 ∧ Below w.heap.size w w' := by
 have HR0 := Aside0.mk hr0
 have HC0 := Aside0.mk hc0
 clear hr0 hc0
 have HR1 := Aside0.mk hr1
 have HC1 := Aside0.mk hc1
 clear hr1 hc1
 have HB := Aside0.mk (Below.refl w.heap.size w)
 have H : ((matrix_Check.f k l0).bind fun t101 => (if t101 = 0 then (if (l1.length : Int) = 0 then (matrix_Rows.j0 k l0 l1 true) else (matrix_Rows.j0 k l0 l1 (decide ((l1.length : Int) > 255)))) else (matrix_Rows.j0 k l0 l1 true))) = some (r1, r2) := h
 clear h
 have HC3 := Aside0.mk H
 clear H
 go_enter Tryd.func36, Tryd.ntmps36
 go_upto_region 1 with (fail)
 go_cut [21] (fun v21 wc => ∃ (kq : Nat) (x21_2 : Bool), v21 = .bool x21_2 ∧ Aside0 (matrix_Rows.j0 kq l0 l1 x21_2 = some (r1, r2)) ∧ Aside0 (kq ≤ k) ∧ Aside0 (Below w.heap.size w wc))
 case first =>
  have H := HC3.out
  clear HC3
  replace H := Option.bind_eq_some_iff.mp H
  obtain ⟨t101, A40, H⟩ := H
  replace H : (if t101 = 0 then (if (l1.length : Int) = 0 then (matrix_Rows.j0 k l0 l1 true) else (matrix_Rows.j0 k l0 l1 (decide ((l1.length : Int) > 255)))) else (matrix_Rows.j0 k l0 l1 true)) = some (r1, r2) := H
  have A4 := Aside0.mk A40
  clear A40
  by_cases c5 : t101 = 0
  ·rw [if_pos c5] at H
   have c5b0 : (t101 == 0) = true := beq_iff_eq.mpr c5
   have c5b1 : (t101 != 0) = false := bne_eq_false_iff_eq.mpr c5
   clear c5
   (first | rw [c5b0] | (simp only [i64_w, i32_w]; rw [c5b0]) | skip)
   by_cases c6 : (l1.length : Int) = 0
   ·rw [if_pos c6] at H
    have c6b0 : ((l1.length : Int) == 0) = true := beq_iff_eq.mpr c6
    have c6b1 : ((l1.length : Int) != 0) = false := bne_eq_false_iff_eq.mpr c6
    clear c6
    have H' := Aside0.mk H
    clear H
    go_wp2_with (first | ((with_reducible refine gate_callee (f := 67) rfl ?_); refine goesL_ (some 10) rfl rfl Tryd.func67 (by kernel_rfl) rfl #[.slice A0 l0.length c0] rfl (by (try simp only [List.map_toArray, List.map_cons, List.map_nil]); first | done | rfl | (simp only [List.length_drop, List.length_take]; rfl)) ?_; (with_reducible refine (matrix_Check.calls k _ _ l0 t101 _ ?side1 ?side2 A4.out).mono ?_); (case side1 => repeat (first | exact (Kd.C_below HR0.out HB.out) | (with_reducible refine Kd.C_alloc ?_ _) | (with_reducible refine Kd.C_drewN ?_ _) | (with_reducible refine Kd.C_drew ?_))); (case side2 => exact HC0.out); rintro e w' ⟨rfl, ⟨nd, rfl⟩⟩; refine ⟨_, rfl, ?_⟩))
    go_meet
    case rel => exact ⟨_, (true), (by first | rfl | (simp; done) | (simp [*]; done)), H', ⟨by first | omega | exact Nat.le_refl _⟩, ⟨by repeat (first | (with_reducible first | exact HB.out | apply below_alloc | apply pw_below_drewN | apply below_drew1) | exact HB.out)⟩⟩
   ·rw [if_neg c6] at H
    have c6b0 : ((l1.length : Int) == 0) = false := beq_eq_false_iff_ne.mpr c6
    have c6b1 : ((l1.length : Int) != 0) = true := bne_iff_ne.mpr c6
    have c6b2 : ¬ (l1 = []) := fun h_ => c6 (by rw [h_]; rfl)
    have H' := Aside0.mk H
    clear H
    go_wp2_with (first | ((with_reducible refine gate_callee (f := 67) rfl ?_); refine goesL_ (some 10) rfl rfl Tryd.func67 (by kernel_rfl) rfl #[.slice A0 l0.length c0] rfl (by (try simp only [List.map_toArray, List.map_cons, List.map_nil]); first | done | rfl | (simp only [List.length_drop, List.length_take]; rfl)) ?_; (with_reducible refine (matrix_Check.calls k _ _ l0 t101 _ ?side1 ?side2 A4.out).mono ?_); (case side1 => repeat (first | exact (Kd.C_below HR0.out HB.out) | (with_reducible refine Kd.C_alloc ?_ _) | (with_reducible refine Kd.C_drewN ?_ _) | (with_reducible refine Kd.C_drew ?_))); (case side2 => exact HC0.out); rintro e w' ⟨rfl, ⟨nd, rfl⟩⟩; refine ⟨_, rfl, ?_⟩))
    go_meet
    case rel => exact ⟨_, (decide ((l1.length : Int) > 255)), (by first | rfl | (simp; done) | (simp [*]; done)), H', ⟨by first | omega | exact Nat.le_refl _⟩, ⟨by repeat (first | (with_reducible first | exact HB.out | apply below_alloc | apply pw_below_drewN | apply below_drew1) | exact HB.out)⟩⟩
  ·rw [if_neg c5] at H
   have c5b0 : (t101 == 0) = false := beq_eq_false_iff_ne.mpr c5
   have c5b1 : (t101 != 0) = true := bne_iff_ne.mpr c5
   (first | rw [c5b0] | (simp only [i64_w, i32_w]; rw [c5b0]) | skip)
   have H' := Aside0.mk H
   clear H
   go_wp2_with (first | ((with_reducible refine gate_callee (f := 67) rfl ?_); refine goesL_ (some 10) rfl rfl Tryd.func67 (by kernel_rfl) rfl #[.slice A0 l0.length c0] rfl (by (try simp only [List.map_toArray, List.map_cons, List.map_nil]); first | done | rfl | (simp only [List.length_drop, List.length_take]; rfl)) ?_; (with_reducible refine (matrix_Check.calls k _ _ l0 t101 _ ?side1 ?side2 A4.out).mono ?_); (case side1 => repeat (first | exact (Kd.C_below HR0.out HB.out) | (with_reducible refine Kd.C_alloc ?_ _) | (with_reducible refine Kd.C_drewN ?_ _) | (with_reducible refine Kd.C_drew ?_))); (case side2 => exact HC0.out); rintro e w' ⟨rfl, ⟨nd, rfl⟩⟩; refine ⟨_, rfl, ?_⟩))
   go_meet
   case rel => exact ⟨_, (true), (by first | rfl | (simp; done) | (simp [*]; done)), H', ⟨by first | omega | exact Nat.le_refl _⟩, ⟨by repeat (first | (with_reducible first | exact HB.out | apply below_alloc | apply pw_below_drewN | apply below_drew1) | exact HB.out)⟩⟩
 case rest =>
  clear HC3
  try clear c1
  try clear p2
  try clear c3
  try clear c5
  try clear c5b0
  try clear c5b1
  try clear c6
  try clear c6b0
  try clear c6b1
  try clear c6b2
  obtain ⟨kq, x21_2, rfl, HA, HJ2, HB⟩ := hcut
  cases kq with
  | zero => exact absurd HA.out (by simp [matrix_Rows.j0])
  | succ kj2 =>
   have H := HA.out
   clear HA
   simp only [matrix_Rows.j0] at H
   by_cases c7 : x21_2 = true
   ·subst c7
    have H1 : (some (([] : List (List Int)), 1)) = some (r1, r2) := by rw [if_pos rfl] at H; exact H
    clear H
    have H := H1
    clear H1
    simp only [Option.some.injEq, Prod.mk.injEq] at H
    obtain ⟨rfl, rfl⟩ := H
    go_wp2
    go_ret2
    exact ⟨_, by first | rfl | (simp [errW_none, errW_some] <;> rfl) | (simp [*, errW_none, errW_some] <;> rfl), by first | exact Kd.S_nil _ _ _ _ _ | exact Kd.N_nil _ _ _ _ _ | exact Kd.V_nil _ _ _ _ _ | exact Kd.Q_nil _ _ _ _ _ | exact Kd.R_nil _ _ _ _ _, by repeat (first | (with_reducible first | exact HB.out | apply below_alloc | apply pw_below_drewN | apply below_drew1) | exact HB.out)⟩
   ·replace c7 := Bool.eq_false_iff.mpr c7
    subst c7
    have H1 : (matrix_Rows.l0 kj2 l0 ([] : List (List Int)) l1 (l1.length : Int) 0) = some (r1, r2) := by rw [if_neg (show ¬ (false = true) by decide)] at H; exact H
    clear H
    have H := H1
    clear H1
    have H' := Aside0.mk H
    clear H
    go_wp2
    go_loopg [6, 24] kj2 (fun kq v6 v24 w' => ∃ (x6_2 : List (List Int)) (x24_2 : Int), v24 = .int .i64 x24_2 ∧ Aside0 (matrix_Rows.l0 kq l0 x6_2 l1 (l1.length : Int) x24_2 = some (r1, r2)) ∧ Aside0 (kq ≤ kj2) ∧ Aside0 (Kd.S (Kd.slice 5 (Kd.int .u8)) 22 w' w.heap.size (fun _ => True) v6 x6_2) ∧ Aside0 (Below w.heap.size w w'))
    case atStart => exact ⟨(([] : List (List Int))), (0), (by first | rfl | (simp; done) | (simp [*]; done)), H', ⟨Nat.le_refl _⟩, ⟨by first | exact Kd.S_nil _ _ _ _ _ | exact Kd.N_nil _ _ _ _ _ | exact Kd.V_nil _ _ _ _ _ | exact Kd.Q_nil _ _ _ _ _ | exact Kd.R_nil _ _ _ _ _⟩, ⟨by repeat (first | (with_reducible first | exact HB.out | apply below_alloc | apply pw_below_drewN | apply below_drew1) | exact HB.out)⟩⟩
    case round =>
     clear H'
     try clear c1
     try clear p2
     try clear c3
     try clear c5
     try clear c5b0
     try clear c5b1
     try clear c6
     try clear c6b0
     try clear c6b1
     try clear c6b2
     try clear c7
     try clear p2
     obtain ⟨x6_2, x24_2, rfl, HA, HK2, HO_6, HB⟩ := hrel
     cases gk with
     | zero => exact absurd HA.out (by simp [matrix_Rows.l0])
     | succ k2 =>
      have H := HA.out
      clear HA
      simp only [matrix_Rows.l0] at H
      by_cases c8 : x24_2 < (l1.length : Int)
      ·rw [if_pos c8] at H
       have c8b0 : decide (x24_2 < (l1.length : Int)) = true := decide_eq_true c8
       clear c8
       by_cases c9 : 0 ≤ x24_2
       ·rw [if_pos c9] at H
        have c9b0 : decide (0 ≤ x24_2) = true := decide_eq_true c9
        clear c9
        by_cases c10 : x24_2 < (l1.length : Int)
        ·rw [if_pos c10] at H
         have c10b0 : decide (x24_2 < (l1.length : Int)) = true := decide_eq_true c10
         clear c10
         by_cases c11 : (rd l1 x24_2) < 0
         ·rw [if_pos c11] at H
          have c11b0 : decide ((rd l1 x24_2) < 0) = true := decide_eq_true c11
          clear c11
          simp only [Option.some.injEq, Prod.mk.injEq] at H
          obtain ⟨rfl, rfl⟩ := H
          have p102 : 0 ≤ (x24_2 : Int) := of_decide_eq_true (by first | (with_reducible assumption) | assumption)
          have q102 : x24_2 < (l1.length : Int) := of_decide_eq_true (by first | (with_reducible assumption) | assumption)
          obtain ⟨ad102, e102, hx102_0⟩ := Kd.at_int HR1.out x24_2 p102 q102
          cases e102
          replace hx102_0 := (HB.out.cell (World.block_lt_of_cell? w _ hx102_0)).trans hx102_0
          replace p102 := eq_true p102
          replace q102 := eq_true q102
          go_wp2
          go_ret2
          exact ⟨_, by first | rfl | (simp [errW_none, errW_some] <;> rfl) | (simp [*, errW_none, errW_some] <;> rfl), by first | exact Kd.S_nil _ _ _ _ _ | exact Kd.N_nil _ _ _ _ _ | exact Kd.V_nil _ _ _ _ _ | exact Kd.Q_nil _ _ _ _ _ | exact Kd.R_nil _ _ _ _ _, by repeat (first | (with_reducible first | exact HB.out | apply below_alloc | apply pw_below_drewN | apply below_drew1) | exact HB.out)⟩
         ·rw [if_neg c11] at H
          have c11b0 : decide ((rd l1 x24_2) < 0) = false := decide_eq_false c11
          clear c11
          by_cases c12 : (rd l1 x24_2) ≥ (l0.length : Int)
          ·rw [if_pos c12] at H
           have c12b0 : decide ((l0.length : Int) ≤ (rd l1 x24_2)) = true := decide_eq_true c12
           clear c12
           simp only [Option.some.injEq, Prod.mk.injEq] at H
           obtain ⟨rfl, rfl⟩ := H
           have p102 : 0 ≤ (x24_2 : Int) := of_decide_eq_true (by first | (with_reducible assumption) | assumption)
           have q102 : x24_2 < (l1.length : Int) := of_decide_eq_true (by first | (with_reducible assumption) | assumption)
           obtain ⟨ad102, e102, hx102_0⟩ := Kd.at_int HR1.out x24_2 p102 q102
           cases e102
           replace hx102_0 := (HB.out.cell (World.block_lt_of_cell? w _ hx102_0)).trans hx102_0
           replace p102 := eq_true p102
           replace q102 := eq_true q102
           go_wp2
           go_ret2
           exact ⟨_, by first | rfl | (simp [errW_none, errW_some] <;> rfl) | (simp [*, errW_none, errW_some] <;> rfl), by first | exact Kd.S_nil _ _ _ _ _ | exact Kd.N_nil _ _ _ _ _ | exact Kd.V_nil _ _ _ _ _ | exact Kd.Q_nil _ _ _ _ _ | exact Kd.R_nil _ _ _ _ _, by repeat (first | (with_reducible first | exact HB.out | apply below_alloc | apply pw_below_drewN | apply below_drew1) | exact HB.out)⟩
          ·rw [if_neg c12] at H
           have c12b0 : decide ((l0.length : Int) ≤ (rd l1 x24_2)) = false := decide_eq_false c12
           clear c12
           by_cases c13 : 0 ≤ (rd l1 x24_2)
           ·rw [if_pos c13] at H
            have c13b0 : decide (0 ≤ (rd l1 x24_2)) = true := decide_eq_true c13
            clear c13
            by_cases c14 : (rd l1 x24_2) < (l0.length : Int)
            ·rw [if_pos c14] at H
             have c14b0 : decide ((rd l1 x24_2) < (l0.length : Int)) = true := decide_eq_true c14
             clear c14
             replace H := Option.bind_eq_some_iff.mp H
             obtain ⟨t104, A150, H⟩ := H
             replace H : (if x6_2.length < 5864062014805 then (matrix_Rows.l0 k2 l0 (x6_2 ++ [t104]) l1 (l1.length : Int) (wrap64 (x24_2 + 1))) else (none)) = some (r1, r2) := H
             have A15 := Aside0.mk A150
             clear A150
             by_cases c16 : x6_2.length < 5864062014805
             ·rw [if_pos c16] at H
              have LMc16 := Aside0.mk c16
              clear c16
              obtain ⟨y107, hy107⟩ : ∃ y_ : List (List Int), y_ = (x6_2 ++ [t104]) := ⟨_, rfl⟩
              replace H : (matrix_Rows.l0 k2 l0 y107 l1 (l1.length : Int) (wrap64 (x24_2 + 1))) = some (r1, r2) := by first | (rw [hy107]; with_reducible exact H) | (have H2_ := (Option.bind_some _ _).symm.trans H; rw [hy107]; with_reducible exact H2_) | (have H2_ := (Option.bind_some _ _).symm.trans H; with_reducible exact H2_) | with_reducible exact H | (rw [hy107]; exact H) | exact H
              have Ny107 := Aside0.mk hy107
              clear hy107
              have H' := Aside0.mk H
              clear H
              have p102 : 0 ≤ (x24_2 : Int) := of_decide_eq_true (by first | (with_reducible assumption) | assumption)
              have q102 : x24_2 < (l1.length : Int) := of_decide_eq_true (by first | (with_reducible assumption) | assumption)
              obtain ⟨ad102, e102, hx102_0⟩ := Kd.at_int HR1.out x24_2 p102 q102
              cases e102
              replace hx102_0 := (HB.out.cell (World.block_lt_of_cell? w _ hx102_0)).trans hx102_0
              replace p102 := eq_true p102
              replace q102 := eq_true q102
              have p103 : 0 ≤ ((rd l1 x24_2) : Int) := of_decide_eq_true (by first | (with_reducible assumption) | assumption)
              have q103 : (rd l1 x24_2) < (l0.length : Int) := of_decide_eq_true (by first | (with_reducible assumption) | assumption)
              obtain ⟨ad103, A103_0, c103_0, e103, hx103_0, hl103_0, hi103_0⟩ := at_L1 HR0.out (rd l1 x24_2) p103 q103
              cases e103
              replace hx103_0 := (HB.out.cell (World.block_lt_of_cell? w _ hx103_0)).trans hx103_0
              have HR103_0 := Aside0.mk hi103_0
              have HC103_0 := Aside0.mk hl103_0
              clear hi103_0 hl103_0
              replace p103 := eq_true p103
              replace q103 := eq_true q103
              go_wp2_with (first | ((with_reducible refine gate_callee (f := 68) rfl ?_); refine goesL_ (some 41) rfl rfl Tryd.func68 (by kernel_rfl) rfl #[.slice A103_0 (rd_L1 l0 (rd l1 x24_2)).length c103_0] rfl (by (try simp only [List.map_toArray, List.map_cons, List.map_nil]); first | done | rfl | (simp only [List.length_drop, List.length_take]; rfl)) ?_; (with_reducible refine (slices_Clone_byte_byte.calls _ _ (rd_L1 l0 (rd l1 x24_2)) t104 _ ?side1 ?side2 A15.out).mono ?_); (case side1 => repeat (first | exact (Kd.C_below HR103_0.out HB.out) | (with_reducible refine Kd.C_alloc ?_ _) | (with_reducible refine Kd.C_drewN ?_ _) | (with_reducible refine Kd.C_drew ?_))); (case side2 => exact HC103_0.out); rintro e w17 ⟨v105, rfl, ho0, hb⟩; refine ⟨_, rfl, ?_⟩; have n0_ := Aside0.mk (Kd.S_elder' (by (with_reducible repeat (first | apply Kd.S_alloc | apply Kd.S_drewN | apply Kd.S_drew)); exact HO_6.out) (Kd.R_base ho0) hb); have n1_ := Aside0.mk (Kd.R_lower ho0 (below_size (by repeat (first | (with_reducible first | exact HB.out | apply below_alloc | apply pw_below_drewN | apply below_drew1) | exact HB.out)))); have n2_ := Aside0.mk (below_step (by repeat (first | (with_reducible first | exact HB.out | apply below_alloc | apply pw_below_drewN | apply below_drew1) | exact HB.out)) hb); clear HO_6; clear HB; have HO_6 := n0_; have HO106 := n1_; have HB := n2_; clear n0_ n1_ n2_; (try clear hb); (try clear hb2); (try clear hk); (try clear hi); (try clear ho0); obtain ⟨Ao19, co19, eo19⟩ := Kd.R_slice HO106.out; subst eo19) | ((with_reducible refine gate_builtin (b := .append) (xs := #[.tmp 36, .tmp 42]) rfl ?_); (try (refine gate_guard (by rfl) ?_; dsimp only)); at_builtin; refine Kd.S_append (Kd.slice 5 (Kd.int .u8)) (w0 := w) w.heap.size rfl (.tmp 36) (.tmp 42) 26 22 (.slice none 0 0) 24 rfl Tryd.underlying26 info22 rfl (by decide) (by omega) u6 x6_2 t104 [.slice Ao19 t104.length co19] (fun _ => True) (fun k_ => some k_ = (.slice Ao19 t104.length co19 : Value).ownBlock) rfl rfl ?aP (fun k_ hk_ => ((Kd.R_mono (ok' := fun k_ => ((fun _ => True)) k_ ∧ some k_ ≠ (u6 : Value).ownBlock) (Kd.R_apart' (HO106.out) (Kd.S_typed HO_6.out) (by decide)) (fun k_ hk => ⟨trivial, hk.2⟩))).1 k_ hk_.symm) ?aF ?aO ?aB ?aS ?aL ?_; (case aP => exact Kd.M_row (Kd.R_mono (Kd.R_tight rfl (Kd.R_mono (ok' := fun k_ => ((fun _ => True)) k_ ∧ some k_ ≠ (u6 : Value).ownBlock) (Kd.R_apart' (HO106.out) (Kd.S_typed HO_6.out) (by decide)) (fun k_ hk => ⟨trivial, hk.2⟩))) (fun _ h_ => h_))); (case aB => exact (by repeat (first | (with_reducible first | exact HB.out | apply below_alloc | apply pw_below_drewN | apply below_drew1) | exact HB.out))); (case aF => exact (fun _ _ => trivial)); (case aO => exact (by (with_reducible repeat (first | apply Kd.S_alloc | apply Kd.S_drewN | apply Kd.S_drew)); exact Kd.S_mono HO_6.out (fun k_ hk => ⟨trivial, fun e_ => hk.2 e_⟩))); (case aS => exact (below_size (by repeat (first | (with_reducible first | exact HB.out | apply below_alloc | apply pw_below_drewN | apply below_drew1) | exact HB.out)))); (case aL => have := LMc16.out; omega); intro v108 w18 ho hb hg hat; rw [← Ny107.out] at ho; have n0_ := Aside0.mk (hb); have n1_ := Aside0.mk (ho); clear HB; clear HO_6; clear HO106; have HB := n0_; have HO109 := n1_; clear n0_ n1_; clear ho hb hg hat))
              go_roundg k2
              case measure => have := HJ2.out; have := HK2.out; omega
              case rel => exact ⟨(y107), (wrap64 (x24_2 + 1)), (by first | rfl | (simp; done) | (simp [*]; done)), H', ⟨by have := HJ2.out; have := HK2.out; omega⟩, ⟨by (with_reducible repeat (first | apply Kd.S_alloc | apply Kd.S_drewN | apply Kd.S_drew)); exact HO109.out⟩, ⟨by repeat (first | (with_reducible first | exact HB.out | apply below_alloc | apply pw_below_drewN | apply below_drew1) | exact HB.out)⟩⟩
             ·rw [if_neg c16] at H
              exact absurd H (by simp)
            ·rw [if_neg c14] at H
             exact absurd H (by simp)
           ·rw [if_neg c13] at H
            exact absurd H (by simp)
        ·rw [if_neg c10] at H
         exact absurd H (by simp)
       ·rw [if_neg c9] at H
        exact absurd H (by simp)
      ·rw [if_neg c8] at H
       have c8b0 : decide (x24_2 < (l1.length : Int)) = false := decide_eq_false c8
       clear c8
       simp only [Option.some.injEq, Prod.mk.injEq] at H
       obtain ⟨rfl, rfl⟩ := H
       go_wp2
       go_ret2
       exact ⟨_, by first | rfl | (simp [errW_none, errW_some] <;> rfl) | (simp [*, errW_none, errW_some] <;> rfl), by (with_reducible repeat (first | apply Kd.S_alloc | apply Kd.S_drewN | apply Kd.S_drew)); exact HO_6.out, by repeat (first | (with_reducible first | exact HB.out | apply below_alloc | apply pw_below_drewN | apply below_drew1) | exact HB.out)⟩
end Go.Proofs.YtnfgiamdmfkcjaaDoor.P
namespace Go.Proofs.YtnfgiamdmfkcjaaDoor.Red
open Go.RowKit Go.Proofs.YtnfgiamdmfkcjaaDoorW.PrintWords Go.Proofs.YtnfgiamdmfkcjaaDoor.Leaf Go.Proofs.YtnfgiamdmfkcjaaDoor.Gf Go.Proofs.YtnfgiamdmfkcjaaDoor.H Go.Proofs.YtnfgiamdmfkcjaaDoor.Mx Go.Proofs.YtnfgiamdmfkcjaaDoor.P
set_option linter.unusedVariables false
set_option linter.unusedSimpArgs false
def rowsM (A : Mat) (l : List Int) : Mat := l.map fun i => row A i.toNat
theorem rows_ok (A : Mat) (hr : ∀ i, i < A.length → (row A i).length < 140737488355328) (l : List Int) (hl : l.length ≤ 255) (h : ∀ j, j < l.length → 0 ≤ rd l (j : Int) ∧ rd l (j : Int) < A.length) (d : Nat) : ∀ i : Nat, i + d = l.length →
    Ev (fun k => matrix_Rows.l0 k (oM A) (oM (rowsM A (l.take i))) l (l.length : Int) (i : Int)) (oM (rowsM A l), 0) := by
  induction d with
  | zero =>
    intro i hi
    obtain rfl : i = l.length := by omega
    rw [List.take_length]
    refine Ev.step (f := fun _ => some (oM (rowsM A l), 0)) (fun f => ?_) (Ev.now _)
    simp only [matrix_Rows.l0]
    rw [if_neg (by omega)]
  | succ d ih =>
    intro i hi
    obtain ⟨h1, h2⟩ := h i (by omega)
    refine Ev.step (f := fun k => matrix_Rows.l0 k (oM A) (oM (rowsM A (l.take (i + 1)))) l (l.length : Int) ((i + 1 : Nat) : Int)) (fun f => ?_) (ih (i + 1) (by omega))
    have e1 : rd_L1 (oM A) (rd l (i : Int)) = ofL (row A (rd l (i : Int)).toNat) := map_getD A _
    have e2 : (rowsM A (l.take i)).length = i := by unfold rowsM; rw [List.length_map, List.length_take]; omega
    have e3 : rowsM A (l.take i) ++ [row A (rd l (i : Int)).toNat] = rowsM A (l.take (i + 1)) := by
      unfold rowsM
      rw [List.take_succ_eq_append_getElem (by omega), List.map_append]
      have e4 : rd l (i : Int) = l[i] := by
        unfold rd
        rw [Int.toNat_natCast, List.getD_eq_getElem?_getD, List.getElem?_eq_getElem (by omega)]
        rfl
      rw [e4]
      rfl
    simp only [matrix_Rows.l0, oM_length, e1, slices_Clone_byte_byte.f, ofL_length, e2]
    rw [if_pos (by omega), if_pos (by omega), if_pos (by omega), if_neg (by omega), if_neg (by omega), if_pos (by omega), if_pos (by omega), if_pos (hr _ (by omega)), Option.bind_some, if_pos (by omega), oM_one, oM_append, e3, w64 _ (by omega) (by omega)]
    rfl
theorem rows_bad (A : Mat) (hr : ∀ i, i < A.length → (row A i).length < 140737488355328) (l : List Int) (hl : l.length ≤ 255) (j : Nat) (hj : j < l.length) (hb : rd l (j : Int) < 0 ∨ rd l (j : Int) ≥ A.length) (d : Nat) : ∀ (i : Nat) (X : List (List Int)), i + d = j → X.length = i →
    Ev (fun k => matrix_Rows.l0 k (oM A) X l (l.length : Int) (i : Int)) ([], 1) := by
  induction d with
  | zero =>
    intro i X hi hX
    obtain rfl : i = j := by omega
    refine Ev.step (f := fun _ => some ([], 1)) (fun f => ?_) (Ev.now _)
    simp only [matrix_Rows.l0, oM_length]
    rw [if_pos (by omega), if_pos (by omega), if_pos (by omega)]
    by_cases h1 : rd l (i : Int) < 0
    · rw [if_pos h1]
    · rw [if_neg h1, if_pos (by omega)]
  | succ d ih =>
    intro i X hi hX
    by_cases h1 : rd l (i : Int) < 0
    · refine Ev.step (f := fun _ => some ([], 1)) (fun f => ?_) (Ev.now _)
      simp only [matrix_Rows.l0, oM_length]
      rw [if_pos (by omega), if_pos (by omega), if_pos (by omega), if_pos h1]
    · by_cases h2 : rd l (i : Int) ≥ A.length
      · refine Ev.step (f := fun _ => some ([], 1)) (fun f => ?_) (Ev.now _)
        simp only [matrix_Rows.l0, oM_length]
        rw [if_pos (by omega), if_pos (by omega), if_pos (by omega), if_neg h1, if_pos (by omega)]
      · have e1 : rd_L1 (oM A) (rd l (i : Int)) = ofL (row A (rd l (i : Int)).toNat) := map_getD A _
        refine Ev.step (f := fun k => matrix_Rows.l0 k (oM A) (X ++ [ofL (row A (rd l (i : Int)).toNat)]) l (l.length : Int) ((i + 1 : Nat) : Int)) (fun f => ?_) (ih (i + 1) _ (by omega) (by rw [List.length_append, hX]; rfl))
        simp only [matrix_Rows.l0, oM_length, e1, slices_Clone_byte_byte.f, ofL_length, hX]
        rw [if_pos (by omega), if_pos (by omega), if_pos (by omega), if_neg (by omega), if_neg (by omega), if_pos (by omega), if_pos (by omega), if_pos (hr _ (by omega)), Option.bind_some, if_pos (by omega), w64 _ (by omega) (by omega)]
        rfl
/-- May such rows be had? -/
def rowsB (A : Mat) (l : List Int) : Bool := mayB A && decide (0 < l.length) && decide (l.length ≤ 255) && l.all fun v => decide (0 ≤ v) && decide (v < A.length)
def rowsR (A : Mat) (l : List Int) : List (List Int) × Int := if rowsB A l = true then (oM (rowsM A l), 0) else ([], 1)
theorem rd_mem (l : List Int) (j : Nat) (hj : j < l.length) : rd l (j : Int) ∈ l := by
  unfold rd
  rw [Int.toNat_natCast, List.getD_eq_getElem?_getD, List.getElem?_eq_getElem hj]
  exact List.getElem_mem hj
theorem evRows (A : Mat) (hs : A.length ≤ 9223372036854775807) (l : List Int) : Ev (fun k => matrix_Rows.f k (oM A) l) (rowsR A l) := by
  have j1 : Ev (fun k => matrix_Rows.j0 k (oM A) l true) ([], 1) := Ev.step (f := fun _ => some ([], 1)) (fun k => by simp only [matrix_Rows.j0, if_true]) (Ev.now _)
  unfold matrix_Rows.f rowsR
  refine Ev.bind (evCheck A hs) ?_
  cases h1 : mayB A with
  | false =>
    rw [show rowsB A l = false by unfold rowsB; rw [h1]; rfl]
    simp only [Bool.false_eq_true, if_false, show ((1 : Int) = 0) = False from eq_false (by decide)]
    exact j1
  | true =>
    simp only [if_true]
    by_cases h2 : l.length = 0
    · rw [show rowsB A l = false by unfold rowsB; rw [decide_eq_false (by omega)]; simp]
      simp only [show ((l.length : Int) = 0) = True from eq_true (by omega), if_true, Bool.false_eq_true, if_false]
      exact j1
    · simp only [show ((l.length : Int) = 0) = False from eq_false (by omega), if_false]
      by_cases h3 : l.length > 255
      · rw [show rowsB A l = false by unfold rowsB; rw [decide_eq_false (show ¬ l.length ≤ 255 by omega)]; simp]
        simp only [show decide ((l.length : Int) > 255) = true from decide_eq_true (by omega), Bool.false_eq_true, if_false]
        exact j1
      · simp only [show decide ((l.length : Int) > 255) = false from decide_eq_false (by omega)]
        obtain ⟨hA, a1, a2, a3, a4⟩ := mayB_reg h1
        have hr : ∀ i, i < A.length → (row A i).length < 140737488355328 := fun i hi => by rw [hA.2 i hi]; omega
        refine Ev.step (f := fun k => matrix_Rows.l0 k (oM A) (oM (rowsM A (l.take 0))) l (l.length : Int) ((0 : Nat) : Int)) (fun k => by simp only [matrix_Rows.j0, Bool.false_eq_true, if_false]; rfl) ?_
        cases h4 : (l.all fun v => decide (0 ≤ v) && decide (v < A.length)) with
        | true =>
          rw [show rowsB A l = true by unfold rowsB; rw [h1, h4, decide_eq_true (show 0 < l.length by omega), decide_eq_true (show l.length ≤ 255 by omega)]; rfl, if_pos rfl]
          refine rows_ok A hr l (by omega) (fun j hj => ?_) l.length 0 (by omega)
          have := List.all_eq_true.1 h4 _ (rd_mem l j hj)
          simpa using this
        | false =>
          rw [show rowsB A l = false by unfold rowsB; rw [h4]; simp]
          simp only [Bool.false_eq_true, if_false]
          obtain ⟨v, hv, hb⟩ := List.all_eq_false.1 h4
          obtain ⟨j, hj, e⟩ := List.mem_iff_getElem.1 hv
          have e2 : rd l (j : Int) = v := by
            unfold rd
            rw [Int.toNat_natCast, List.getD_eq_getElem?_getD, List.getElem?_eq_getElem hj]
            exact e
          refine rows_bad A hr l (by omega) j hj ?_ j 0 _ (by omega) rfl
          rw [e2]
          have hb' : ¬ (0 ≤ v ∧ v < A.length) := by simpa using hb
          omega
end Go.Proofs.YtnfgiamdmfkcjaaDoor.Red
namespace Go.Proofs.YtnfgiamdmfkcjaaDoor.H
open Go.RowKit Go.Proofs.YtnfgiamdmfkcjaaDoorW.PrintWords Go.Proofs.YtnfgiamdmfkcjaaDoorW.PrintLast Go.Proofs.YtnfgiamdmfkcjaaDoorW.PrintMore Go.Proofs.YtnfgiamdmfkcjaaDoor.Leaf Go.Proofs.YtnfgiamdmfkcjaaDoor.Gf Go.Proofs.YtnfgiamdmfkcjaaDoor.Mx Go.Proofs.YtnfgiamdmfkcjaaDoor.P Go.Proofs.YtnfgiamdmfkcjaaDoor.Red
set_option linter.unusedVariables false
theorem rows_calls (A0 : Option Addr) (c0 : Nat) (l0 : List (List Int)) (A1 : Option Addr) (c1 : Nat) (l1 : List Int) (r1 : List (List Int)) (r2 : Int) (w : World) (hr0 : Kd.C (Kd.slice 5 (Kd.int .u8)) w A0 l0.length l0) (hc0 : l0.length ≤ c0) (hr1 : Kd.C (Kd.int .i64) w A1 l1.length l1) (hc1 : l1.length ≤ c1) (h : Ev (fun k => matrix_Rows.f k l0 l1) (r1, r2)) :
    Calls Tryd.prog 36 #[.slice A0 l0.length c0, .slice A1 l1.length c1] w fun e w' => ∃ v0_ : Value, e = .returned (.tuple #[v0_, .int .i64 r2]) ∧ Kd.S (Kd.slice 5 (Kd.int .u8)) 22 w' w.heap.size (fun _ => True) v0_ r1 ∧ Below w.heap.size w w' := by
  obtain ⟨k, h⟩ := h.rounds
  exact matrix_Rows.calls k A0 c0 l0 A1 c1 l1 r1 r2 w hr0 hc0 hr1 hc1 h
/-- Rows that came in, read in what made them a row of the call's own: read now. -/
theorem fixed_C {w wr : World} {A : Option Addr} {n : Nat} {X : List (List Int)} (hb : Below w.heap.size w wr) (h : (Kd.fixed (Kd.slice 5 (Kd.int .u8)) w).C wr A n X) : Kd.C (Kd.slice 5 (Kd.int .u8)) wr A n X :=
  ReadsRow.imp_ (R' := (Kd.slice 5 (Kd.int .u8)).K wr) h (Below.refl _ _) (fun _ _ hp => (Kd.slice 5 (Kd.int .u8)).K_below hb hp)
theorem fixed_ne (w : World) (t : Nat) (h : 22 ≠ t) : ∀ q, q ∈ 22 :: (Kd.fixed (Kd.slice 5 (Kd.int .u8)) w).E → q ≠ t := by
  intro q hq
  rcases List.mem_cons.1 hq with rfl | hq
  · exact h
  · exact absurd (show q ∈ ([] : List Nat) from hq) List.not_mem_nil
end Go.Proofs.YtnfgiamdmfkcjaaDoor.H
namespace Go.Proofs.YtnfgiamdmfkcjaaDoor.H
open Go.RowKit Go.Proofs.YtnfgiamdmfkcjaaDoorW.PrintWords Go.Proofs.YtnfgiamdmfkcjaaDoor.Leaf Go.Proofs.YtnfgiamdmfkcjaaDoor.Gf Go.Proofs.YtnfgiamdmfkcjaaDoor.Red
set_option linter.unusedVariables false
/-- Two matrices of the call's own, apart. -/
def St (w : World) (base ga ca gb cb n m p : Nat) (A Z : Mat) : Prop :=
  ∃ ida capa idb capb, Mt w base ga ca ida capa (A.map ofL) ∧ Mt w base gb cb idb capb (Z.map ofL) ∧ (∀ i j, i < n → j < n → ida i ≠ idb j) ∧ ga ≠ gb ∧ Reg A n m ∧ Reg Z n p
section
variable {w w1 : World} {base ga ca gb cb n m p : Nat} {A Z : Mat}
theorem St.symm (h : St w base ga ca gb cb n m p A Z) : St w base gb cb ga ca n p m Z A := by
  obtain ⟨a, b, c, d, h1, h2, h3, h4, h5, h6⟩ := h
  exact ⟨c, d, a, b, h2, h1, fun i j hi hj e => h3 j i hj hi e.symm, h4.symm, h6, h5⟩
theorem St.below (h : St w base ga ca gb cb n m p A Z) (hb : Below w.heap.size w w1) : St w1 base ga ca gb cb n m p A Z := by
  obtain ⟨a, b, c, d, h1, h2, h3⟩ := h
  exact ⟨a, b, c, d, h1.below hb, h2.below hb, h3⟩
theorem St.reg (h : St w base ga ca gb cb n m p A Z) : Reg A n m ∧ Reg Z n p ∧ base ≤ ga ∧ base ≤ gb ∧ ga < w.heap.size ∧ gb < w.heap.size := by
  obtain ⟨a, b, c, d, h1, h2, h3, h4, h5, h6⟩ := h
  exact ⟨h5, h6, h1.gbase, h2.gbase, h1.glt, h2.glt⟩
theorem St.read (h : St w base ga ca gb cb n m p A Z) (i : Nat) (hi : i < n) :
    ∃ b c, w.cell? ⟨ga, i, none⟩ = some (.slice (some ⟨b, 0, none⟩) m c) ∧ w.frozen? ⟨ga, i, none⟩ = false ∧ Rw w base b c (ofL (row A i)) := by
  obtain ⟨a, b, c, d, h1, h2, h3, h4, h5, h6⟩ := h
  have hi' : i < (A.map ofL).length := by rw [List.length_map, h5.1]; exact hi
  have hat := h1.at_ i hi'
  have hr := h1.rows i hi'
  rw [map_getD] at hr
  refine ⟨a i, b i, ?_, hat.2, hr⟩
  rw [hat.1]
  unfold sl
  rw [map_getD, ofL_length, h5.2 i hi]
theorem St.swapA (h : St w base ga ca gb cb n m p A Z) {i j : Nat} (hi : i < n) (hj : j < n) {u v : Value} (hu : w.cell? ⟨ga, i, none⟩ = some u) (hv : w.cell? ⟨ga, j, none⟩ = some v) :
    St ((w.setCell ⟨ga, i, none⟩ v).setCell ⟨ga, j, none⟩ u) base ga ca gb cb n m p (swapM A i j) Z := by
  obtain ⟨a, b, c, d, h1, h2, h3, h4, h5, h6⟩ := h
  have hi' : i < (A.map ofL).length := by rw [List.length_map, h5.1]; exact hi
  have hj' : j < (A.map ofL).length := by rw [List.length_map, h5.1]; exact hj
  have e1 := (h1.at_ i hi').1
  have e2 := (h1.at_ j hj').1
  rw [hu] at e1
  rw [hv] at e2
  obtain rfl := Option.some.inj e1
  obtain rfl := Option.some.inj e2
  have hs := h1.swap i j hi' hj'
  rw [map_swap] at hs
  have hz : ∀ (W : World) (q : Nat) (x : Value), Mt W base gb cb c d (Z.map ofL) → (∃ cells, W.heap[ga]? = some (.cells cells 22 (0, 0))) → Mt (W.setCell ⟨ga, q, none⟩ x) base gb cb c d (Z.map ofL) := by
    intro W q x hW ⟨cells, hc⟩
    refine hW.far h4 (fun k hk e => ?_) x
    obtain ⟨cs, hcs⟩ := (hW.rows k hk).typed
    have e' : ga = c k := e
    rw [← e', hc] at hcs
    simp at hcs
  have ht2 : ∃ cells, (w.setCell ⟨ga, i, none⟩ (sl a b (A.map ofL) j)).heap[ga]? = some (.cells cells 22 (0, 0)) := own_typed (h1.outer.stored i _).1 ga rfl
  refine ⟨tw a i j, tw b i j, c, d, hs, hz _ _ _ (hz _ _ _ h2 h1.typed) ht2, fun x y hx hy => ?_, h4, h5.swap hi hj, h6⟩
  unfold tw
  by_cases e : x = j
  · rw [if_pos e]; exact h3 i y hi hy
  · rw [if_neg e]
    by_cases e2 : x = i
    · rw [if_pos e2]; exact h3 j y hj hy
    · rw [if_neg e2]; exact h3 x y hx hy
theorem St.putA (h : St w base ga ca gb cb n m p A Z) {i : Nat} (hi : i < n) {b c : Nat} (hb : w.cell? ⟨ga, i, none⟩ = some (.slice (some ⟨b, 0, none⟩) m c)) (j : Nat) (x : B) :
    St (w.setCell ⟨b, j, none⟩ (.int .u8 (ofB x))) base ga ca gb cb n m p (A.set i ((row A i).set j x)) Z ∧ base ≤ b ∧ b ≠ ga ∧ b ≠ gb ∧ b < w.heap.size := by
  obtain ⟨a, b', c', d, h1, h2, h3, h4, h5, h6⟩ := h
  have hi' : i < (A.map ofL).length := by rw [List.length_map, h5.1]; exact hi
  have e1 := (h1.at_ i hi').1
  rw [hb] at e1
  have e2 : b = a i := by
    have := Option.some.inj e1
    unfold sl at this
    injection this with t1 t2 t3
    injection t1 with t1
    injection t1 with t1
  subst e2
  have hp := h1.put i hi' j (ofB x)
  have hbg := h2.ne (h1.rows i hi')
  rw [map_getD, ofL_set, map_set] at hp
  refine ⟨⟨a, b', c', d, hp, h2.far hbg (fun k hk => h3 i k hi (by rw [List.length_map, h6.1] at hk; exact hk)) _, h3, h4, h5.set hi (by rw [List.length_set]; exact h5.2 i hi), h6⟩, (h1.rows i hi').base_, h1.ne (h1.rows i hi'), hbg, (h1.rows i hi').lt⟩
theorem St.rowA (h : St w base ga ca gb cb n m p A Z) {i : Nat} (hi : i < n) (hbl : Below w.heap.size w w1) {b c : Nat} {r : List B} (hr : Rw w1 base b c (ofL r)) (hn : w.heap.size ≤ b) (hl : r.length = m) :
    St (w1.setCell ⟨ga, i, none⟩ (.slice (some ⟨b, 0, none⟩) m c)) base ga ca gb cb n m p (A.set i r) Z := by
  obtain ⟨a, b', c', d, h1, h2, h3, h4, h5, h6⟩ := h
  have hi' : i < (A.map ofL).length := by rw [List.length_map, h5.1]; exact hi
  have h1' := h1.below hbl
  have h2' := h2.below hbl
  have hs := h1'.setRow i hi' hr (fun k hk _ => by have := (h1.rows k hk).lt; omega)
  rw [map_set, ofL_length, hl] at hs
  refine ⟨up a i b, up b' i c, c', d, hs, h2'.far h4 (fun k hk e => ?_) _, fun x y hx hy => ?_, h4, h5.set hi hl, h6⟩
  · obtain ⟨cs, hcs⟩ := (h2'.rows k hk).typed
    obtain ⟨cs', hcs'⟩ := h1'.typed
    have e' : ga = c' k := e
    rw [← e', hcs'] at hcs
    simp at hcs
  · unfold up
    by_cases e : x = i
    · rw [if_pos e]
      have := (h2.rows y (by rw [List.length_map, h6.1]; exact hy)).lt
      omega
    · rw [if_neg e]; exact h3 x y hx hy
theorem St.cap (h : St w base ga ca gb cb n m p A Z) : n ≤ ca ∧ n ≤ cb := by
  obtain ⟨a, b, c, d, h1, h2, h3, h4, h5, h6⟩ := h
  have e1 := own_le h1.outer
  have e2 := own_le h2.outer
  rw [List.length_map] at e1 e2
  exact ⟨by have := h5.1; omega, by have := h6.1; omega⟩
theorem info22h : (Tryd.prog.info? 22).map (fun i => (i.zero, i.size, i.bytes)) = some (some (.slice none 0 0), 1, 24) := by kernel_rfl
theorem cut_run (g n c d : Nat) (hd : d < n) (hc : n ≤ c) : ∀ W : World, (Instr.slice 26 (.slice (some ⟨g, 0, none⟩) n c) (some (.int .i64 (d : Int))) none none).run Tryd.prog W = .ok (.slice (some ⟨g, d, none⟩) (n - d) (c - d)) W := by
  intro W
  obtain ⟨i0, hi, hz⟩ := Option.map_eq_some_iff.1 info22h
  simp only [Prod.mk.injEq] at hz
  have hel : Tryd.prog.elem 26 = 22 := by simp [Program.elem, Tryd.underlying26]
  have hu : Tryd.prog.underlying 26 = some (.slice (Tryd.prog.elem 26)) := by rw [hel]; exact Tryd.underlying26
  rw [run_slice_l W 26 _ n c hu .i64 (d : Int) (by omega) (by omega), hel]
  have hcd : c ≠ d := by omega
  simp [sizeOf, typeInfo, hi, hz.2.1, sliced, Result.andThen, hcd, Addr.add]
  exact fun e => e.symm
theorem idx_calls (h : St w base ga ca gb cb n m p A Z) {d c : Nat} (hd : d < n) (hn : n ≤ 255) (hc : c < m) {q : Addr} {W : World} (hq : W.cell? q = some (.int .i64 (c : Int))) (hb : Below w.heap.size w W) :
    Calls Tryd.prog 91 #[.slice (some ⟨ga, d, none⟩) (n - d) (ca - d), .func (.func 92) #[] #[.pointer (some q)]] W fun e w' => e = .returned (.int .i64 (pivot A d c)) ∧ Below W.heap.size W w' := by
  have h' := h.below hb
  obtain ⟨a, b, c', d', h1, h2, h3, h4, h5, h6⟩ := h'
  have eg := enters_id Tryd.func92 (by kernel_rfl) rfl
  have hat : ∀ j, j < n - d → d + j < (A.map ofL).length := fun j hj => by rw [List.length_map, h5.1]; omega
  unfold pivot
  rw [h5.1]
  refine indexFunc_calls (fun j => rd (ofL (row A (d + j))) (c : Int) != 0) 92 #[.pointer (some q)] eg (some ⟨ga, d, none⟩) (n - d) (ca - d) (fun j => sl a b (A.map ofL) (d + j)) W (by omega) (fun _ => ⟨⟨ga, d, none⟩, rfl, fun j hj => ?_⟩) (fun j hj => rfl) (fun W2 j hj hb2 => ?_)
  · have e : (⟨ga, d, none⟩ : Addr).add j = ⟨ga, d + j, none⟩ := by simp [Addr.add]
    rw [e]
    exact (h1.at_ (d + j) (hat j hj)).1
  · have hr := ((h1.below hb2).rows (d + j) (hat j hj))
    rw [map_getD] at hr
    show Calls Tryd.prog 92 #[sl a b (A.map ofL) (d + j), .pointer (some q)] W2 _
    unfold sl
    rw [map_getD]
    exact (pred_calls (a (d + j)) (b (d + j)) (ofL (row A (d + j))) c q W2 base hr (by rw [ofL_length, h5.2 _ (by omega)]; exact hc) (pw_cell_below hb2 hq)).mono fun e w' ⟨he, hb3⟩ => ⟨he, below_step hb2 hb3⟩
/-- The variable that the closure looks at. -/
def Col (w : World) (q kk : Nat) : Prop := (∃ cs, w.heap[q]? = some (.cells cs 3 (0, 0))) ∧ w.cell? ⟨q, 0, none⟩ = some (.int .i64 (kk : Int))
theorem Col.below {q kk : Nat} (h : Col w q kk) (hb : Below w.heap.size w w1) : Col w1 q kk := by
  obtain ⟨⟨cs, hc⟩, h2⟩ := h
  exact ⟨⟨cs, (hb.block q (blk_lt hc)).trans hc⟩, pw_cell_below hb h2⟩
theorem Col.far {q kk b j t : Nat} {cells : Array Value} (h : Col w q kk) (hb : w.heap[b]? = some (.cells cells t (0, 0))) (ht : t ≠ 3) (u : Value) : Col (w.setCell ⟨b, j, none⟩ u) q kk := by
  obtain ⟨⟨cs, hc⟩, h2⟩ := h
  have hne : q ≠ b := by
    rintro rfl
    rw [hc] at hb
    simp at hb
    exact ht hb.2.symm
  have hh := Below.heap_setCell w ⟨b, j, none⟩ u q hne
  exact ⟨⟨cs, hh.trans hc⟩, (World.cell?_of_block (w := w) hh).trans h2⟩
theorem St.types (h : St w base ga ca gb cb n m p A Z) : (∃ cells, w.heap[ga]? = some (.cells cells 22 (0, 0))) ∧ ∃ cells, w.heap[gb]? = some (.cells cells 22 (0, 0)) := by
  obtain ⟨a, b, c, d, h1, h2, h3⟩ := h
  exact ⟨h1.typed, h2.typed⟩
theorem St.drew (h : St w base ga ca gb cb n m p A Z) : St w.drew base ga ca gb cb n m p A Z := h.below (below_drew (Below.refl _ _))
end
end Go.Proofs.YtnfgiamdmfkcjaaDoor.H
namespace Go.Proofs.YtnfgiamdmfkcjaaDoor.H
open Go.RowKit Go.Proofs.YtnfgiamdmfkcjaaDoorW.PrintWords Go.Proofs.YtnfgiamdmfkcjaaDoor.Leaf Go.Proofs.YtnfgiamdmfkcjaaDoor.Gf Go.Proofs.YtnfgiamdmfkcjaaDoor.Red
set_option linter.unusedVariables false
theorem typed_set {w : World} {b t : Nat} (h : ∃ cs, w.heap[b]? = some (.cells cs t (0, 0))) (p : Addr) (u : Value) : ∃ cs, (w.setCell p u).heap[b]? = some (.cells cs t (0, 0)) := by
  obtain ⟨cs, hc⟩ := h
  by_cases e : b = p.block
  · subst e
    simp only [World.setCell, Array.getElem?_modify, if_true, hc]
    exact ⟨_, rfl⟩
  · exact ⟨cs, (Below.heap_setCell w p u b e).trans hc⟩
theorem cell_far {w : World} {p q : Addr} {v : Value} (h : w.cell? q = some v) (hne : q.block ≠ p.block) (u : Value) : (w.setCell p u).cell? q = some v :=
  (World.cell?_of_block (w := w) (Below.heap_setCell w p u q.block hne)).trans h
section
variable {w0 w w1 : World} {base ga ca gb cb n m p q kk dd : Nat} {A Z : Mat}
theorem Col.drew (h : Col w q kk) : Col w.drew q kk := h.below (below_drew (Below.refl _ _))
theorem St.exch (h : St w base ga ca gb cb n m p A Z) (hB : Below base w0 w) (hC : Col w q kk) {i j : Nat} (hi : i < n) (hj : j < n) {u v : Value} (hu : w.cell? ⟨ga, i, none⟩ = some u) (hv : w.cell? ⟨ga, j, none⟩ = some v) :
    St ((w.setCell ⟨ga, i, none⟩ v).setCell ⟨ga, j, none⟩ u).drew base ga ca gb cb n m p (swapM A i j) Z ∧ Below base w0 ((w.setCell ⟨ga, i, none⟩ v).setCell ⟨ga, j, none⟩ u).drew ∧ Col ((w.setCell ⟨ga, i, none⟩ v).setCell ⟨ga, j, none⟩ u).drew q kk := by
  obtain ⟨_, _, hg, _, _, _⟩ := h.reg
  obtain ⟨cs, hc⟩ := h.types.1
  obtain ⟨cs', hc'⟩ := typed_set h.types.1 ⟨ga, i, none⟩ v
  exact ⟨(h.swapA hi hj hu hv).drew, below_drew ((hB.setCell hg _).setCell hg _), ((hC.far hc (by decide) _).far hc' (by decide) _).drew⟩
/-- Behind the exchange: the two rows at dd are known by their blocks. -/
structure Sc (W w0 : World) (base ga ca gb cb n m p : Nat) (A Z : Mat) (q kk dd bA cA bZ cZ : Nat) : Prop where
  st : St W base ga ca gb cb n m p A Z
  bl : Below base w0 W
  col : Col W q kk
  ra : W.cell? ⟨ga, dd, none⟩ = some (.slice (some ⟨bA, 0, none⟩) m cA)
  rz : W.cell? ⟨gb, dd, none⟩ = some (.slice (some ⟨bZ, 0, none⟩) p cZ)
variable {bA cA bZ cZ : Nat}
theorem Sc.symm (h : Sc w w0 base ga ca gb cb n m p A Z q kk dd bA cA bZ cZ) : Sc w w0 base gb cb ga ca n p m Z A q kk dd bZ cZ bA cA := ⟨h.st.symm, h.bl, h.col, h.rz, h.ra⟩
theorem Sc.below (h : Sc w w0 base ga ca gb cb n m p A Z q kk dd bA cA bZ cZ) (hs : base ≤ w.heap.size) (hb : Below w.heap.size w w1) : Sc w1 w0 base ga ca gb cb n m p A Z q kk dd bA cA bZ cZ :=
  ⟨h.st.below hb, below_then h.bl hs hb, h.col.below hb, pw_cell_below hb h.ra, pw_cell_below hb h.rz⟩
theorem Sc.rw_ (h : Sc w w0 base ga ca gb cb n m p A Z q kk dd bA cA bZ cZ) (hd : dd < n) : Rw w base bA cA (ofL (row A dd)) := by
  obtain ⟨b, c, h1, _, h2⟩ := h.st.read dd hd
  rw [h.ra] at h1
  have := Option.some.inj h1
  injection this with t1 t2 t3
  injection t1 with t1
  injection t1 with t1
  subst t1 t3
  exact h2
theorem Sc.size (h : Sc w w0 base ga ca gb cb n m p A Z q kk dd bA cA bZ cZ) : base ≤ w.heap.size := by
  obtain ⟨_, _, h1, _, h2, _⟩ := h.st.reg
  omega
theorem Sc.put (h : Sc w w0 base ga ca gb cb n m p A Z q kk dd bA cA bZ cZ) (hd : dd < n) (j : Nat) (x : B) :
    Sc (w.setCell ⟨bA, j, none⟩ (.int .u8 (ofB x))) w0 base ga ca gb cb n m p (A.set dd ((row A dd).set j x)) Z q kk dd bA cA bZ cZ := by
  obtain ⟨h1, h2, h3, h4, h5⟩ := h.st.putA hd h.ra j x
  obtain ⟨cs, hc⟩ := (h.rw_ hd).typed
  exact ⟨h1, h.bl.setCell h2 _, h.col.far hc (by decide) _, cell_far h.ra (Ne.symm h3) _, cell_far h.rz (Ne.symm h4) _⟩
/-- The short list of the two rows. -/
def Pr (w : World) (g : Nat) (v : Nat → Value) : Prop := (∃ cs, w.heap[g]? = some (.cells cs 22 (0, 0))) ∧ ∀ i, i < 2 → w.cell? ⟨g, i, none⟩ = some (v i)
theorem Pr.below {g : Nat} {v : Nat → Value} (h : Pr w g v) (hb : Below w.heap.size w w1) : Pr w1 g v := by
  obtain ⟨⟨cs, hc⟩, h2⟩ := h
  exact ⟨⟨cs, (hb.block g (blk_lt hc)).trans hc⟩, fun i hi => pw_cell_below hb (h2 i hi)⟩
theorem Pr.put {g b t j : Nat} {v : Nat → Value} {cells : Array Value} (h : Pr w g v) (hb : w.heap[b]? = some (.cells cells t (0, 0))) (ht : t ≠ 22) (u : Value) : Pr (w.setCell ⟨b, j, none⟩ u) g v := by
  obtain ⟨⟨cs, hc⟩, h2⟩ := h
  have hne : g ≠ b := by
    rintro rfl
    rw [hc] at hb
    simp at hb
    exact ht hb.2.symm
  exact ⟨typed_set ⟨cs, hc⟩ _ _, fun i hi => cell_far (h2 i hi) hne _⟩
/-- Rows exchanged for new ones: the elimination's store. -/
theorem St.sum (h : St w base ga ca gb cb n m p A Z) (hB : Below base w0 w) (hC : Col w q kk) (hs : base ≤ w.heap.size) (hbl : Below w.heap.size w w1) {i : Nat} (hi : i < n) {v : Value} {r : List B} (hr : Kd.R (Kd.int .u8) 5 w1 w.heap.size (fun _ => True) v (ofL r)) (hl : r.length = m) (hm : 0 < m) :
    ∃ b c, v = .slice (some ⟨b, 0, none⟩) m c ∧ St (w1.setCell ⟨ga, i, none⟩ (.slice (some ⟨b, 0, none⟩) m c)) base ga ca gb cb n m p (A.set i r) Z ∧ Below base w0 (w1.setCell ⟨ga, i, none⟩ (.slice (some ⟨b, 0, none⟩) m c)) ∧ Col (w1.setCell ⟨ga, i, none⟩ (.slice (some ⟨b, 0, none⟩) m c)) q kk ∧
      w1.frozen? ⟨ga, i, none⟩ = false ∧ ∃ u, w1.cell? ⟨ga, i, none⟩ = some u := by
  obtain ⟨b, c, e, hR⟩ := Rw.of_R hr (by rw [ofL_length, hl]; exact hm)
  rw [ofL_length, hl] at e
  have hS1 := h.below hbl
  obtain ⟨_, _, hg, _⟩ := hS1.reg
  obtain ⟨cs, hc⟩ := hS1.types.1
  obtain ⟨b', c', h1, h2, _⟩ := hS1.read i hi
  have hR' : Rw w1 base b c (ofL r) := own_weaken hR hs
  exact ⟨b, c, e, h.rowA hi hbl hR' hR.base_ hl, (below_then hB hs hbl).setCell hg _, (hC.below hbl).far hc (by decide) _, h2, _, h1⟩
end
theorem set_self (A : Mat) (i : Nat) (hi : i < A.length) : A.set i (row A i) = A := by
  unfold row
  rw [List.getD_eq_getElem?_getD, List.getElem?_eq_getElem hi]
  simp
theorem set_set' (A : Mat) (i : Nat) (r s : List B) : (A.set i r).set i s = A.set i s := by rw [List.set_set]
theorem row_set_self (A : Mat) (i : Nat) (r : List B) (hi : i < A.length) : row (A.set i r) i = r := by rw [row_set _ _ _ _ hi, if_pos rfl]
def vv (u v : Value) (i : Nat) : Value := if i = 0 then u else v
theorem Sc.start {w0 w : World} {base ga ca gb cb n m p q kk dd bA cA bZ cZ : Nat} {A Z : Mat} (h : Sc w w0 base ga ca gb cb n m p A Z q kk dd bA cA bZ cZ) :
    Aside0 (Sc (w.alloc (.cells #[.slice (some ⟨bA, 0, none⟩) m cA, .slice (some ⟨bZ, 0, none⟩) p cZ] 22 (0, 0))).drew w0 base ga ca gb cb n m p A Z q kk dd bA cA bZ cZ) ∧ Aside0 (Pr (w.alloc (.cells #[.slice (some ⟨bA, 0, none⟩) m cA, .slice (some ⟨bZ, 0, none⟩) p cZ] 22 (0, 0))).drew w.heap.size (vv (.slice (some ⟨bA, 0, none⟩) m cA) (.slice (some ⟨bZ, 0, none⟩) p cZ))) := by
  refine ⟨⟨h.below h.size (below_drew ((Below.refl _ _).alloc (Nat.le_refl _) _))⟩, ⟨⟨_, heap_alloc_last w _⟩, fun i hi => ?_⟩⟩
  show (w.alloc _).cell? _ = _
  rw [cell_of_row _ _ i _ 22 (0, 0) (heap_alloc_new w _)]
  rcases (by omega : i = 0 ∨ i = 1) with rfl | rfl <;> rfl
/-- One of the two rows, whichever. -/
theorem Sc.pick {w0 w : World} {base ga ca gb cb n m p q kk dd bA cA bZ cZ : Nat} {A Z A2 Z2 : Mat} {iv : B} (hd : dd < n) (hm : 0 < m) (hp : 0 < p) (hA2 : A2 = A.set dd (scale iv (row A dd))) (hZ2 : Z2 = Z.set dd (scale iv (row Z dd))) (i : Nat) (hi : i < 2)
    (h : Sc w w0 base ga ca gb cb n m p (if 1 ≤ i then A2 else A) (if 2 ≤ i then Z2 else Z) q kk dd bA cA bZ cZ) :
    ∃ gX cX gY cY mX mY X Y bX kX bY kY, vv (.slice (some ⟨bA, 0, none⟩) m cA) (.slice (some ⟨bZ, 0, none⟩) p cZ) i = .slice (some ⟨bX, 0, none⟩) mX kX ∧ 0 < mX ∧ Aside0 (Sc w w0 base gX cX gY cY n mX mY X Y q kk dd bX kX bY kY) ∧
      Aside0 (∀ W, Sc W w0 base gX cX gY cY n mX mY (X.set dd (scale iv (row X dd))) Y q kk dd bX kX bY kY → Sc W w0 base ga ca gb cb n m p (if 1 ≤ i + 1 then A2 else A) (if 2 ≤ i + 1 then Z2 else Z) q kk dd bA cA bZ cZ) := by
  rcases (by omega : i = 0 ∨ i = 1) with rfl | rfl
  · refine ⟨ga, ca, gb, cb, m, p, A, Z, bA, cA, bZ, cZ, rfl, hm, ⟨by simpa using h⟩, ⟨fun W hW => ?_⟩⟩
    rw [← hA2] at hW
    simpa using hW
  · refine ⟨gb, cb, ga, ca, p, m, Z, A2, bZ, cZ, bA, cA, rfl, hp, ⟨by simpa using h.symm⟩, ⟨fun W hW => ?_⟩⟩
    rw [← hZ2] at hW
    simpa using hW.symm
theorem St.addm {w0 W : World} {base ga ca gb cb n m p q kk : Nat} {A Z : Mat} (h : St W base ga ca gb cb n m p A Z) (hB : Below base w0 W) (hC : Col W q kk) {i d : Nat} (hi : i < n) (hd : d < n) {bi ci bd cd : Nat} (hci : W.cell? ⟨ga, i, none⟩ = some (.slice (some ⟨bi, 0, none⟩) m ci)) (hcd : W.cell? ⟨ga, d, none⟩ = some (.slice (some ⟨bd, 0, none⟩) m cd)) (hm : 0 < m) (hm2 : m ≤ 255) (x : B) :
    Calls Tryd.prog 71 #[.slice (some ⟨bi, 0, none⟩) m ci, .slice (some ⟨bd, 0, none⟩) m cd, .int .u8 (ofB x)] W fun e w' => ∃ b c, e = .returned (.tuple #[.slice (some ⟨b, 0, none⟩) m c, .bool true]) ∧ w'.frozen? ⟨ga, i, none⟩ = false ∧ (∃ u, w'.cell? ⟨ga, i, none⟩ = some u) ∧
      Aside0 (St (w'.setCell ⟨ga, i, none⟩ (.slice (some ⟨b, 0, none⟩) m c)) base ga ca gb cb n m p (A.set i (am (row A i) (row A d) x (row A i).length)) Z) ∧ Aside0 (Below base w0 (w'.setCell ⟨ga, i, none⟩ (.slice (some ⟨b, 0, none⟩) m c))) ∧ Aside0 (Col (w'.setCell ⟨ga, i, none⟩ (.slice (some ⟨b, 0, none⟩) m c)) q kk) ∧ Below W.heap.size W w' := by
  obtain ⟨hA, _, hg, _, hg2, _⟩ := h.reg
  have hs : base ≤ W.heap.size := by omega
  have look : ∀ (k b c : Nat), k < n → W.cell? ⟨ga, k, none⟩ = some (.slice (some ⟨b, 0, none⟩) m c) → Rw W base b c (ofL (row A k)) := by
    intro k b c hk hc
    obtain ⟨b', c', h1, _, h2⟩ := h.read k hk
    rw [hc] at h1
    have := Option.some.inj h1
    injection this with t1 t2 t3
    injection t1 with t1
    injection t1 with t1
    subst t1 t3
    exact h2
  obtain ⟨r1, r1'⟩ := (look i bi ci hi hci).reads
  obtain ⟨r2, r2'⟩ := (look d bd cd hd hcd).reads
  have l1 : (row A i).length = m := hA.2 i hi
  have l2 : (row A d).length = m := hA.2 d hd
  obtain ⟨k0, hk0⟩ := gfAddMul (row A i) (row A d) x (by omega)
  have hf := hk0 k0 (Nat.le_refl _)
  unfold addMulB at hf
  rw [if_pos (by omega)] at hf
  have hcall := P.gf_AddMul.calls k0 _ ci (ofL (row A i)) _ cd (ofL (row A d)) (ofB x) _ _ W r1 r1' r2 r2' hf
  rw [ofL_length, ofL_length, l1, l2] at hcall
  rw [l1]
  refine hcall.mono ?_
  rintro e w' ⟨v, rfl, hR, hb⟩
  obtain ⟨b, c, rfl, s1, s2, s3, s4, s5⟩ := h.sum hB hC hs hb hi hR (by rw [am_length]; exact l1) hm
  exact ⟨b, c, rfl, s4, s5, ⟨s1⟩, ⟨s2⟩, ⟨s3⟩, hb⟩
end Go.Proofs.YtnfgiamdmfkcjaaDoor.H
