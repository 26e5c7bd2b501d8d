/- Words and walks that the claim RebuildChunks leans on (what it does not use is left out). -/
import Derived.Test.YtnfgiamdmfkcjaaDoorMRebuildChunks10
import Derived.Test.YtnfgiamdmfkcjaaDoorMRebuildChunks11
import Derived.Test.YtnfgiamdmfkcjaaDoorMRebuildChunks6
import Derived.Test.YtnfgiamdmfkcjaaDoorMRebuildChunks4
import Derived.Deep.RegionLaw
import Derived.Deep.AppendLies
import Derived.Test.YtnfgiamdmfkcjaaDoorMRebuildChunks5
import Derived.Test.YtnfgiamdmfkcjaaDoorMRebuildChunks8
import Derived.Test.YtnfgiamdmfkcjaaDoorMRebuildChunks1
set_option linter.unusedSimpArgs false
set_option linter.unusedVariables false
namespace Go.Proofs.YtnfgiamdmfkcjaaDoor.H
open Go.RowKit Go.Proofs.YtnfgiamdmfkcjaaDoorW.PrintWords Go.Proofs.YtnfgiamdmfkcjaaDoorW.PrintLast Go.Proofs.YtnfgiamdmfkcjaaDoorW.PrintMore Go.Proofs.YtnfgiamdmfkcjaaDoor.Leaf Go.Proofs.YtnfgiamdmfkcjaaDoor.Gf Go.Proofs.YtnfgiamdmfkcjaaDoor.Mx Go.Proofs.YtnfgiamdmfkcjaaDoor.P Go.Proofs.YtnfgiamdmfkcjaaDoor.Red
/-- Which of the first s one has. -/
def selN (H : List Bool) (s : Nat) : List Nat := (List.range s).filter fun i => H.getD i false
def selR (H : List Bool) (s : Nat) : List Int := (selN H s).map fun i : Nat => (i : Int)
def selL (S : List (List Int)) (H : List Bool) (s : Nat) : List (List Int) := (selN H s).map fun i : Nat => rd_L1 S (i : Int)
theorem selN_le (H : List Bool) (s : Nat) : (selN H s).length ≤ s := by
 unfold selN
 exact Nat.le_trans (List.length_filter_le _ _) (by rw [List.length_range]; exact Nat.le_refl _)
theorem selN_yes {H : List Bool} {s : Nat} (h : H.getD s false = true) : selN H (s + 1) = selN H s ++ [s] := by
 unfold selN
 rw [List.range_succ, List.filter_append, List.filter_cons, if_pos h]
 rfl
theorem selN_no {H : List Bool} {s : Nat} (h : H.getD s false = false) : selN H (s + 1) = selN H s := by
 unfold selN
 rw [List.range_succ, List.filter_append, List.filter_cons, if_neg (by rw [h]; simp), List.filter_nil, List.append_nil]
/-- What the callees of Decode tell. -/
structure DecFacts (k m : Int) (S : List (List Int)) (H : List Bool) (a : List (List Int)) (ea : Int) (ev : Bool) (b1 b2 c1 c2 : List (List Int)) (e1 e2 : Int) : Prop where
 cau : Ev (fun f => wMc_.f f k m) (a, ea)
 rng : ea = 0 → 1 ≤ k ∧ 1 ≤ m ∧ k + m ≤ 255
 even : code_even.f (selL S H H.length) ((selL S H H.length).length : Int) = some ev
 rows : ea = 0 → ev = true → (S.length : Int) = k + m → (H.length : Int) = k + m → k ≤ (selL S H H.length).length → Ev (fun f => matrix_Rows.f f a ((selR H H.length).take k.toNat)) (b1, e1)
 inv : matrix_Inverse.f b1 = some (b2, e2)
 com1 : ea = 0 → ev = true → (S.length : Int) = k + m → (H.length : Int) = k + m → k ≤ (selL S H H.length).length → Ev (fun f => wCo_.f f b2 ((selL S H H.length).take k.toNat)) c1
 com2 : ea = 0 → ev = true → (S.length : Int) = k + m → (H.length : Int) = k + m → k ≤ (selL S H H.length).length → Ev (fun f => wCo_.f f a c1) c2
/-- What Decode answers. -/
def decO (k m : Int) (S : List (List Int)) (H : List Bool) (ea : Int) (ev : Bool) (c2 : List (List Int)) : List (List Int) × Int :=
 if ea = 0 ∧ (S.length : Int) = k + m ∧ (H.length : Int) = k + m then
  (if 0 < (selL S H H.length).length ∧ ev = false then ([], 1) else if ((selL S H H.length).length : Int) < k then ([], 4) else (c2, 0))
 else ([], 1)
/-- What holds in the loop of Decode: below the call's start nothing turns; a (elder than B0), the rows and the shards picked (from B0 on). -/
structure DW (w : World) (B0 : Nat) (wc : World) (va : Value) (a : List (List Int)) (v12 : Value) (X12 : List Int) (v13 : Value) (X13 : List (List Int)) : Prop where
 hb : Below w.heap.size w wc
 b0 : B0 ≤ wc.heap.size
 a : Kd.S (Kd.slice 5 (Kd.int .u8)) 22 wc w.heap.size (fun k => k < B0) va a
 r : Kd.R (Kd.int .i64) 3 wc w.heap.size (fun k => B0 ≤ k) v12 X12
 l : Kd.R (Kd.fixed (Kd.slice 5 (Kd.int .u8)) w) 22 wc w.heap.size (fun k => B0 ≤ k) v13 X13
theorem DW.below {w wc w1 : World} {B0 : Nat} {va v12 v13 : Value} {a X13 : List (List Int)} {X12 : List Int} (h : DW w B0 wc va a v12 X12 v13 X13) (hb : Below wc.heap.size wc w1) : DW w B0 w1 va a v12 X12 v13 X13 :=
 ⟨zE_ h.hb hb, Nat.le_trans h.b0 hb.size, Kd.S_below h.a hb, Kd.R_below h.r hb, Kd.R_below h.l hb⟩
theorem DW.alloc {w wc : World} {B0 : Nat} {va v12 v13 : Value} {a X13 : List (List Int)} {X12 : List Int} (o : Obj) (h : DW w B0 wc va a v12 X12 v13 X13) : DW w B0 (wc.alloc o) va a v12 X12 v13 X13 := h.below (zC_ (Below.refl _ _) o)
theorem DW.drew {w wc : World} {B0 : Nat} {va v12 v13 : Value} {a X13 : List (List Int)} {X12 : List Int} (h : DW w B0 wc va a v12 X12 v13 X13) : DW w B0 wc.drew va a v12 X12 v13 X13 := h.below (below_drew (Below.refl _ _))
theorem DW.drewN {w wc : World} {B0 : Nat} {va v12 v13 : Value} {a X13 : List (List Int)} {X12 : List Int} (n : Nat) (h : DW w B0 wc va a v12 X12 v13 X13) : DW w B0 (wc.drewN n) va a v12 X12 v13 X13 := h.below (zA_ (Below.refl _ _) n)
theorem DW.app_r {w wc w1 : World} {B0 : Nat} {va v12 v13 v1 : Value} {a X13 : List (List Int)} {X12 Y : List Int} (h : DW w B0 wc va a v12 X12 v13 X13) (ho : Kd.R (Kd.int .i64) 3 w1 w.heap.size (fun k => B0 ≤ k) v1 Y) (hb : Below w.heap.size w w1) (hg : wc.grownBy w1 v12.ownBlock) : DW w B0 w1 va a v1 Y v13 X13 :=
 ⟨hb, Nat.le_trans h.b0 hg.size, Kd.S_grown h.a hg (fun k hk e => by have := h.r.1 k e.symm; omega), ho, Kd.R_over' h.l (Kd.R_typed h.r) (fixed_ne w 3 (by decide)) hg⟩
theorem DW.app_l {w wc w1 : World} {B0 : Nat} {va v12 v13 v1 : Value} {a X13 Y : List (List Int)} {X12 : List Int} (h : DW w B0 wc va a v12 X12 v13 X13) (ho : Kd.R (Kd.fixed (Kd.slice 5 (Kd.int .u8)) w) 22 w1 w.heap.size (fun k => B0 ≤ k) v1 Y) (hb : Below w.heap.size w w1) (hg : wc.grownBy w1 v13.ownBlock) : DW w B0 w1 va a v12 X12 v1 Y :=
 ⟨hb, Nat.le_trans h.b0 hg.size, Kd.S_grown h.a hg (fun k hk e => by have := h.l.1 k e.symm; omega), Kd.R_over' h.r (Kd.R_typed h.l) (by decide) hg, ho⟩
theorem DW.r_lt {w wc : World} {B0 : Nat} {va v12 v13 : Value} {a X13 : List (List Int)} {X12 : List Int} (h : DW w B0 wc va a v12 X12 v13 X13) (k : Nat) (hk : v12.ownBlock = some k) : k < wc.heap.size := by
 obtain ⟨cells, hc⟩ := Kd.R_typed h.r k hk
 exact (Array.getElem?_eq_some_iff.1 hc).1
theorem lit_row {α : Type} {Rr : α → List Value → Prop} {W : World} {b t : Nat} {fr : Nat × Nat} {v : Value} {p : α} (hb : W.heap[b]? = some (.cells #[v] t fr)) (h : Rr p [v]) : ReadsRow Rr 1 W (some ⟨b, 0, none⟩) 1 [p] := by
 refine ⟨rfl, by decide, fun _ => ⟨_, rfl, fun j q hj => ?_⟩⟩
 match j, hj with
 | 0, hj =>
  obtain rfl : p = q := by simpa using hj
  refine ⟨[v], rfl, h, fun i u hi => ?_⟩
  match i, hi with
  | 0, hi =>
   obtain rfl : v = u := by simpa using hi
   show W.cell? ⟨b, 0, none⟩ = some v
   unfold World.cell?
   rw [hb]
   rfl
theorem lit_top (W : World) (o : Obj) : (W.alloc o).heap[W.heap.size]? = some o := by show (W.heap.push o)[W.heap.size]? = _; rw [Array.getElem?_push, if_pos rfl]
theorem lit_under (W : World) (o o' : Obj) : ((W.alloc o).alloc o').heap[W.heap.size]? = some o := by
 rw [Below.heap_alloc _ _ _ (by show _ < (W.heap.push o).size; simp)]
 exact lit_top W o
theorem lit_top2 (W : World) (o o' : Obj) : ((W.alloc o).alloc o').heap[W.heap.size + 1]? = some o' := by
 have := lit_top (W.alloc o) o'
 rw [show (W.alloc o).heap.size = W.heap.size + 1 by show (W.heap.push o).size = _; simp] at this
 exact this
theorem lit_keep {W w1 : World} {row : Option Nat} {b : Nat} {o : Obj} (hg : W.grownBy w1 row) (hl : W.heap[b]? = some o) (hn : some b ≠ row) : w1.heap[b]? = some o := by
 rw [hg.block b (Array.getElem?_eq_some_iff.1 hl).1 hn]
 exact hl
theorem cauchy_calls (k m : Int) (r1 : List (List Int)) (r2 : Int) (w : World) (h : Ev (fun f => wMc_.f f k m) (r1, r2)) :
 Calls Tryd.prog 34 #[.int .i64 k, .int .i64 m] w fun e w' => ∃ v0_ : Value, e = .returned (.tuple #[v0_, .int .i64 r2]) ∧ Kd.S (Kd.slice 5 (Kd.int .u8)) 22 w' w.heap.size (fun _ => True) v0_ r1 ∧ Below w.heap.size w w' := by
 obtain ⟨f, h⟩ := h.rounds
 exact wMc_.calls f k m r1 r2 w h
theorem combine_calls (A0 : Option Addr) (c0 : Nat) (l0 : List (List Int)) (A1 : Option Addr) (c1 : Nat) (l1 : List (List Int)) (r : List (List Int)) (w : World) (hr0 : Kd.C (Kd.slice 5 (Kd.int .u8)) w A0 l0.length l0) (hc0 : l0.length ≤ c0) (hr1 : Kd.C (Kd.slice 5 (Kd.int .u8)) w A1 l1.length l1) (hc1 : l1.length ≤ c1) (h : Ev (fun f => wCo_.f f l0 l1) r) :
 Calls Tryd.prog 38 #[.slice A0 l0.length c0, .slice A1 l1.length c1] w fun e w' => ∃ v0_ : Value, e = .returned (v0_) ∧ Kd.N (Kd.slice 5 (Kd.int .u8)) 22 w' w.heap.size (fun k_ => (w.heap.size ≤ k_)) v0_ r ∧ Below w.heap.size w w' := by
 obtain ⟨f, h⟩ := h.rounds
 exact wCo_.calls f A0 c0 l0 A1 c1 l1 r w hr0 hc0 hr1 hc1 h
set_option maxHeartbeats 16000000 in
set_option maxRecDepth 100000 in
theorem Decode.calls (k m : Int) (A0 : Option Addr) (c0 : Nat) (S : List (List Int)) (A1 : Option Addr) (c1' : Nat) (H : List Bool) (a : List (List Int)) (ea : Int) (ev : Bool) (b1 b2 c1 c2 : List (List Int)) (e1 e2 : Int) (w : World)
 (hr0 : Kd.C (Kd.slice 5 (Kd.int .u8)) w A0 S.length S) (hc0 : S.length ≤ c0) (hr1 : Kd.C Kd.bool w A1 H.length H) (hc1 : H.length ≤ c1') (hf : DecFacts k m S H a ea ev b1 b2 c1 c2 e1 e2) :
 Calls Tryd.prog 15 #[.int .i64 k, .int .i64 m, .slice A0 S.length c0, .slice A1 H.length c1'] w fun e w' => ∃ v : Value, e = .returned (.tuple #[v, .int .i64 (decO k m S H ea ev c2).2]) ∧ Kd.N (Kd.slice 5 (Kd.int .u8)) 22 w' w.heap.size (fun k_ => (w.heap.size ≤ k_)) v (decO k m S H ea ev c2).1 ∧ Below w.heap.size w w' := by
 have HR0 := Aside0.mk hr0
 have HC0 := Aside0.mk hc0
 have HR1 := Aside0.mk hr1
 have HC1 := Aside0.mk hc1
 have HF := Aside0.mk hf
 clear hr0 hc0 hr1 hc1 hf
 have HB := Aside0.mk (Below.refl w.heap.size w)
 obtain ⟨R, hR⟩ : ∃ R, R = decO k m S H ea ev c2 := ⟨_, rfl⟩
 rw [← hR]
 have HO := Aside0.mk hR
 clear hR
 go_enter Tryd.func15, Tryd.ntmps15
 go_upto_region 2 with (first | ((with_reducible refine gate_callee (f := 34) rfl ?_); refine goesL_ (some 21) rfl rfl Tryd.func34 (by kernel_rfl) rfl #[.int .i64 k, .int .i64 m] rfl (by (try simp only [List.map_toArray, List.map_cons, List.map_nil]); first | done | rfl) ?_; (with_reducible refine (cauchy_calls k m a ea _ HF.out.cau).mono ?_); rintro e wn_ ⟨v0_, rfl, hS, hb⟩; refine ⟨_, rfl, ?_⟩; obtain ⟨Aa, ca, rfl⟩ := Kd.S_slice hS; have HA := Aside0.mk (Kd.S_lower (Kd.S_mono (ok' := fun k_ => k_ < wn_.heap.size) (Kd.S_bound hS) (fun k_ hk_ => hk_.2.2.1)) (zF_ (by repeat (first | (with_reducible first | exact HB.out | apply zC_ | apply zA_ | apply zB_) | exact HB.out)))); have nb_ := Aside0.mk (zE_ (by repeat (first | (with_reducible first | exact HB.out | apply zC_ | apply zA_ | apply zB_) | exact HB.out)) hb); clear HB; have HB := nb_; clear nb_ hb hS))
 (try simp only [Act.put, qA_, qB_, qC_])
 go_cut [41] (fun v41 wc => ∃ bad : Bool, v41 = .bool bad ∧ Aside0 (bad = ! decide (ea = 0 ∧ (S.length : Int) = k + m ∧ (H.length : Int) = k + m)) ∧ Aside0 (Kd.S (Kd.slice 5 (Kd.int .u8)) 22 wc w.heap.size (fun k_ => k_ < wc.heap.size) (.slice Aa a.length ca) a) ∧ Aside0 (Below w.heap.size w wc))
 case first =>
  by_cases h1 : ea = 0
  ·have h1b : (ea != 0) = false := bne_eq_false_iff_eq.mpr h1
   have hw : IntKind.i64.wrap (k + m) = k + m := IntWalk.i64_in _ (by have := HF.out.rng h1; omega)
   by_cases h2 : (S.length : Int) = k + m
   ·have h2b : ((S.length : Int) != k + m) = false := bne_eq_false_iff_eq.mpr h2
    by_cases h3 : (H.length : Int) = k + m
    ·have h3b : ((H.length : Int) != k + m) = false := bne_eq_false_iff_eq.mpr h3
     have HS : Aside0 (false = ! decide (ea = 0 ∧ (S.length : Int) = k + m ∧ (H.length : Int) = k + m)) := ⟨by rw [decide_eq_true ⟨h1, h2, h3⟩]; rfl⟩
     clear h1 h2 h3
     go_wp2
     go_meet
     case rel => exact ⟨_, (by first | rfl | (simp; done) | (simp [*]; done)), HS, ⟨HA.out⟩, ⟨(by repeat (first | (with_reducible first | exact HB.out | apply zC_ | apply zA_ | apply zB_) | exact HB.out))⟩⟩
    ·have h3b : ((H.length : Int) != k + m) = true := bne_iff_ne.mpr h3
     have HS : Aside0 (true = ! decide (ea = 0 ∧ (S.length : Int) = k + m ∧ (H.length : Int) = k + m)) := ⟨by rw [decide_eq_false (fun h => h3 h.2.2)]; rfl⟩
     clear h1 h2 h3
     go_wp2
     go_meet
     case rel => exact ⟨_, (by first | rfl | (simp; done) | (simp [*]; done)), HS, ⟨HA.out⟩, ⟨(by repeat (first | (with_reducible first | exact HB.out | apply zC_ | apply zA_ | apply zB_) | exact HB.out))⟩⟩
   ·have h2b : ((S.length : Int) != k + m) = true := bne_iff_ne.mpr h2
    have HS : Aside0 (true = ! decide (ea = 0 ∧ (S.length : Int) = k + m ∧ (H.length : Int) = k + m)) := ⟨by rw [decide_eq_false (fun h => h2 h.2.1)]; rfl⟩
    clear h1 h2
    go_wp2
    go_meet
    case rel => exact ⟨_, (by first | rfl | (simp; done) | (simp [*]; done)), HS, ⟨HA.out⟩, ⟨(by repeat (first | (with_reducible first | exact HB.out | apply zC_ | apply zA_ | apply zB_) | exact HB.out))⟩⟩
  ·have h1b : (ea != 0) = true := bne_iff_ne.mpr h1
   have HS : Aside0 (true = ! decide (ea = 0 ∧ (S.length : Int) = k + m ∧ (H.length : Int) = k + m)) := ⟨by rw [decide_eq_false (fun h => h1 h.1)]; rfl⟩
   clear h1
   go_wp2
   go_meet
   case rel => exact ⟨_, (by first | rfl | (simp; done) | (simp [*]; done)), HS, ⟨HA.out⟩, ⟨(by repeat (first | (with_reducible first | exact HB.out | apply zC_ | apply zA_ | apply zB_) | exact HB.out))⟩⟩
 case rest =>
  clear HA HB
  obtain ⟨bad, rfl, HBAD, HA, HB⟩ := hcut
  cases bad with
  | true =>
   have hn : ¬ (ea = 0 ∧ (S.length : Int) = k + m ∧ (H.length : Int) = k + m) := fun h => by
    have := HBAD.out
    rw [decide_eq_true h] at this
    cases this
   have hR : R = ([], 1) := by rw [HO.out]; unfold decO; rw [if_neg hn]
   subst hR
   clear hn
   go_wp2
   go_ret2
   exact ⟨_, by first | rfl | (simp; done), Kd.N_nil _ _ _ _ _, (by repeat (first | (with_reducible first | exact HB.out | apply zC_ | apply zA_ | apply zB_) | exact HB.out))⟩
  | false =>
   have hy : ea = 0 ∧ (S.length : Int) = k + m ∧ (H.length : Int) = k + m := Classical.byContradiction fun h => by
    have := HBAD.out
    rw [decide_eq_false h] at this
    cases this
   have HY := Aside0.mk hy
   obtain rfl := hy.1
   have hrg := HF.out.rng rfl
   have HRG := Aside0.mk hrg
   clear hy hrg HBAD
   obtain ⟨B0, hB0⟩ : ∃ B0, B0 = wc.heap.size := ⟨_, rfl⟩
   have HD0 : Aside0 (DW w B0 wc (.slice Aa a.length ca) a (.slice none 0 0) (selR H 0) (.slice none 0 0) (selL S H 0)) := ⟨HB.out, by omega, Kd.S_mono HA.out (fun k_ hk => by omega), Kd.R_nil _ _ _ _ _, Kd.R_nil _ _ _ _ _⟩
   have HHL : Aside0 (H.length ≤ 255) := ⟨by have := HY.out; have := HRG.out; omega⟩
   clear hB0 HA HB
   go_wp2
   go_loopg [12, 13, 44] H.length (fun gg v12 v13 v44 w' => ∃ (s : Nat) (i : Int), s + gg = H.length ∧ v44 = .int .i64 i ∧ Aside0 (i = (s : Int)) ∧ Aside0 (DW w B0 w' (.slice Aa a.length ca) a v12 (selR H s) v13 (selL S H s)))
   case atStart => exact ⟨0, 0, by omega, rfl, ⟨rfl⟩, HD0⟩
   case round =>
    clear HD0
    obtain ⟨s, i, hsg, rfl, HI, HD⟩ := hrel
    obtain ⟨Ar, cr, rfl⟩ := Kd.R_slice HD.out.r
    obtain ⟨Al, cl, rfl⟩ := Kd.R_slice HD.out.l
    have hi := HI.out
    by_cases hs : s < H.length
    ·have hlt : i < (H.length : Int) := by omega
     have h0i : 0 ≤ i := by omega
     have HS := Aside0.mk hs
     have hsw : IntKind.i64.wrap (i + 1) = i + 1 := IntWalk.i64_in _ (by have := HHL.out; omega)
     obtain ⟨ad1, ea1, hx1⟩ := Kd.at_bool HR1.out i h0i hlt
     cases ea1
     replace hx1 := (HD.out.hb.cell (World.block_lt_of_cell? w _ hx1)).trans hx1
     have hrd : rdOf false H i = H.getD s false := by rw [hi]; rfl
     rw [hrd] at hx1
     clear hrd hi
     have H0I := Aside0.mk h0i
     have HLTI := Aside0.mk hlt
     replace h0i := eq_true h0i
     replace hlt := eq_true hlt
     clear hs
     cases hb : H.getD s false with
     | false =>
      rw [hb] at hx1
      have HN := Aside0.mk (selN_no hb)
      clear hb
      go_wp2
      go_roundg (H.length - (s + 1))
      case measure => have := HS.out; omega
      case rel => exact ⟨s + 1, i + 1, by have := HS.out; omega, by go_num, ⟨by have := HI.out; omega⟩, ⟨by unfold selR selL; rw [HN.out]; exact HD.out⟩⟩
     | true =>
      rw [hb] at hx1
      have HN := Aside0.mk (selN_yes hb)
      clear hb
      go_upto_region 10 with (fail)
      (try simp only [Act.put, qA_, qB_, qC_])
      clear hx1
      have hS := HY.out.2.1
      have hH := HY.out.2.2
      have hltS : i < (S.length : Int) := by have := HLTI.out; omega
      obtain ⟨adr, Ae, ce, er, hxr, hlr, hir⟩ := at_L1 HR0.out i H0I.out hltS
      cases er
      have HXW := Aside0.mk hxr
      have HXL := Aside0.mk (World.block_lt_of_cell? w _ hxr)
      replace hxr := (HD.out.hb.cell (World.block_lt_of_cell? w _ hxr)).trans hxr
      have hxlt : (adr.add i.toNat).block < wr.heap.size := Nat.lt_of_lt_of_le HXL.out (zF_ HD.out.hb)
      have HK : Aside0 ((Kd.slice 5 (Kd.int .u8)).K w (rd_L1 S i) [.slice Ae (rd_L1 S i).length ce]) := ⟨⟨Ae, ce, rfl, hlr, hir⟩⟩
      have HLR : Aside0 ((selR H s).length ≤ 255) := ⟨by unfold selR; rw [List.length_map]; have := selN_le H s; have := HHL.out; have := HS.out; omega⟩
      have HLL : Aside0 ((selL S H s).length ≤ 255) := ⟨by unfold selL; rw [List.length_map]; have := selN_le H s; have := HHL.out; have := HS.out; omega⟩
      have HRL : Aside0 (∀ k_, (Value.slice Ar (selR H s).length cr).ownBlock = some k_ → k_ < wr.heap.size) := ⟨DW.r_lt HD.out⟩
      clear hS hH hlr hir
      replace hltS := eq_true hltS
      go_region_law (first | (refine Kd.R_append_rows_step (Kd.int .i64) (Rr := fun (x : Int) cs => cs = [Value.int .i64 x]) (w0 := w) w.heap.size rfl (.tmp 50) (.tmp 52) 66 3 (.int .i64 0) 8 rfl Tryd.underlying66 Go.Proofs.YtnfgiamdmfkcjaaDoor.P.info3 rfl (by decide) (by omega) (.slice Ar (selR H s).length cr) (selR H s) [i] _ 1 1 (fun k_ => B0 ≤ k_) (fun _ => False) rfl rfl ?aO ?aR (fun _ _ h => h) (fun _ h => h.elim) ?aF ?aB ?aS ?aL ?_; (case aO => exact (DW.r (by repeat (first | exact HD.out | apply DW.alloc | apply DW.drew)))); (case aR => (first | exact lit_row HLIT.out (by first | rfl | exact HK.out) | exact lit_row (lit_top _ _) (by first | rfl | exact HK.out) | exact lit_row (lit_under _ _ _) (by first | rfl | exact HK.out) | exact lit_row (lit_top2 _ _ _) (by first | rfl | exact HK.out))); (case aF => exact (fun k_ hk_ => Nat.le_trans (DW.b0 (by repeat (first | exact HD.out | apply DW.alloc | apply DW.drew))) hk_)); (case aB => exact (DW.hb (by repeat (first | exact HD.out | apply DW.alloc | apply DW.drew)))); (case aS => exact (zF_ (DW.hb (by repeat (first | exact HD.out | apply DW.alloc | apply DW.drew))))); (case aL => have := HLR.out; omega); intro v1 w1 ho hb hg hat; have HD1 := Aside0.mk (DW.app_r (by repeat (first | exact HD.out | apply DW.alloc | apply DW.drew)) ho hb hg); have hx1 := (hb.cell HXL.out).trans HXW.out; (first | have HLIT := Aside0.mk (show w1.heap[_]? = some (Obj.cells #[Value.slice Ae (rd_L1 S i).length ce] 22 (0, 0)) from lit_keep hg (lit_under _ _ _) (fun e_ => absurd (HRL.out _ e_.symm) (by simp))) | have HLIT := Aside0.mk (show w1.heap[_]? = some (Obj.cells #[Value.slice Ae (rd_L1 S i).length ce] 22 (0, 0)) from lit_keep hg (lit_top2 _ _ _) (fun e_ => absurd (HRL.out _ e_.symm) (by simp))) | skip); clear HD ho hb hg hat; have HD := HD1; clear HD1) | (refine Kd.R_append_rows_step (Kd.fixed (Kd.slice 5 (Kd.int .u8)) w) (Rr := fun (x : List Int) cs => (Kd.slice 5 (Kd.int .u8)).K w x cs) (w0 := w) w.heap.size rfl (.tmp 54) (.tmp 59) 26 22 (.slice none 0 0) 24 rfl Tryd.underlying26 Go.Proofs.YtnfgiamdmfkcjaaDoor.P.info22 rfl Nat.zero_lt_one (by omega) (.slice Al (selL S H s).length cl) (selL S H s) [rd_L1 S i] _ 1 1 (fun k_ => B0 ≤ k_) (fun _ => False) rfl rfl ?aO ?aR (fun _ _ h => h) (fun _ h => h.elim) ?aF ?aB ?aS ?aL ?_; (case aO => exact (DW.l (by repeat (first | exact HD.out | apply DW.alloc | apply DW.drew)))); (case aR => (first | exact lit_row HLIT.out (by first | rfl | exact HK.out) | exact lit_row (lit_top _ _) (by first | rfl | exact HK.out) | exact lit_row (lit_under _ _ _) (by first | rfl | exact HK.out) | exact lit_row (lit_top2 _ _ _) (by first | rfl | exact HK.out))); (case aF => exact (fun k_ hk_ => Nat.le_trans (DW.b0 (by repeat (first | exact HD.out | apply DW.alloc | apply DW.drew))) hk_)); (case aB => exact (DW.hb (by repeat (first | exact HD.out | apply DW.alloc | apply DW.drew)))); (case aS => exact (zF_ (DW.hb (by repeat (first | exact HD.out | apply DW.alloc | apply DW.drew))))); (case aL => have := HLL.out; omega); intro v2 w2 ho hb hg hat; have HD1 := Aside0.mk (DW.app_l (by repeat (first | exact HD.out | apply DW.alloc | apply DW.drew)) ho hb hg); clear HD ho hb hg hat; have HD := HD1; clear HD1))
      all_goals (
       have HD2 : Aside0 (DW w B0 _ (.slice Aa a.length ca) a _ (selR H (s + 1)) _ (selL S H (s + 1))) := ⟨by
        have h := HD.out
        unfold selR selL
        rw [HN.out, List.map_append, List.map_append]
        have e := HI.out
        subst e
        exact h⟩
       clear HD
       go_wp2
       go_roundg (H.length - (s + 1))
       case measure => have := HS.out; omega
       case rel => exact ⟨s + 1, i + 1, by have := HS.out; omega, by go_num, ⟨by have := HI.out; omega⟩, HD2⟩)
    ·obtain rfl : s = H.length := by have := selN_le H s; omega
     have hE := HF.out.even
     have hRW := HF.out.rows rfl
     have hC1 := HF.out.com1 rfl
     have hC2 := HF.out.com2 rfl
     have hO := HO.out
     unfold decO at hO
     rw [if_pos ⟨rfl, HY.out.2⟩] at hO
     have hlen : (selR H H.length).length = (selL S H H.length).length := by unfold selR selL; rw [List.length_map, List.length_map]
     have hLB : (selL S H H.length).length ≤ 255 := by unfold selL; rw [List.length_map]; have := selN_le H H.length; have := HHL.out; omega
     generalize selL S H H.length = Lx at *
     generalize selR H H.length = Rx at *
     have HE := Aside0.mk hE
     have hlt : ¬ i < (H.length : Int) := by have := HI.out; omega
     have HLB := Aside0.mk hLB
     clear hE hs hi hsg hLB
     by_cases h1 : (0 : Int) < (Lx.length : Int)
     ·cases ev with
      | false =>
       rw [if_pos ⟨by omega, rfl⟩] at hO
       subst hO
       clear hRW hC1 hC2 hlen
       go_wp2_with (first | (go_at_call 35; (with_reducible refine (code_even.calls _ _ Lx _ false _ ?side1 ?side2 HE.out).mono ?_); (case side1 => exact (fixed_C (DW.hb (by repeat (first | exact HD.out | apply DW.alloc | apply DW.drew | apply DW.drewN))) (Kd.R_reads' (DW.l (by repeat (first | exact HD.out | apply DW.alloc | apply DW.drew | apply DW.drewN)))).2.2)); (case side2 => exact (Kd.R_reads' HD.out.l).2.1); rintro e wn_ ⟨rfl, hb⟩; have n0_ := Aside0.mk (DW.below (by repeat (first | exact HD.out | apply DW.alloc | apply DW.drew | apply DW.drewN)) hb); clear HD; have HD := n0_; clear n0_; clear hb) | ((with_reducible refine gate_callee (f := 35) rfl ?_); refine goesL_ (some 69) rfl rfl Tryd.func35 (by kernel_rfl) rfl #[.slice Al Lx.length cl, .int .i64 (Lx.length : Int)] rfl (by (try simp only [List.map_toArray, List.map_cons, List.map_nil]); first | done | rfl) ?_; (with_reducible refine (code_even.calls _ _ Lx _ false _ ?side1 ?side2 HE.out).mono ?_); (case side1 => exact (fixed_C (DW.hb (by repeat (first | exact HD.out | apply DW.alloc | apply DW.drew | apply DW.drewN))) (Kd.R_reads' (DW.l (by repeat (first | exact HD.out | apply DW.alloc | apply DW.drew | apply DW.drewN)))).2.2)); (case side2 => exact (Kd.R_reads' HD.out.l).2.1); rintro e wn_ ⟨rfl, hb⟩; refine ⟨_, rfl, ?_⟩; have n0_ := Aside0.mk (DW.below (by repeat (first | exact HD.out | apply DW.alloc | apply DW.drew | apply DW.drewN)) hb); clear HD; have HD := n0_; clear n0_; clear hb))
       go_ret2
       exact ⟨_, by first | rfl | (simp; done), Kd.N_nil _ _ _ _ _, DW.hb (by repeat (first | exact HD.out | apply DW.alloc | apply DW.drew | apply DW.drewN))⟩
      | true =>
       rw [if_neg (fun h => by cases h.2)] at hO
       by_cases h2 : (Lx.length : Int) < k
       ·rw [if_pos h2] at hO
        subst hO
        clear hRW hC1 hC2 hlen
        go_wp2_with (first | (go_at_call 35; (with_reducible refine (code_even.calls _ _ Lx _ true _ ?side1 ?side2 HE.out).mono ?_); (case side1 => exact (fixed_C (DW.hb (by repeat (first | exact HD.out | apply DW.alloc | apply DW.drew | apply DW.drewN))) (Kd.R_reads' (DW.l (by repeat (first | exact HD.out | apply DW.alloc | apply DW.drew | apply DW.drewN)))).2.2)); (case side2 => exact (Kd.R_reads' HD.out.l).2.1); rintro e wn_ ⟨rfl, hb⟩; have n0_ := Aside0.mk (DW.below (by repeat (first | exact HD.out | apply DW.alloc | apply DW.drew | apply DW.drewN)) hb); clear HD; have HD := n0_; clear n0_; clear hb) | ((with_reducible refine gate_callee (f := 35) rfl ?_); refine goesL_ (some 69) rfl rfl Tryd.func35 (by kernel_rfl) rfl #[.slice Al Lx.length cl, .int .i64 (Lx.length : Int)] rfl (by (try simp only [List.map_toArray, List.map_cons, List.map_nil]); first | done | rfl) ?_; (with_reducible refine (code_even.calls _ _ Lx _ true _ ?side1 ?side2 HE.out).mono ?_); (case side1 => exact (fixed_C (DW.hb (by repeat (first | exact HD.out | apply DW.alloc | apply DW.drew | apply DW.drewN))) (Kd.R_reads' (DW.l (by repeat (first | exact HD.out | apply DW.alloc | apply DW.drew | apply DW.drewN)))).2.2)); (case side2 => exact (Kd.R_reads' HD.out.l).2.1); rintro e wn_ ⟨rfl, hb⟩; refine ⟨_, rfl, ?_⟩; have n0_ := Aside0.mk (DW.below (by repeat (first | exact HD.out | apply DW.alloc | apply DW.drew | apply DW.drewN)) hb); clear HD; have HD := n0_; clear n0_; clear hb))
        go_ret2
        exact ⟨_, by first | rfl | (simp; done), Kd.N_nil _ _ _ _ _, DW.hb (by repeat (first | exact HD.out | apply DW.alloc | apply DW.drew | apply DW.drewN))⟩
       ·rw [if_neg h2] at hO
        subst hO
        have hk := HRG.out
        obtain ⟨kn, rfl⟩ := Int.eq_ofNat_of_zero_le (show 0 ≤ k by omega)
        have hRW := hRW rfl HY.out.2.1 HY.out.2.2 (by omega)
        have hC1 := hC1 rfl HY.out.2.1 HY.out.2.2 (by omega)
        have HC2 := Aside0.mk (hC2 rfl HY.out.2.1 HY.out.2.2 (by omega))
        rw [Int.toNat_natCast] at hRW hC1
        have hkr : kn ≤ Rx.length := by omega
        have hkl : kn ≤ Lx.length := by omega
        have hcr : (kn : Int) ≤ (cr : Int) := by have := (Kd.R_reads' HD.out.r).2.1; omega
        have hcl : (kn : Int) ≤ (cl : Int) := by have := (Kd.R_reads' HD.out.l).2.1; omega
        have HRW : Aside0 (∀ W, Kd.C (Kd.slice 5 (Kd.int .u8)) W Aa a.length a → Kd.C (Kd.int .i64) W Ar Rx.length Rx → Calls Tryd.prog 36 #[.slice Aa a.length ca, .slice Ar kn cr] W fun e w' => ∃ v0_ : Value, e = .returned (.tuple #[v0_, .int .i64 e1]) ∧ Kd.S (Kd.slice 5 (Kd.int .u8)) 22 w' W.heap.size (fun _ => True) v0_ b1 ∧ Below W.heap.size W w') := ⟨fun W hA hR => by
         have hl : (Rx.take kn).length = kn := by rw [List.length_take]; omega
         have h := rows_calls Aa ca a Ar cr (Rx.take kn) b1 e1 W hA (Kd.S_reads' HD.out.a).2.1 (Kd.C_take hR hkr) (by rw [hl]; omega) hRW
         rw [hl] at h
         exact h⟩
        have HC1 : Aside0 (∀ W A c, Kd.C (Kd.slice 5 (Kd.int .u8)) W A b2.length b2 → b2.length ≤ c → Kd.C (Kd.slice 5 (Kd.int .u8)) W Al Lx.length Lx → Calls Tryd.prog 38 #[.slice A b2.length c, .slice Al kn cl] W fun e w' => ∃ v0_ : Value, e = .returned (v0_) ∧ Kd.N (Kd.slice 5 (Kd.int .u8)) 22 w' W.heap.size (fun k_ => (W.heap.size ≤ k_)) v0_ c1 ∧ Below W.heap.size W w') := ⟨fun W A c hB hc hL => by
         have hl : (Lx.take kn).length = kn := by rw [List.length_take]; omega
         have h := combine_calls A c b2 Al cl (Lx.take kn) c1 W hB hc (Kd.C_take hL hkl) (by rw [hl]; omega) hC1
         rw [hl] at h
         exact h⟩
        have h0k : 0 ≤ (kn : Int) := by omega
        clear hRW hC1 hC2 hlen hk hkr hkl
        go_wp2_with (first | (go_at_call 35; (with_reducible refine (code_even.calls _ _ Lx _ true _ ?side1 ?side2 HE.out).mono ?_); (case side1 => exact (fixed_C (DW.hb (by repeat (first | exact HD.out | apply DW.alloc | apply DW.drew | apply DW.drewN))) (Kd.R_reads' (DW.l (by repeat (first | exact HD.out | apply DW.alloc | apply DW.drew | apply DW.drewN)))).2.2)); (case side2 => exact (Kd.R_reads' HD.out.l).2.1); rintro e wn_ ⟨rfl, hb⟩; have n0_ := Aside0.mk (DW.below (by repeat (first | exact HD.out | apply DW.alloc | apply DW.drew | apply DW.drewN)) hb); clear HD; have HD := n0_; clear n0_; clear hb) | ((with_reducible refine gate_callee (f := 35) rfl ?_); refine goesL_ (some 69) rfl rfl Tryd.func35 (by kernel_rfl) rfl #[.slice Al Lx.length cl, .int .i64 (Lx.length : Int)] rfl (by (try simp only [List.map_toArray, List.map_cons, List.map_nil]); first | done | rfl) ?_; (with_reducible refine (code_even.calls _ _ Lx _ true _ ?side1 ?side2 HE.out).mono ?_); (case side1 => exact (fixed_C (DW.hb (by repeat (first | exact HD.out | apply DW.alloc | apply DW.drew | apply DW.drewN))) (Kd.R_reads' (DW.l (by repeat (first | exact HD.out | apply DW.alloc | apply DW.drew | apply DW.drewN)))).2.2)); (case side2 => exact (Kd.R_reads' HD.out.l).2.1); rintro e wn_ ⟨rfl, hb⟩; refine ⟨_, rfl, ?_⟩; have n0_ := Aside0.mk (DW.below (by repeat (first | exact HD.out | apply DW.alloc | apply DW.drew | apply DW.drewN)) hb); clear HD; have HD := n0_; clear n0_; clear hb) | ((with_reducible refine gate_callee (f := 36) rfl ?_); refine goesL_ (some 81) rfl rfl Tryd.func36 (by kernel_rfl) rfl #[.slice Aa a.length ca, .slice Ar kn cr] rfl (by (try simp only [List.map_toArray, List.map_cons, List.map_nil]); first | done | rfl) ?_; (with_reducible refine (HRW.out _ ?side1 ?side2).mono ?_); (case side1 => exact (Kd.S_reads' (DW.a (by repeat (first | exact HD.out | apply DW.alloc | apply DW.drew | apply DW.drewN)))).2.2); (case side2 => exact (Kd.R_reads' (DW.r (by repeat (first | exact HD.out | apply DW.alloc | apply DW.drew | apply DW.drewN)))).2.2); rintro e wn_ ⟨v0_, rfl, hS, hb⟩; refine ⟨_, rfl, ?_⟩; obtain ⟨Ab, cb, rfl⟩ := Kd.S_slice hS; have HX1 := Aside0.mk (Kd.S_reads' hS).2.2; have HX1L := Aside0.mk (Kd.S_reads' hS).2.1; clear hS; have n0_ := Aside0.mk (DW.below (by repeat (first | exact HD.out | apply DW.alloc | apply DW.drew | apply DW.drewN)) hb); clear HD; have HD := n0_; clear n0_; clear hb) | ((with_reducible refine gate_callee (f := 37) rfl ?_); refine goesL_ (some 86) rfl rfl Tryd.func37 (by kernel_rfl) rfl #[.slice Ab b1.length cb] rfl (by (try simp only [List.map_toArray, List.map_cons, List.map_nil]); first | done | rfl) ?_; (with_reducible refine (matrix_Inverse.calls _ _ b1 b2 e2 _ ?side1 ?side2 HF.out.inv).mono ?_); (case side1 => repeat (first | exact HX1.out | (with_reducible refine Kd.C_alloc ?_ _) | (with_reducible refine Kd.C_drewN ?_ _) | (with_reducible refine Kd.C_drew ?_))); (case side2 => exact HX1L.out); rintro e wn_ ⟨v0_, rfl, hS, hb⟩; refine ⟨_, rfl, ?_⟩; obtain ⟨Ac, cc, rfl⟩ := Kd.S_slice hS; have HX2 := Aside0.mk (Kd.S_reads' hS).2.2; have HX2L := Aside0.mk (Kd.S_reads' hS).2.1; clear hS HX1 HX1L; have n0_ := Aside0.mk (DW.below (by repeat (first | exact HD.out | apply DW.alloc | apply DW.drew | apply DW.drewN)) hb); clear HD; have HD := n0_; clear n0_; clear hb) | ((with_reducible refine gate_callee (f := 38) rfl ?_); refine goesL_ (some 94) rfl rfl Tryd.func38 (by kernel_rfl) rfl #[.slice Ac b2.length cc, .slice Al kn cl] rfl (by (try simp only [List.map_toArray, List.map_cons, List.map_nil]); first | done | rfl) ?_; (with_reducible refine (HC1.out _ _ _ ?side1 ?side2 ?side3).mono ?_); (case side1 => repeat (first | exact HX2.out | (with_reducible refine Kd.C_alloc ?_ _) | (with_reducible refine Kd.C_drewN ?_ _) | (with_reducible refine Kd.C_drew ?_))); (case side2 => exact HX2L.out); (case side3 => exact (fixed_C (DW.hb (by repeat (first | exact HD.out | apply DW.alloc | apply DW.drew | apply DW.drewN))) (Kd.R_reads' (DW.l (by repeat (first | exact HD.out | apply DW.alloc | apply DW.drew | apply DW.drewN)))).2.2)); rintro e wn_ ⟨v0_, rfl, hN, hb⟩; refine ⟨_, rfl, ?_⟩; obtain ⟨Ad, cd, rfl⟩ := Kd.N_slice hN; have HX3 := Aside0.mk (Kd.N_reads' hN).2.2; have HX3L := Aside0.mk (Kd.N_reads' hN).2.1; clear hN HX2 HX2L; have n0_ := Aside0.mk (DW.below (by repeat (first | exact HD.out | apply DW.alloc | apply DW.drew | apply DW.drewN)) hb); clear HD; have HD := n0_; clear n0_; clear hb) | (go_at_call 38; (with_reducible refine (HC1.out _ _ _ ?side1 ?side2 ?side3).mono ?_); (case side1 => repeat (first | exact HX2.out | (with_reducible refine Kd.C_alloc ?_ _) | (with_reducible refine Kd.C_drewN ?_ _) | (with_reducible refine Kd.C_drew ?_))); (case side2 => exact HX2L.out); (case side3 => exact (fixed_C (DW.hb (by repeat (first | exact HD.out | apply DW.alloc | apply DW.drew | apply DW.drewN))) (Kd.R_reads' (DW.l (by repeat (first | exact HD.out | apply DW.alloc | apply DW.drew | apply DW.drewN)))).2.2)); rintro e wn_ ⟨v0_, rfl, hN, hb⟩; obtain ⟨Ad, cd, rfl⟩ := Kd.N_slice hN; have HX3 := Aside0.mk (Kd.N_reads' hN).2.2; have HX3L := Aside0.mk (Kd.N_reads' hN).2.1; clear hN HX2 HX2L; have n0_ := Aside0.mk (DW.below (by repeat (first | exact HD.out | apply DW.alloc | apply DW.drew | apply DW.drewN)) hb); clear HD; have HD := n0_; clear n0_; clear hb) | ((with_reducible refine gate_callee (f := 38) rfl ?_); refine goesL_ (some 95) rfl rfl Tryd.func38 (by kernel_rfl) rfl #[.slice Aa a.length ca, .slice Ad c1.length cd] rfl (by (try simp only [List.map_toArray, List.map_cons, List.map_nil]); first | done | rfl) ?_; (with_reducible refine (combine_calls _ _ a _ _ c1 c2 _ ?side1 ?side2 ?side3 ?side4 HC2.out).mono ?_); (case side1 => exact (Kd.S_reads' (DW.a (by repeat (first | exact HD.out | apply DW.alloc | apply DW.drew | apply DW.drewN)))).2.2); (case side2 => exact (Kd.S_reads' HD.out.a).2.1); (case side3 => repeat (first | exact HX3.out | (with_reducible refine Kd.C_alloc ?_ _) | (with_reducible refine Kd.C_drewN ?_ _) | (with_reducible refine Kd.C_drew ?_))); (case side4 => exact HX3L.out); rintro e wn_ ⟨v0_, rfl, hN, hb⟩; refine ⟨_, rfl, ?_⟩; have HSZ := Aside0.mk (zF_ (DW.hb (by repeat (first | exact HD.out | apply DW.alloc | apply DW.drew | apply DW.drewN)))); have HN := Aside0.mk hN; clear hN HX3 HX3L; have n0_ := Aside0.mk (DW.below (by repeat (first | exact HD.out | apply DW.alloc | apply DW.drew | apply DW.drewN)) hb); clear HD; have HD := n0_; clear n0_; clear hb) | (go_at_call 38; (with_reducible refine (combine_calls _ _ a _ _ c1 c2 _ ?side1 ?side2 ?side3 ?side4 HC2.out).mono ?_); (case side1 => exact (Kd.S_reads' (DW.a (by repeat (first | exact HD.out | apply DW.alloc | apply DW.drew | apply DW.drewN)))).2.2); (case side2 => exact (Kd.S_reads' HD.out.a).2.1); (case side3 => repeat (first | exact HX3.out | (with_reducible refine Kd.C_alloc ?_ _) | (with_reducible refine Kd.C_drewN ?_ _) | (with_reducible refine Kd.C_drew ?_))); (case side4 => exact HX3L.out); rintro e wn_ ⟨v0_, rfl, hN, hb⟩; have HSZ := Aside0.mk (zF_ (DW.hb (by repeat (first | exact HD.out | apply DW.alloc | apply DW.drew | apply DW.drewN)))); have HN := Aside0.mk hN; clear hN HX3 HX3L; have n0_ := Aside0.mk (DW.below (by repeat (first | exact HD.out | apply DW.alloc | apply DW.drew | apply DW.drewN)) hb); clear HD; have HD := n0_; clear n0_; clear hb))
        go_ret2
        exact ⟨_, by first | rfl | (simp; done), Kd.N_lower (Kd.N_mono HN.out (fun q hq => Nat.le_trans HSZ.out hq)) HSZ.out, DW.hb (by repeat (first | exact HD.out | apply DW.alloc | apply DW.drew | apply DW.drewN))⟩
     ·have h2 : (Lx.length : Int) < k := by have := HRG.out; omega
      rw [if_neg (by omega), if_pos h2] at hO
      subst hO
      clear hRW hC1 hC2 hlen
      go_wp2
      go_ret2
      exact ⟨_, by first | rfl | (simp; done), Kd.N_nil _ _ _ _ _, DW.hb (by repeat (first | exact HD.out | apply DW.alloc | apply DW.drew | apply DW.drewN))⟩
end Go.Proofs.YtnfgiamdmfkcjaaDoor.H
namespace Go.Proofs.YtnfgiamdmfkcjaaDoor.Red
open Go.RowKit Go.Proofs.YtnfgiamdmfkcjaaDoorW.PrintWords Go.Proofs.YtnfgiamdmfkcjaaDoor.Leaf Go.Proofs.YtnfgiamdmfkcjaaDoor.Gf Go.Proofs.YtnfgiamdmfkcjaaDoor.H Go.Proofs.YtnfgiamdmfkcjaaDoor.Mx Go.Proofs.YtnfgiamdmfkcjaaDoor.P
/-- What Inverse tells of a square matrix whose rows do not cancel out. -/
theorem invR_yes {A : Mat} {n : Nat} (hA : Reg A n n) (hn : 0 < n) (hn2 : n ≤ 255) (h : (redF n 0 0 A (idM n)).1 = n) : ∃ X, invR A = (oM X, 0) ∧ Reg X n n ∧ mulM A X = idM n ∧ mulM X A = idM n := by
 obtain ⟨r1, r2, r3⟩ := inverse_yes hn hA h
 refine ⟨(redF n 0 0 A (idM n)).2.2, ?_, r1, ?_, ?_⟩
 ·unfold invR
  rw [if_pos ⟨mayB_of hA hn hn2 hn hn2, by rw [hA.1, hA.2 0 hn]⟩, hA.1, if_neg (by omega)]
 ·refine mat_ext (mulM_reg hA r1 hn) (matF_reg n n I) fun i j hi hj => ?_
  rw [el_mulM hA r1 hn hi hj, r3 i j hi hj, idM_eq, el_matF I hi hj]
 ·refine mat_ext (mulM_reg r1 hA hn) (matF_reg n n I) fun i j hi hj => ?_
  rw [el_mulM r1 hA hn hi hj, r2 i j hi hj, idM_eq, el_matF I hi hj]
def ints (L : List Nat) : List Int := L.map fun (v : Nat) => (v : Int)
theorem ints_length (L : List Nat) : (ints L).length = L.length := List.length_map _
theorem row_rowsM (A : Mat) (L : List Nat) (i : Nat) (hi : i < L.length) : row (rowsM A (ints L)) i = row A (L.getD i 0) := by
 unfold rowsM ints
 rw [List.map_map]
 show (L.map _).getD i [] = _
 rw [List.getD_eq_getElem?_getD, List.getElem?_map, List.getD_eq_getElem?_getD, List.getElem?_eq_getElem hi]
 rfl
theorem rowsM_reg {A : Mat} {n m : Nat} (hA : Reg A n m) (L : List Nat) (h : ∀ v ∈ L, v < n) : Reg (rowsM A (ints L)) L.length m := by
 refine ⟨by unfold rowsM ints; rw [List.length_map, List.length_map], fun i hi => ?_⟩
 rw [row_rowsM A L i hi]
 exact hA.2 _ (h _ (getD_mem hi))
theorem cauM_may {k m : Nat} (hk : 1 ≤ k) (h : k + m ≤ 255) : mayB (cauM k m) = true := mayB_of (cauM_reg k m) (by omega) h hk (by omega)
theorem pick_inverse {k m : Nat} (hk : 1 ≤ k) (h : k + m ≤ 255) (L : List Nat) (hl : L.length = k) (hnd : L.Nodup) (hb : ∀ v ∈ L, v < k + m) :
 Reg (rowsM (cauM k m) (ints L)) k k ∧ ∃ X, invR (rowsM (cauM k m) (ints L)) = (oM X, 0) ∧ Reg X k k ∧ mulM (rowsM (cauM k m) (ints L)) X = idM k ∧ mulM X (rowsM (cauM k m) (ints L)) = idM k := by
 have hS : Reg (rowsM (cauM k m) (ints L)) k k := by
  have := rowsM_reg (cauM_reg k m) L hb
  rwa [hl] at this
 have hel : ∀ i j, i < k → j < k → el (rowsM (cauM k m) (ints L)) i j = cau k m (L.getD i 0) j := by
  intro i j hi hj
  unfold el
  rw [row_rowsM _ _ _ (by omega)]
  exact el_matF _ (hb _ (getD_mem (by omega))) hj
 refine ⟨hS, invR_yes hS (by omega) (by omega) ?_⟩
 have hle := redF_le (by omega) hS (matF_reg k k I)
 rw [← idM_eq] at hle
 by_cases hlt : (redF k 0 0 (rowsM (cauM k m) (ints L)) (idM k)).1 < k
 ·obtain ⟨y, hy, i, hi, hne⟩ := inverse_no (by omega) hS (matF_reg k k I) hlt
  exfalso
  refine hne (cauchy_regular h L hl hnd hb y (fun j hj => ?_) i hi)
  rw [← hy j hj]
  exact sm_congr fun i' hi' => by rw [hel i' j hi' hj]
 ·omega
end Go.Proofs.YtnfgiamdmfkcjaaDoor.Red
namespace Go.Proofs.YtnfgiamdmfkcjaaDoor.Red
open Go.RowKit Go.Proofs.YtnfgiamdmfkcjaaDoorW.PrintWords Go.Proofs.YtnfgiamdmfkcjaaDoor.Leaf Go.Proofs.YtnfgiamdmfkcjaaDoor.Gf Go.Proofs.YtnfgiamdmfkcjaaDoor.H Go.Proofs.YtnfgiamdmfkcjaaDoor.Mx Go.Proofs.YtnfgiamdmfkcjaaDoor.P
/-- The shards one has. -/
def selM (A : Mat) (H : List Bool) : Mat := (selN H H.length).map fun i => row A i
theorem selL_oM (A : Mat) (H : List Bool) : selL (oM A) H H.length = oM (selM A H) := by
  unfold selL selM oM
  rw [List.map_map]
  refine List.map_congr_left fun i _ => ?_
  exact rd_oM A i
theorem selR_ints (H : List Bool) (k : Nat) : (selR H H.length).take k = ints ((selN H H.length).take k) := by
  unfold selR ints
  rw [List.map_take]
theorem selN_nodup (H : List Bool) (s : Nat) : (selN H s).Nodup := List.Nodup.sublist List.filter_sublist List.nodup_range
theorem selN_lt {H : List Bool} {s v : Nat} (h : v ∈ selN H s) : v < s := List.mem_range.1 (List.mem_filter.1 h).1
theorem selM_length (A : Mat) (H : List Bool) : (selM A H).length = (selN H H.length).length := List.length_map _
/-- The rows of the code's matrix that belong to the first k shards one has. -/
def picM (k m : Nat) (H : List Bool) : Mat := rowsM (cauM k m) (ints ((selN H H.length).take k))
def decM (k m : Nat) (A : Mat) (H : List Bool) : Mat := mulM (cauM k m) (mulM (unM (invR (picM k m H)).1) ((selM A H).take k))
theorem pic_inverse {k m : Nat} (hk : 1 ≤ k) (h : k + m ≤ 255) {H : List Bool} (hH : H.length = k + m) (hn : k ≤ (selN H H.length).length) :
    rowsR (cauM k m) (ints ((selN H H.length).take k)) = (oM (picM k m H), 0) ∧ Reg (picM k m H) k k ∧ ∃ X, invR (picM k m H) = (oM X, 0) ∧ Reg X k k ∧ mulM (picM k m H) X = idM k ∧ mulM X (picM k m H) = idM k := by
  have hl : ((selN H H.length).take k).length = k := by rw [List.length_take]; omega
  have hb : ∀ v ∈ (selN H H.length).take k, v < k + m := fun v hv => by
    have := selN_lt (List.mem_of_mem_take hv)
    omega
  have hp := pick_inverse hk h ((selN H H.length).take k) hl (List.Nodup.sublist (List.take_sublist _ _) (selN_nodup H H.length)) hb
  refine ⟨?_, hp.1, hp.2⟩
  unfold rowsR
  rw [if_pos]
  · rfl
  · unfold rowsB
    rw [cauM_may hk h, ints_length, hl, decide_eq_true (by omega), decide_eq_true (by omega)]
    rw [Bool.true_and, Bool.true_and, Bool.true_and, List.all_eq_true]
    intro x hx
    obtain ⟨v, hv, rfl⟩ := List.mem_map.1 hx
    have := hb v hv
    rw [(cauM_reg k m).1, decide_eq_true (by omega), decide_eq_true (by omega)]
    rfl
theorem even_reg {D : Mat} (h : code_even.f (oM D) (D.length : Int) = some true) (h0 : 0 < D.length) : Reg D D.length (row D 0).length := by
  rw [code_even_eq D _ (by omega)] at h
  exact (evenB_iff D D.length).1 (Option.some.inj h)
theorem reg_take {D : Mat} {n p k : Nat} (h : Reg D n p) (hk : k ≤ n) : Reg (D.take k) k p := by
  refine ⟨by rw [List.length_take, h.1]; omega, fun i hi => ?_⟩
  have := h.2 i (by omega)
  have e : row (D.take k) i = row D i := by
    unfold row
    rw [List.getD_eq_getElem?_getD, List.getElem?_take_of_lt hi, List.getD_eq_getElem?_getD]
  rw [e]
  exact this
def evD (A : Mat) (H : List Bool) : Bool := ((code_even.f (oM (selM A H)) ((selM A H).length : Int)).getD false)
theorem row_len {A : Mat} {H : List Bool} (hr : ∀ i, i < A.length → (row A i).length ≤ 140737488355327) (i : Nat) (hi : i < (selM A H).length) : (row (selM A H) i).length ≤ 140737488355327 := by
  unfold selM at hi ⊢
  rw [List.length_map] at hi
  have e : row ((selN H H.length).map fun i => row A i) i = row A ((selN H H.length)[i]) := by
    show (((selN H H.length).map fun i => row A i).getD i []) = _
    rw [List.getD_eq_getElem?_getD, List.getElem?_map, List.getElem?_eq_getElem hi]
    rfl
  rw [e]
  by_cases h : (selN H H.length)[i] < A.length
  · exact hr _ h
  · have : row A ((selN H H.length)[i]) = [] := by
      unfold row
      rw [List.getD_eq_getElem?_getD, List.getElem?_eq_none (by omega)]
      rfl
    rw [this]
    exact Nat.zero_le _
theorem dec_facts (k m : Int) (hk : -9223372036854775808 ≤ k) (A : Mat) (hr : ∀ i, i < A.length → (row A i).length ≤ 140737488355327) (H : List Bool) :
    DecFacts k m (oM A) H (cauR k m).1 (cauR k m).2 (evD A H) (oM (picM k.toNat m.toNat H)) (invR (picM k.toNat m.toNat H)).1 (oM (mulM (unM (invR (picM k.toNat m.toNat H)).1) ((selM A H).take k.toNat))) (oM (decM k.toNat m.toNat A H)) 0 (invR (picM k.toNat m.toNat H)).2 := by
  have hrng : (cauR k m).2 = 0 → 1 ≤ k ∧ 1 ≤ m ∧ k + m ≤ 255 := fun h => by
    unfold cauR at h
    by_cases h1 : 1 ≤ k ∧ 1 ≤ m ∧ m ≤ 255 - k
    · omega
    · rw [if_neg h1] at h
      exact absurd h (by decide)
  have heven : code_even.f (selL (oM A) H H.length) ((selL (oM A) H H.length).length : Int) = some (evD A H) := by
    rw [selL_oM, oM_length]
    unfold evD code_even.f
    rfl
  have hcau : (cauR k m).2 = 0 → (cauR k m).1 = oM (cauM k.toNat m.toNat) := fun h => by
    have := hrng h
    unfold cauR
    rw [if_pos (by omega)]
  have hlen : (selL (oM A) H H.length).length = (selN H H.length).length := by unfold selL; rw [List.length_map]
  refine ⟨evCauchy k m hk, hrng, heven, fun h0 he hS hH hl => ?_, matrix_Inverse.f_oM _, fun h0 he hS hH hl => ?_, fun h0 he hS hH hl => ?_⟩
  · have hg := hrng h0
    obtain ⟨kn, rfl⟩ := Int.eq_ofNat_of_zero_le (show 0 ≤ k by omega)
    obtain ⟨mn, rfl⟩ := Int.eq_ofNat_of_zero_le (show 0 ≤ m by omega)
    rw [hcau h0, selR_ints]
    simp only [Int.toNat_natCast]
    have hp := pic_inverse (k := kn) (m := mn) (by omega) (by omega) (H := H) (by omega) (by omega)
    have h := evRows (cauM kn mn) (by rw [(cauM_reg kn mn).1]; omega) (ints ((selN H H.length).take kn))
    rw [hp.1] at h
    exact h
  · have hg := hrng h0
    obtain ⟨kn, rfl⟩ := Int.eq_ofNat_of_zero_le (show 0 ≤ k by omega)
    obtain ⟨mn, rfl⟩ := Int.eq_ofNat_of_zero_le (show 0 ≤ m by omega)
    obtain ⟨_, _, X, hX, hR, _⟩ := pic_inverse (k := kn) (m := mn) (by omega) (by omega) (H := H) (by omega) (by omega)
    simp only [Int.toNat_natCast]
    have hlen2 : kn ≤ (selM A H).length := by rw [selM_length]; omega
    rw [he, selL_oM, oM_length] at heven
    have hD := even_reg heven (by omega)
    rw [hX, unM_oM, selL_oM]
    have e : (oM (selM A H)).take kn = oM ((selM A H).take kn) := by unfold oM; rw [List.map_take]
    rw [e]
    exact evCombine hR (reg_take hD hlen2) (by omega) (by omega) (by omega) (row_len hr 0 (by omega))
  · have hg := hrng h0
    rw [hcau h0]
    obtain ⟨kn, rfl⟩ := Int.eq_ofNat_of_zero_le (show 0 ≤ k by omega)
    obtain ⟨mn, rfl⟩ := Int.eq_ofNat_of_zero_le (show 0 ≤ m by omega)
    obtain ⟨_, _, X, hX, hR, _⟩ := pic_inverse (k := kn) (m := mn) (by omega) (by omega) (H := H) (by omega) (by omega)
    unfold decM
    simp only [Int.toNat_natCast]
    have hlen2 : kn ≤ (selM A H).length := by rw [selM_length]; omega
    rw [he, selL_oM, oM_length] at heven
    have hD := even_reg heven (by omega)
    rw [hX, unM_oM]
    exact evCombine (cauM_reg kn mn) (mulM_reg hR (reg_take hD hlen2) (by omega)) (by omega) (by omega) (by omega) (row_len hr 0 (by omega))
/-- What Decode answers. -/
def decR (k m : Int) (A : Mat) (H : List Bool) : List (List Int) × Int :=
  if codeB k m = true ∧ (A.length : Int) = k + m ∧ (H.length : Int) = k + m then
    (if 0 < (selM A H).length ∧ evD A H = false then ([], 1) else if ((selM A H).length : Int) < k then ([], 4) else (oM (decM k.toNat m.toNat A H), 0))
  else ([], 1)
theorem decO_eq (k m : Int) (A : Mat) (H : List Bool) : decO k m (oM A) H (cauR k m).2 (evD A H) (oM (decM k.toNat m.toNat A H)) = decR k m A H := by
  unfold decO decR
  rw [selL_oM, oM_length, oM_length]
  rcases codeB_form k m with ⟨h1, k', m', rfl, rfl, _, _, _, e⟩ | ⟨h1, e⟩
  · rw [e, h1]
    simp only [true_and]
  · rw [e, h1]
    rw [if_neg (fun h => absurd h.1 (by decide)), if_neg (fun h => absurd h.1 (by decide))]
end Go.Proofs.YtnfgiamdmfkcjaaDoor.Red
namespace Go.Proofs.YtnfgiamdmfkcjaaDoor.H
open Go.RowKit Go.Proofs.YtnfgiamdmfkcjaaDoorW.PrintWords Go.Proofs.YtnfgiamdmfkcjaaDoor.Leaf Go.Proofs.YtnfgiamdmfkcjaaDoor.Gf Go.Proofs.YtnfgiamdmfkcjaaDoor.Red Go.Proofs.YtnfgiamdmfkcjaaDoor.Mx Go.Proofs.YtnfgiamdmfkcjaaDoor.P
def code_Decode.f (a0 a1 : Int) (l2 : List (List Int)) (l3 : List Bool) : Option (List (List Int) × Int) :=
  if l2.all byteRow = true ∧ -9223372036854775808 ≤ a0 ∧ (l2.all fun r => decide (r.length ≤ 140737488355327)) = true then some (decR a0 a1 (unM l2) l3) else none
theorem code_Decode.calls (a0 : Int) (a1 : Int) (A2 : Option Addr) (c2 : Nat) (l2 : List (List Int)) (A3 : Option Addr) (c3 : Nat) (l3 : List Bool) (r1 : List (List Int)) (r2 : Int) (w : World) (hr2 : Kd.C (Kd.slice 5 (Kd.int .u8)) w A2 l2.length l2) (hc2 : l2.length ≤ c2) (hr3 : Kd.C Kd.bool w A3 l3.length l3) (hc3 : l3.length ≤ c3) (h : code_Decode.f a0 a1 l2 l3 = some (r1, r2)) :
    Calls Tryd.prog 15 #[.int .i64 a0, .int .i64 a1, .slice A2 l2.length c2, .slice A3 l3.length c3] w fun e w' => ∃ v0_ : Value, e = .returned (.tuple #[v0_, .int .i64 r2]) ∧ Kd.N (Kd.slice 5 (Kd.int .u8)) 22 w' w.heap.size (fun k_ => (w.heap.size ≤ k_)) v0_ r1 ∧ Below w.heap.size w w' := by
  unfold code_Decode.f at h
  by_cases hby : l2.all byteRow = true ∧ -9223372036854775808 ≤ a0 ∧ (l2.all fun r => decide (r.length ≤ 140737488355327)) = true
  · rw [if_pos hby] at h
    obtain ⟨hb, ha, hl⟩ := hby
    obtain ⟨A, rfl⟩ : ∃ A : Mat, l2 = oM A := ⟨unM l2, (oM_unM l2 hb).symm⟩
    rw [unM_oM] at h
    have hr : ∀ i, i < A.length → (row A i).length ≤ 140737488355327 := fun i hi => by
      have hm : ofL (A[i]) ∈ oM A := List.mem_map.2 ⟨_, List.getElem_mem hi, rfl⟩
      have h2 := of_decide_eq_true (List.all_eq_true.1 hl _ hm)
      rw [zG_] at h2
      have e : row A i = A[i] := by unfold row; rw [List.getD_eq_getElem?_getD, List.getElem?_eq_getElem hi]; rfl
      rw [e]
      exact h2
    have hc := Decode.calls a0 a1 A2 c2 (oM A) A3 c3 l3 _ _ _ _ _ _ _ _ _ w hr2 hc2 hr3 hc3 (dec_facts a0 a1 ha A hr l3)
    rw [decO_eq, Option.some.inj h] at hc
    exact hc
  · rw [if_neg hby] at h
    cases h
end Go.Proofs.YtnfgiamdmfkcjaaDoor.H
namespace Go.Proofs.YtnfgiamdmfkcjaaDoor.P
open Go.Proofs.YtnfgiamdmfkcjaaDoor.Leaf
open Go.RowKit Go.Proofs.YtnfgiamdmfkcjaaDoorW.PrintWords Go.Proofs.YtnfgiamdmfkcjaaDoorW.PrintLast Go.Proofs.YtnfgiamdmfkcjaaDoorW.PrintMore
attribute [local go_sem] max2_int min2_int max_two min_two max_three min_three max_four min_four
def wTl_.l0 : Nat → List Int → Int → Option (List Int)
 | 0, _, _ => none
 | k + 1, x0, x1 => if (x0.length : Int) > 0 then (if 0 < (x0.length : Int) then (if (rd x0 0) = x1 then (if 1 ≤ (x0.length : Int) then (wTl_.l0 k (x0.drop 1) x1) else (none)) else (if (x0.length : Int) = 0 then (some ([] : List Int)) else (some x0))) else (none)) else (if (x0.length : Int) = 0 then (some ([] : List Int)) else (some x0))
def wTl_.f (k : Nat) (l0 : List Int) (a1 : Int) : Option (List Int) := wTl_.l0 k l0 a1
theorem wTl_.mono_l : ∀ k, (∀ y0 y1, LeO (wTl_.l0 k y0 y1) (wTl_.l0 (k + 1) y0 y1))
 | 0 => fun _ _ r h => by simp [wTl_.l0] at h
 | k + 1 => by
  have ih0 := wTl_.mono_l k
  ·intro y0 y1
   unfold wTl_.l0
   repeat' first
   | (with_reducible exact ih0 _ _)
   | (with_reducible exact LeO.refl _)
   | (with_reducible exact LeO.none _)
   | (with_reducible refine LeO.ite ?_ ?_)
   | (with_reducible refine LeO.bind ?_ (fun _ => ?_))
   | exact ih0 _ _
   | exact LeO.none _
   | refine LeO.ite ?_ ?_
   | refine LeO.bind ?_ (fun _ => ?_)
theorem wTl_.mono : ∀ a0 a1 k, LeO (wTl_.f k a0 a1) (wTl_.f (k + 1) a0 a1) := by
 intro a0 a1 k
 have ih0 := wTl_.mono_l k
 unfold wTl_.f
 repeat' first
  | (with_reducible exact ih0 _ _)
  | (with_reducible exact LeO.refl _)
  | (with_reducible exact LeO.none _)
  | (with_reducible refine LeO.ite ?_ ?_)
  | (with_reducible refine LeO.bind ?_ (fun _ => ?_))
  | exact ih0 _ _
  | exact LeO.none _
  | refine LeO.ite ?_ ?_
  | refine LeO.bind ?_ (fun _ => ?_)
set_option maxHeartbeats 8000000 in
set_option maxRecDepth 100000 in
theorem wTl_.calls (k : Nat) (P0_ : Nat → Prop) (A0 : Option Addr) (c0 : Nat) (l0 : List Int) (a1 : Int) (r : List Int) (w : World) (hs0 : Kd.V (Kd.int .u8) 5 w w.heap.size (fun k_ => P0_ k_) (.slice A0 l0.length c0) l0) (h : wTl_.f k l0 a1 = some r) :
 Calls Tryd.prog 56 #[.slice A0 l0.length c0, .int .u8 a1] w fun e w' => ∃ v0_ : Value, e = .returned (v0_) ∧ Kd.V (Kd.int .u8) 5 w' w.heap.size (fun k_ => (P0_ k_ ∨ w.heap.size ≤ k_)) v0_ r ∧ Below w.heap.size w w' := by
 have HO0 := Aside0.mk (show Kd.V (Kd.int .u8) 5 w w.heap.size (fun k_ => (P0_ k_ ∨ w.heap.size ≤ k_)) (.slice A0 l0.length c0) l0 from Kd.V_mono hs0 (fun k_ hk => .inl hk))
 have HB := Aside0.mk (Below.refl w.heap.size w)
 have H : (wTl_.l0 k l0 a1) = some r := h
 clear h
 have H' := Aside0.mk H
 clear H
 go_enter Tryd.func56, Tryd.ntmps56
 go_wp2
 go_loopg [0] k (fun kq v0 w' => ∃ (x0_1 : List Int), Aside0 (wTl_.l0 kq x0_1 a1 = some r) ∧ Aside0 (kq ≤ k) ∧ Aside0 (Kd.V (Kd.int .u8) 5 w' w.heap.size (fun k_ => (P0_ k_ ∨ w.heap.size ≤ k_)) v0 x0_1) ∧ Aside0 (Below w.heap.size w w'))
 case atStart => exact ⟨(l0), H', ⟨Nat.le_refl _⟩, ⟨by (with_reducible repeat (first | apply Kd.V_alloc | apply Kd.V_drewN | apply Kd.V_drew)); exact HO0.out⟩, ⟨by repeat (first | (with_reducible first | exact HB.out | apply zC_ | apply zA_ | apply zB_) | exact HB.out)⟩⟩
 case round =>
  clear H'
  try clear p2
  obtain ⟨x0_1, HA, HK1, HO_0, HB⟩ := hrel
  cases gk with
  | zero => exact absurd HA.out (by simp [wTl_.l0])
  | succ k1 =>
   have H := HA.out
   clear HA
   simp only [wTl_.l0] at H
   by_cases c3 : (x0_1.length : Int) > 0
   ·rw [if_pos c3] at H
    have c3b0 : decide (0 < (x0_1.length : Int)) = true := decide_eq_true c3
    have c3b1 : decide (0 < x0_1.length) = true := decide_eq_true (by omega)
    clear c3
    by_cases c4 : 0 < (x0_1.length : Int)
    ·rw [if_pos c4] at H
     have c4b0 : decide (0 < (x0_1.length : Int)) = true := decide_eq_true c4
     have c4b1 : decide (0 < x0_1.length) = true := decide_eq_true (by omega)
     clear c4
     by_cases c5 : (rd x0_1 0) = a1
     ·rw [if_pos c5] at H
      have c5b0 : ((rd x0_1 0) == a1) = true := beq_iff_eq.mpr c5
      have c5b1 : ((rd x0_1 0) != a1) = false := bne_eq_false_iff_eq.mpr c5
      clear c5
      by_cases c6 : 1 ≤ (x0_1.length : Int)
      ·rw [if_pos c6] at H
       have c6b0 := eq_true c6
       have c6b1 : decide (1 ≤ (x0_1.length : Int)) = true := decide_eq_true c6
       clear c6
       obtain ⟨y102, hy102⟩ : ∃ y_ : List Int, y_ = (x0_1.drop 1) := ⟨_, rfl⟩
       replace H : (wTl_.l0 k1 y102 a1) = some r := by first | (rw [hy102]; with_reducible exact H) | (have H2_ := (Option.bind_some _ _).symm.trans H; rw [hy102]; with_reducible exact H2_) | (have H2_ := (Option.bind_some _ _).symm.trans H; with_reducible exact H2_) | with_reducible exact H | (rw [hy102]; exact H) | exact H
       have Ny102 := Aside0.mk hy102
       clear hy102
       have H' := Aside0.mk H
       clear H
       obtain ⟨Ao7, co7, eo7⟩ := Kd.V_slice HO_0.out
       subst eo7
       have p101 : 0 ≤ (0 : Int) := (by omega)
       have q101 : 0 < (x0_1.length : Int) := of_decide_eq_true (by first | (with_reducible assumption) | assumption)
       obtain ⟨ad101, e101, hx101_0⟩ := Kd.at_int (Kd.V_reads' HO_0.out).2.2 0 p101 q101
       cases e101
       have qi101 : (0 < x0_1.length) = True := eq_true (by omega)
       (try rw [show ((0 : Int)).toNat = 0 from rfl] at hx101_0)
       (try rw [Addr.add_zero'] at hx101_0)
       replace p101 := eq_true p101
       replace q101 := eq_true q101
       have q8 : (1 : Int) ≤ ((x0_1.length : Int) : Int) := of_decide_eq_true (by first | (with_reducible assumption) | assumption)
       obtain ⟨i08, hi08, _, hsz8, _⟩ := info_parts info5
       have hroom8 : x0_1.length ≤ co7 := (Kd.V_reads' HO_0.out).2.1
       have hC8 : Kd.F (Kd.int .u8) _ _ (some ad101) x0_1.length x0_1 := (Kd.V_at (base := w.heap.size) HO_0.out).2.2
       have hcut8 := cut_from (P := Tryd.prog) 22 5 .i64 Tryd.underlying22 hi08 1 hsz8 (some ad101) x0_1.length co7 1 (by omega) q8
       have hr8 := Kd.F_cut (m := (1 : Int).toNat) (c := co7) hC8 (by omega) hroom8
       obtain ⟨A8, hA8⟩ : ∃ A1, A1 = (if co7 = (1 : Int).toNat then (some ad101) else ((some ad101) : Option Addr).map (·.add ((1 : Int).toNat * 1))) := ⟨_, rfl⟩
       obtain ⟨c8, hc8⟩ : ∃ c1, c1 = co7 - (1 : Int).toNat := ⟨_, rfl⟩
       have hy8 : y102.length = x0_1.length - (1 : Int).toNat := (by rw [Ny102.out, List.length_drop] <;> omega)
       rw [show (x0_1).drop (1 : Int).toNat = y102 from Ny102.out.symm] at hr8
       replace hr8 : Kd.F (Kd.int .u8) _ _ A8 y102.length y102 := (by rw [hA8]; exact hr8)
       rw [← hy8, ← hA8, ← hc8] at hcut8
       have HO106 := Aside0.mk (show Kd.V (Kd.int .u8) 5 _ w.heap.size _ (.slice A8 y102.length c8) y102 from Kd.V_mk (by rw [hy8, hc8]; exact Nat.sub_le_sub_right hroom8 _) hr8)
       have HC106 := Aside0.mk (show y102.length ≤ c8 from by rw [hy8, hc8]; exact Nat.sub_le_sub_right hroom8 _)
       clear hr8 hC8 hroom8 hi08 hsz8 hc8
       have KY8 := Aside0.mk hy8
       have KA8 := Aside0.mk hA8
       clear hy8 hA8
       replace q8 := eq_true q8
       go_wp2
       go_roundg k1
       case measure => have := HK1.out; omega
       case rel => exact ⟨(y102), H', ⟨by have := HK1.out; omega⟩, ⟨by (with_reducible repeat (first | apply Kd.V_alloc | apply Kd.V_drewN | apply Kd.V_drew)); exact HO106.out⟩, ⟨by repeat (first | (with_reducible first | exact HB.out | apply zC_ | apply zA_ | apply zB_) | exact HB.out)⟩⟩
      ·rw [if_neg c6] at H
       exact absurd H (by simp)
     ·rw [if_neg c5] at H
      have c5b0 : ((rd x0_1 0) == a1) = false := beq_eq_false_iff_ne.mpr c5
      have c5b1 : ((rd x0_1 0) != a1) = true := bne_iff_ne.mpr c5
      by_cases c9 : (x0_1.length : Int) = 0
      ·rw [if_pos c9] at H
       have c9b0 : ((x0_1.length : Int) == 0) = true := beq_iff_eq.mpr c9
       have c9b1 : ((x0_1.length : Int) != 0) = false := bne_eq_false_iff_eq.mpr c9
       clear c9
       obtain rfl := Option.some.inj H
       obtain ⟨Ao10, co10, eo10⟩ := Kd.V_slice HO_0.out
       subst eo10
       have p101 : 0 ≤ (0 : Int) := (by omega)
       have q101 : 0 < (x0_1.length : Int) := of_decide_eq_true (by first | (with_reducible assumption) | assumption)
       obtain ⟨ad101, e101, hx101_0⟩ := Kd.at_int (Kd.V_reads' HO_0.out).2.2 0 p101 q101
       cases e101
       have qi101 : (0 < x0_1.length) = True := eq_true (by omega)
       (try rw [show ((0 : Int)).toNat = 0 from rfl] at hx101_0)
       (try rw [Addr.add_zero'] at hx101_0)
       replace p101 := eq_true p101
       replace q101 := eq_true q101
       go_wp2
       go_ret
       exact ⟨_, by first | rfl | (simp [errW_none, errW_some] <;> rfl) | (simp [*, errW_none, errW_some] <;> rfl), (by first | exact Kd.V_nil _ _ _ _ _ | exact Kd.V_mono (Kd.R_V (by first | exact Kd.R_nil _ _ _ _ _ | exact Kd.N_nil _ _ _ _ _ | exact Kd.V_nil _ _ _ _ _ | exact Kd.Q_nil _ _ _ _ _ | exact Kd.S_nil _ _ _ _ _)) (fun k_ hk => by first | exact ⟨(.inr (hk.1)), hk.2⟩ | exact (.inr (hk)))), by repeat (first | (with_reducible first | exact HB.out | apply zC_ | apply zA_ | apply zB_) | exact HB.out)⟩
      ·rw [if_neg c9] at H
       have c9b0 : ((x0_1.length : Int) == 0) = false := beq_eq_false_iff_ne.mpr c9
       have c9b1 : ((x0_1.length : Int) != 0) = true := bne_iff_ne.mpr c9
       have c9b2 : ¬ (x0_1 = []) := fun h_ => c9 (by rw [h_]; rfl)
       obtain rfl := Option.some.inj H
       obtain ⟨Ao11, co11, eo11⟩ := Kd.V_slice HO_0.out
       subst eo11
       have p101 : 0 ≤ (0 : Int) := (by omega)
       have q101 : 0 < (x0_1.length : Int) := of_decide_eq_true (by first | (with_reducible assumption) | assumption)
       obtain ⟨ad101, e101, hx101_0⟩ := Kd.at_int (Kd.V_reads' HO_0.out).2.2 0 p101 q101
       cases e101
       have qi101 : (0 < x0_1.length) = True := eq_true (by omega)
       (try rw [show ((0 : Int)).toNat = 0 from rfl] at hx101_0)
       (try rw [Addr.add_zero'] at hx101_0)
       replace p101 := eq_true p101
       replace q101 := eq_true q101
       go_wp2
       go_ret
       exact ⟨_, by first | rfl | (simp [errW_none, errW_some] <;> rfl) | (simp [*, errW_none, errW_some] <;> rfl), by (with_reducible repeat (first | apply Kd.V_alloc | apply Kd.V_drewN | apply Kd.V_drew)); exact HO_0.out, by repeat (first | (with_reducible first | exact HB.out | apply zC_ | apply zA_ | apply zB_) | exact HB.out)⟩
    ·rw [if_neg c4] at H
     exact absurd H (by simp)
   ·rw [if_neg c3] at H
    have c3b0 : decide (0 < (x0_1.length : Int)) = false := decide_eq_false c3
    have c3b1 : decide (0 < x0_1.length) = false := decide_eq_false (by omega)
    clear c3
    by_cases c12 : (x0_1.length : Int) = 0
    ·rw [if_pos c12] at H
     have c12b0 : ((x0_1.length : Int) == 0) = true := beq_iff_eq.mpr c12
     have c12b1 : ((x0_1.length : Int) != 0) = false := bne_eq_false_iff_eq.mpr c12
     clear c12
     obtain rfl := Option.some.inj H
     obtain ⟨Ao13, co13, eo13⟩ := Kd.V_slice HO_0.out
     subst eo13
     go_wp2
     go_ret
     exact ⟨_, by first | rfl | (simp [errW_none, errW_some] <;> rfl) | (simp [*, errW_none, errW_some] <;> rfl), (by first | exact Kd.V_nil _ _ _ _ _ | exact Kd.V_mono (Kd.R_V (by first | exact Kd.R_nil _ _ _ _ _ | exact Kd.N_nil _ _ _ _ _ | exact Kd.V_nil _ _ _ _ _ | exact Kd.Q_nil _ _ _ _ _ | exact Kd.S_nil _ _ _ _ _)) (fun k_ hk => by first | exact ⟨(.inr (hk.1)), hk.2⟩ | exact (.inr (hk)))), by repeat (first | (with_reducible first | exact HB.out | apply zC_ | apply zA_ | apply zB_) | exact HB.out)⟩
    ·rw [if_neg c12] at H
     have c12b0 : ((x0_1.length : Int) == 0) = false := beq_eq_false_iff_ne.mpr c12
     have c12b1 : ((x0_1.length : Int) != 0) = true := bne_iff_ne.mpr c12
     have c12b2 : ¬ (x0_1 = []) := fun h_ => c12 (by rw [h_]; rfl)
     obtain rfl := Option.some.inj H
     obtain ⟨Ao14, co14, eo14⟩ := Kd.V_slice HO_0.out
     subst eo14
     go_wp2
     go_ret
     exact ⟨_, by first | rfl | (simp [errW_none, errW_some] <;> rfl) | (simp [*, errW_none, errW_some] <;> rfl), by (with_reducible repeat (first | apply Kd.V_alloc | apply Kd.V_drewN | apply Kd.V_drew)); exact HO_0.out, by repeat (first | (with_reducible first | exact HB.out | apply zC_ | apply zA_ | apply zB_) | exact HB.out)⟩
def wTr_.l0 : Nat → List Int → Int → Option (List Int)
 | 0, _, _ => none
 | k + 1, x0, x1 => if (x0.length : Int) > 0 then (if 0 ≤ (wrap64 ((x0.length : Int) - 1)) then (if (wrap64 ((x0.length : Int) - 1)) < (x0.length : Int) then (if (rd x0 (wrap64 ((x0.length : Int) - 1))) = x1 then (if (wrap64 ((x0.length : Int) - 1)) ≤ (x0.length : Int) then (wTr_.l0 k (x0.take ((wrap64 ((x0.length : Int) - 1)) : Int).toNat) x1) else (none)) else (some x0)) else (none)) else (none)) else (some x0)
def wTr_.f (k : Nat) (l0 : List Int) (a1 : Int) : Option (List Int) := wTr_.l0 k l0 a1
theorem wTr_.mono_l : ∀ k, (∀ y0 y1, LeO (wTr_.l0 k y0 y1) (wTr_.l0 (k + 1) y0 y1))
 | 0 => fun _ _ r h => by simp [wTr_.l0] at h
 | k + 1 => by
  have ih0 := wTr_.mono_l k
  ·intro y0 y1
   unfold wTr_.l0
   repeat' first
   | (with_reducible exact ih0 _ _)
   | (with_reducible exact LeO.refl _)
   | (with_reducible exact LeO.none _)
   | (with_reducible refine LeO.ite ?_ ?_)
   | (with_reducible refine LeO.bind ?_ (fun _ => ?_))
   | exact ih0 _ _
   | exact LeO.none _
   | refine LeO.ite ?_ ?_
   | refine LeO.bind ?_ (fun _ => ?_)
theorem wTr_.mono : ∀ a0 a1 k, LeO (wTr_.f k a0 a1) (wTr_.f (k + 1) a0 a1) := by
 intro a0 a1 k
 have ih0 := wTr_.mono_l k
 unfold wTr_.f
 repeat' first
  | (with_reducible exact ih0 _ _)
  | (with_reducible exact LeO.refl _)
  | (with_reducible exact LeO.none _)
  | (with_reducible refine LeO.ite ?_ ?_)
  | (with_reducible refine LeO.bind ?_ (fun _ => ?_))
  | exact ih0 _ _
  | exact LeO.none _
  | refine LeO.ite ?_ ?_
  | refine LeO.bind ?_ (fun _ => ?_)
set_option maxHeartbeats 8000000 in
set_option maxRecDepth 100000 in
theorem wTr_.calls (k : Nat) (P0_ : Nat → Prop) (A0 : Option Addr) (c0 : Nat) (l0 : List Int) (a1 : Int) (r : List Int) (w : World) (hs0 : Kd.V (Kd.int .u8) 5 w w.heap.size (fun k_ => P0_ k_) (.slice A0 l0.length c0) l0) (h : wTr_.f k l0 a1 = some r) :
 Calls Tryd.prog 57 #[.slice A0 l0.length c0, .int .u8 a1] w fun e w' => ∃ v0_ : Value, e = .returned (v0_) ∧ Kd.V (Kd.int .u8) 5 w' w.heap.size (fun k_ => (P0_ k_ ∨ w.heap.size ≤ k_)) v0_ r ∧ Below w.heap.size w w' := by
 have HO0 := Aside0.mk (show Kd.V (Kd.int .u8) 5 w w.heap.size (fun k_ => (P0_ k_ ∨ w.heap.size ≤ k_)) (.slice A0 l0.length c0) l0 from Kd.V_mono hs0 (fun k_ hk => .inl hk))
 have HB := Aside0.mk (Below.refl w.heap.size w)
 have H : (wTr_.l0 k l0 a1) = some r := h
 clear h
 have H' := Aside0.mk H
 clear H
 go_enter Tryd.func57, Tryd.ntmps57
 go_wp2
 go_loopg [0] k (fun kq v0 w' => ∃ (x0_1 : List Int), Aside0 (wTr_.l0 kq x0_1 a1 = some r) ∧ Aside0 (kq ≤ k) ∧ Aside0 (Kd.V (Kd.int .u8) 5 w' w.heap.size (fun k_ => (P0_ k_ ∨ w.heap.size ≤ k_)) v0 x0_1) ∧ Aside0 (Below w.heap.size w w'))
 case atStart => exact ⟨(l0), H', ⟨Nat.le_refl _⟩, ⟨by (with_reducible repeat (first | apply Kd.V_alloc | apply Kd.V_drewN | apply Kd.V_drew)); exact HO0.out⟩, ⟨by repeat (first | (with_reducible first | exact HB.out | apply zC_ | apply zA_ | apply zB_) | exact HB.out)⟩⟩
 case round =>
  clear H'
  try clear p2
  obtain ⟨x0_1, HA, HK1, HO_0, HB⟩ := hrel
  cases gk with
  | zero => exact absurd HA.out (by simp [wTr_.l0])
  | succ k1 =>
   have H := HA.out
   clear HA
   simp only [wTr_.l0] at H
   by_cases c3 : (x0_1.length : Int) > 0
   ·rw [if_pos c3] at H
    have c3b0 : decide (0 < (x0_1.length : Int)) = true := decide_eq_true c3
    have c3b1 : decide (0 < x0_1.length) = true := decide_eq_true (by omega)
    clear c3
    obtain ⟨ji4, hji4⟩ : ∃ j_ : Int, (wrap64 ((x0_1.length : Int) - 1)) = j_ := ⟨_, rfl⟩
    replace H : (if 0 ≤ (ji4) then (if (ji4) < (x0_1.length : Int) then (if (rd x0_1 (ji4)) = a1 then (if (ji4) ≤ (x0_1.length : Int) then (wTr_.l0 k1 (x0_1.take ((ji4) : Int).toNat) a1) else (none)) else (some x0_1)) else (none)) else (none)) = some r := by first | (rw [hji4] at H; exact H) | (simp only [hji4] at H ⊢; exact H)
    have hji4w : (IntKind.i64.wrap ((x0_1.length : Int) - 1)) = ji4 := (i64_w _).trans hji4
    by_cases c5 : 0 ≤ (ji4)
    ·rw [if_pos c5] at H
     have c5b0 : decide (0 ≤ (ji4)) = true := decide_eq_true c5
     clear c5
     by_cases c6 : (ji4) < (x0_1.length : Int)
     ·rw [if_pos c6] at H
      have c6b0 : decide ((ji4) < (x0_1.length : Int)) = true := decide_eq_true c6
      clear c6
      by_cases c7 : (rd x0_1 (ji4)) = a1
      ·rw [if_pos c7] at H
       have c7b0 : ((rd x0_1 (ji4)) == a1) = true := beq_iff_eq.mpr c7
       have c7b1 : ((rd x0_1 (ji4)) != a1) = false := bne_eq_false_iff_eq.mpr c7
       clear c7
       have c8b0 := eq_true (of_decide_eq_true (by first | (with_reducible assumption) | assumption) : 0 ≤ (ji4))
       by_cases c9 : (ji4) ≤ (x0_1.length : Int)
       ·rw [if_pos c9] at H
        have c9b0 := eq_true c9
        have c9b1 : decide ((ji4) ≤ (x0_1.length : Int)) = true := decide_eq_true c9
        clear c9
        obtain ⟨y102, hy102⟩ : ∃ y_ : List Int, y_ = (x0_1.take ((ji4) : Int).toNat) := ⟨_, rfl⟩
        replace H : (wTr_.l0 k1 y102 a1) = some r := by first | (rw [hy102]; with_reducible exact H) | (have H2_ := (Option.bind_some _ _).symm.trans H; rw [hy102]; with_reducible exact H2_) | (have H2_ := (Option.bind_some _ _).symm.trans H; with_reducible exact H2_) | with_reducible exact H | (rw [hy102]; exact H) | exact H
        have Ny102 := Aside0.mk hy102
        clear hy102
        have H' := Aside0.mk H
        clear H
        obtain ⟨Ao10, co10, eo10⟩ := Kd.V_slice HO_0.out
        subst eo10
        have p101 : 0 ≤ ((ji4) : Int) := of_decide_eq_true (by first | (with_reducible assumption) | assumption)
        have q101 : (ji4) < (x0_1.length : Int) := of_decide_eq_true (by first | (with_reducible assumption) | assumption)
        obtain ⟨ad101, e101, hx101_0⟩ := Kd.at_int (Kd.V_reads' HO_0.out).2.2 (ji4) p101 q101
        cases e101
        replace p101 := eq_true p101
        replace q101 := eq_true q101
        have q11 : ((ji4) : Int) ≤ ((x0_1.length : Int) : Int) := of_decide_eq_true (by first | (with_reducible assumption) | assumption)
        obtain ⟨i011, hi011, _, hsz11, _⟩ := info_parts info5
        have hroom11 : x0_1.length ≤ co10 := (Kd.V_reads' HO_0.out).2.1
        have hC11 : Kd.F (Kd.int .u8) _ _ (some ad101) x0_1.length x0_1 := (Kd.V_at (base := w.heap.size) HO_0.out).2.2
        have hcut11 := cut_to (P := Tryd.prog) 22 5 .i64 Tryd.underlying22 hi011 (some ad101) x0_1.length co10 (ji4) (of_decide_eq_true (by first | (with_reducible assumption) | assumption)) q11 hroom11
        have hr11 := Kd.F_take (m := ((ji4) : Int).toNat) hC11 (by omega)
        have hy11 : y102.length = ((ji4) : Int).toNat := (by rw [Ny102.out, List.length_take]; omega)
        rw [← Ny102.out] at hr11
        rw [← hy11] at hcut11
        have HO106 := Aside0.mk (show Kd.V (Kd.int .u8) 5 _ w.heap.size _ (.slice (some ad101) y102.length co10) y102 from Kd.V_mk (by omega) hr11)
        have HC106 := Aside0.mk (show y102.length ≤ co10 from by omega)
        clear hr11 hC11 hroom11 hi011 hsz11
        have KY11 := Aside0.mk hy11
        clear hy11
        replace q11 := eq_true q11
        go_wp2
        go_roundg k1
        case measure => have := HK1.out; omega
        case rel => exact ⟨(y102), (by first | exact H' | (simp only [hji4]; exact H')), ⟨by have := HK1.out; omega⟩, ⟨by (with_reducible repeat (first | apply Kd.V_alloc | apply Kd.V_drewN | apply Kd.V_drew)); exact HO106.out⟩, ⟨by repeat (first | (with_reducible first | exact HB.out | apply zC_ | apply zA_ | apply zB_) | exact HB.out)⟩⟩
       ·rw [if_neg c9] at H
        exact absurd H (by simp)
      ·rw [if_neg c7] at H
       have c7b0 : ((rd x0_1 (ji4)) == a1) = false := beq_eq_false_iff_ne.mpr c7
       have c7b1 : ((rd x0_1 (ji4)) != a1) = true := bne_iff_ne.mpr c7
       obtain rfl := Option.some.inj H
       obtain ⟨Ao12, co12, eo12⟩ := Kd.V_slice HO_0.out
       subst eo12
       have p101 : 0 ≤ ((ji4) : Int) := of_decide_eq_true (by first | (with_reducible assumption) | assumption)
       have q101 : (ji4) < (x0_1.length : Int) := of_decide_eq_true (by first | (with_reducible assumption) | assumption)
       obtain ⟨ad101, e101, hx101_0⟩ := Kd.at_int (Kd.V_reads' HO_0.out).2.2 (ji4) p101 q101
       cases e101
       replace p101 := eq_true p101
       replace q101 := eq_true q101
       go_wp2
       go_ret
       exact ⟨_, by first | rfl | (simp [errW_none, errW_some] <;> rfl) | (simp only [← hji4]; first | rfl | (simp [errW_none, errW_some] <;> rfl)) | (simp [*, errW_none, errW_some] <;> rfl), by (with_reducible repeat (first | apply Kd.V_alloc | apply Kd.V_drewN | apply Kd.V_drew)); exact HO_0.out, by repeat (first | (with_reducible first | exact HB.out | apply zC_ | apply zA_ | apply zB_) | exact HB.out)⟩
     ·rw [if_neg c6] at H
      exact absurd H (by simp)
    ·rw [if_neg c5] at H
     exact absurd H (by simp)
   ·rw [if_neg c3] at H
    have c3b0 : decide (0 < (x0_1.length : Int)) = false := decide_eq_false c3
    have c3b1 : decide (0 < x0_1.length) = false := decide_eq_false (by omega)
    clear c3
    obtain rfl := Option.some.inj H
    obtain ⟨Ao13, co13, eo13⟩ := Kd.V_slice HO_0.out
    subst eo13
    go_wp2
    go_ret
    exact ⟨_, by first | rfl | (simp [errW_none, errW_some] <;> rfl) | (simp [*, errW_none, errW_some] <;> rfl), by (with_reducible repeat (first | apply Kd.V_alloc | apply Kd.V_drewN | apply Kd.V_drew)); exact HO_0.out, by repeat (first | (with_reducible first | exact HB.out | apply zC_ | apply zA_ | apply zB_) | exact HB.out)⟩
end Go.Proofs.YtnfgiamdmfkcjaaDoor.P
namespace Go.Proofs.YtnfgiamdmfkcjaaDoor.H
open Go.RowKit Go.Proofs.YtnfgiamdmfkcjaaDoorW.PrintWords Go.Proofs.YtnfgiamdmfkcjaaDoorW.PrintLast Go.Proofs.YtnfgiamdmfkcjaaDoorW.PrintMore Go.Proofs.YtnfgiamdmfkcjaaDoor.Leaf Go.Proofs.YtnfgiamdmfkcjaaDoor.P
def bytes_Trim.f (k : Nat) (l0 : List Int) (a1 : ByteArray) : Option (List Int) :=
 if a1.data = #[0] then (if l0.length = 0 then some [] else (wTr_.f k l0 0).bind fun t => wTl_.f k t 0) else none
theorem bytes_Trim.mono (k : Nat) (l0 : List Int) (a1 : ByteArray) : LeO (bytes_Trim.f k l0 a1) (bytes_Trim.f (k + 1) l0 a1) := by
 unfold bytes_Trim.f
 refine LeO.ite (LeO.ite (LeO.refl _) (LeO.bind (wTr_.mono _ _ _) (fun _ => wTl_.mono _ _ _))) (LeO.none _)
def TR6 : Bool × List (List Nat × List Nat) := (true, [([], []), ([], []), ([1], [1]), ([0, 2], [0, 2]), ([], []), ([4], [4]), ([3, 5, 3], [3, 5]), ([6, 6, 0, 1, 2, 3, 4, 5, 6], [6])])
def BR6 : List Nat := [0, 0, 2, 7, 0, 16, 63, 127]
theorem TR6.tab : rtab .any (opsOf Tryd.f33 6) = TR6 := by kernel_rfl
theorem BR6.bits : waitsOk TR6.2 BR6 = true := by kernel_rfl
set_option maxHeartbeats 8000000 in
set_option maxRecDepth 100000 in
theorem bytes_Trim.calls (k : Nat) (P0_ : Nat → Prop) (A0 : Option Addr) (c0 : Nat) (l0 : List Int) (a1 : ByteArray) (r : List Int) (w : World) (hs0 : Kd.V (Kd.int .u8) 5 w w.heap.size (fun k_ => P0_ k_) (.slice A0 l0.length c0) l0) (h : bytes_Trim.f k l0 a1 = some r) :
 Calls Tryd.prog 33 #[.slice A0 l0.length c0, .string a1] w fun e w' => ∃ v0_ : Value, e = .returned (v0_) ∧ Kd.V (Kd.int .u8) 5 w' w.heap.size (fun k_ => (P0_ k_ ∨ w.heap.size ≤ k_)) v0_ r ∧ Below w.heap.size w w' := by
 unfold bytes_Trim.f at h
 by_cases hz : a1.data = #[0]
 ·rw [if_pos hz] at h
  obtain rfl : a1 = ⟨#[0]⟩ := by cases a1; simpa using hz
  clear hz
  by_cases h0 : l0.length = 0
  ·rw [if_pos h0] at h
   obtain rfl := Option.some.inj h
   have c3b0 : ((l0.length : Int) == 0) = true := beq_iff_eq.mpr (by omega)
   clear h h0
   go_enter Tryd.func33, Tryd.ntmps33
   go_wp2
   go_ret
   exact ⟨_, rfl, Kd.V_nil _ _ _ _ _, Below.refl _ _⟩
  ·rw [if_neg h0] at h
   obtain ⟨t, h1, h2⟩ := Option.bind_eq_some_iff.mp h
   have A15 := Aside0.mk h1
   have A17 := Aside0.mk h2
   have c3b0 : ((l0.length : Int) == 0) = false := beq_eq_false_iff_ne.mpr (by omega)
   have HO_0 := Aside0.mk hs0
   have HB := Aside0.mk (Below.refl w.heap.size w)
   clear h h1 h2 h0 hs0
   go_enter Tryd.func33, Tryd.ntmps33
   go_wp2
   have n0_ := Aside0.mk (Kd.V_drew HO_0.out)
   have n1_ := Aside0.mk (zB_ HB.out)
   clear HO_0 HB
   have HO_0 := n0_
   have HB := n1_
   clear n0_ n1_
   refine start_ (n := 8) (S := fun w' => True) (ds := []) (bsA 8 0) (by kernel_rfl) rfl rfl trivial (fun hHeld => ?_); refine with_tabW TR6.tab BR6.bits (fun HT_ HW_ => ?_)
   generalize w.drew = w18 at HO_0 HB hHeld ⊢
   refine pure_ (i := 0) (N := some 21) (v := ?_) (a' := ?_) (bsA 8 1) rfl rfl (any_of HT_.out (by kernel_rfl)) (fun _ _ _ h => h) (Or.inl ⟨by rfl, ?_⟩) ?_ ?_
   rotate_left
   ·intro w'
    go_simp
    with_reducible rfl
   rotate_left
   ·simp only [Act.put, qA_, qB_, qC_, i64_w, i32_w]
    rfl
   refine pure_ (i := 1) (N := some 22) (v := ?_) (a' := ?_) (bsA 8 3) rfl rfl (any_of HT_.out (by kernel_rfl)) (fun _ _ _ h => h) (Or.inl ⟨by rfl, ?_⟩) ?_ ?_
   rotate_left
   ·intro w'
    go_simp
    with_reducible rfl
   rotate_left
   ·simp only [Act.put, qA_, qB_, qC_, i64_w, i32_w]
    rfl
   refine pure_ (i := 4) (N := some 25) (v := ?_) (a' := ?_) (bsA 8 19) rfl rfl (any_of HT_.out (by kernel_rfl)) (fun _ _ _ h => h) (Or.inl ⟨by rfl, ?_⟩) ?_ ?_
   rotate_left
   ·intro w'
    go_simp
    with_reducible rfl
   rotate_left
   ·simp only [Act.put, qA_, qB_, qC_, i64_w, i32_w]
    rfl
   refine take_ (i := 2) (N := some 23) (v := ?_) (a' := ?_) (bsA 8 23) rfl rfl (take_ofW HT_.out HW_.out (by kernel_rfl)) (fun _ _ _ h => h) (Or.inl ⟨by rfl, ?_⟩) hHeld ?_ ?_
   rotate_left
   ·intro w' _
    go_simp
    with_reducible rfl
   rotate_left
   ·simp only [Act.put, qA_, qB_, qC_, i64_w, i32_w]
    rfl
   refine take_ (i := 5) (N := some 26) (v := ?_) (a' := ?_) (bsA 8 55) rfl rfl (take_ofW HT_.out HW_.out (by kernel_rfl)) (fun _ _ _ h => h) (Or.inl ⟨by rfl, ?_⟩) hHeld ?_ ?_
   rotate_left
   ·intro w' _
    go_simp
    with_reducible rfl
   rotate_left
   ·simp only [Act.put, qA_, qB_, qC_, i64_w, i32_w]
    rfl
   refine one_ (i := 3) (N := some 24) (bsA 8 63) rfl rfl (one_of HT_.out (by kernel_rfl)) (by decide) (fun K hK => ?_)
   refine goes_ Tryd.func57 (by kernel_rfl) rfl #[.slice A0 l0.length c0, .int .u8 0] (by rfl) rfl rfl (by (try simp only [List.map_toArray, List.map_cons, List.map_nil]); first | done | rfl) ?_
   with_reducible refine (wTr_.calls k P0_ _ _ l0 0 t _ ?side1 A15.out).mono ?_
   (case side1 => exact HO_0.out)
   rintro e w19 ⟨v102, rfl, ho0, hb⟩
   refine ⟨_, rfl, ?_⟩
   have HS18 := Aside0.mk HB.out.size
   have n1_ := Aside0.mk (zE_ HB.out hb)
   have HO1 := Aside0.mk ho0
   have HS19 := Aside0.mk hb.size
   clear HB HO_0 hb ho0
   have HB := n1_
   clear n1_
   obtain ⟨Ao20, co20, eo20⟩ := Kd.V_slice HO1.out
   (first | subst eo20 | (injection eo20 with f1_ f2_ f3_; have f4_ := f1_.symm; have f5_ := f3_.symm; clear f1_ f2_ f3_; subst f4_; subst f5_))
   refine hK.out _ _ trivial (fun hHeld => ?_)
   clear hK K
   refine norm_ (a' := ?_) ?_ ?_
   rotate_left
   ·show Act.put _ (some 24) _ = _
    simp only [Act.put, qA_, qB_, qC_, i64_w, i32_w]
    rfl
   refine one_ (i := 6) (N := some 27) (bsA 8 127) rfl rfl (one_of HT_.out (by kernel_rfl)) (by decide) (fun K hK => ?_)
   refine goes_ Tryd.func56 (by kernel_rfl) rfl #[.slice Ao20 t.length co20, .int .u8 0] (by rfl) rfl rfl (by (try simp only [List.map_toArray, List.map_cons, List.map_nil]); first | done | rfl) ?_
   with_reducible refine (wTl_.calls k (fun k_ => (P0_ k_ ∨ w18.heap.size ≤ k_)) _ _ t 0 r _ ?side1 A17.out).mono ?_
   (case side1 => exact HO1.out)
   rintro e w21 ⟨v105, rfl, ho0, hb⟩
   refine ⟨_, rfl, ?_⟩
   have n1_ := Aside0.mk (zE_ HB.out hb)
   have HO2 := Aside0.mk ho0
   clear HB HO1 hb ho0
   have HB := n1_
   clear n1_
   refine hK.out _ _ trivial (fun hHeld => ?_)
   clear hK K
   refine norm_ (a' := ?_) ?_ ?_
   rotate_left
   ·show Act.put _ (some 27) _ = _
    simp only [Act.put, qA_, qB_, qC_, i64_w, i32_w]
    rfl
   refine pure_ (i := 7) (N := some 4) (v := ?_) (a' := ?_) (bsA 8 255) rfl rfl (any_of HT_.out (by kernel_rfl)) (fun _ _ _ h => h) (Or.inl ⟨by rfl, ?_⟩) ?_ ?_
   rotate_left
   ·intro w'
    go_simp
    with_reducible rfl
   rotate_left
   ·simp only [Act.put, qA_, qB_, qC_, i64_w, i32_w]
    rfl
   refine done_ (done_of HT_.out (by kernel_rfl)) ?_
   try go_wp2
   go_ret
   refine ⟨_, rfl, Kd.V_mono HO2.out (fun k_ hk => ?_), HB.out⟩
   have h1 := HS18.out
   have h2 := HS19.out
   rcases hk with (hk | hk) | hk
   ·exact .inl hk
   ·exact .inr (by omega)
   ·exact .inr (by omega)
 ·rw [if_neg hz] at h
  cases h
end Go.Proofs.YtnfgiamdmfkcjaaDoor.H
