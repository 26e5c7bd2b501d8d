/- Words and walks that the claim RebuildChunks leans on (what it does not use is left out). -/
import Derived.Test.YtnfgiamdmfkcjaaDoorMRebuildChunks16
import Derived.Test.YtnfgiamdmfkcjaaDoorMRebuildChunks14
import Derived.Test.YtnfgiamdmfkcjaaDoorMRebuildChunks9
import Derived.Deep.RegionLaw
set_option linter.unusedSimpArgs false
set_option linter.unusedVariables false
namespace Go.Proofs.YtnfgiamdmfkcjaaDoor.H
open Go.RowKit Go.Proofs.YtnfgiamdmfkcjaaDoorW.PrintWords Go.Proofs.YtnfgiamdmfkcjaaDoorW.PrintLast Go.Proofs.YtnfgiamdmfkcjaaDoor.Leaf Go.Proofs.YtnfgiamdmfkcjaaDoor.P
set_option maxHeartbeats 4000000
set_option maxRecDepth 100000
theorem is_21 (w : World) : Calls Tryd.prog 42 #[.int .i64 2, .int .i64 1] w fun e w' => e = .returned (.bool true) ∧ Drawn0 w w' := rebuild_is.calls 2 1 true w (by kernel_rfl)
theorem check_two (W : World) (ob i1 c1 i2 c2 : Nat) (q1 q2 : Option Addr) (e1 e2 : Nat) (l1 l2 : List Int) (s1 s2 : Int) (h1 : Sh W ob 5 1 i1 c1 q1 e1 l1 s1) (h2 : Sh W ob 10 2 i2 c2 q2 e2 l2 s2) :
 Calls Tryd.prog 50 #[.int .i64 2, .int .i64 1, .slice (some ⟨ob, 5, none⟩) 2 2] W fun e w' => e = .returned (.int .i64 0) ∧ Below W.heap.size W w' := by
 go_enter Tryd.func50, Tryd.ntmps50
 go_wp2_with (first | (go_at_call 42; refine (is_21 _).mono ?_; rintro e w' ⟨rfl, ⟨nd, rfl⟩⟩; have HB := Aside0.mk (zA_ (Below.refl W.heap.size W) nd); have HS := Aside0.mk (same_two (W.drewN nd) ob i1 c1 i2 c2 q1 q2 e1 e2 l1 l2 s1 s2 (h1.kept HB.out) (h2.kept HB.out))) | (go_at_call 81; refine HS.out.mono ?_; rintro e w2 ⟨rfl, hb⟩; have HB2 := Aside0.mk (zE_ HB.out hb); clear hb))
 go_ret
 exact ⟨rfl, HB2.out⟩
def DA : List Int := [7, 0, 0, 0, 0, 0, 0, 0, 0, 0, 0, 0, 0, 0, 0, 0]
def DB : List Int := [0, 0, 0, 0, 0, 0, 0, 0, 0, 0, 0, 0, 0, 0, 0, 0]
def CA : S44 := ⟨1, DA, 2542556914⟩
def CB : S44 := ⟨1, DB, 1114675946⟩
theorem chunks_7 : rebuild_Chunks.f 100 2 1 [7] = some ([CA, CB, CA], 0) := by kernel_rfl
theorem object_7 : wOb_.f 1000 2 1 1 [z44, CB, CA] [false, true, true] = some ([7], 0) := by kernel_rfl
theorem Bx.set {w : World} {b p ib ic : Nat} (h : Bx w b p ib ic) {cb k : Nat} {v : Value} (hne : cb ≠ b) : Bx (w.setCell ⟨cb, k, none⟩ v) b p ib ic :=
 ⟨(World.cell?_setCell_other _ _ _ _ (by intro he; injection he with he; exact hne he)).trans h.t0, (World.cell?_setCell_other _ _ _ _ (by intro he; injection he with he; exact hne he)).trans h.t1, (World.cell?_setCell_other _ _ _ _ (by intro he; injection he with he; exact hne he)).trans h.t2, (World.cell?_setCell_other _ _ _ _ (by intro he; injection he with he; exact hne he)).trans h.t3, (World.cell?_setCell_other _ _ _ _ (by intro he; injection he with he; exact hne he)).trans h.t4⟩
theorem blk_set {w : World} {b : Nat} {c : Array Value} {t : Nat} (h : w.heap[b]? = some (.cells c t (0, 0))) (k : Nat) (v : Value) : (w.setCell ⟨b, k, none⟩ v).heap[b]? = some (.cells (c.setIfInBounds k v) t (0, 0)) := heap_setCell_same w b k c t v h
theorem rows2 (w : World) (o1 o2 : Obj) : ((w.alloc o1).alloc o2).heap[w.heap.size]? = some o1 ∧ ((w.alloc o1).alloc o2).heap[w.heap.size + 1]? = some o2 ∧ Below w.heap.size w ((w.alloc o1).alloc o2) := by
 have h := heap_top (w.alloc o1) o2
 rw [World.size_alloc] at h
 exact ⟨(Below.heap_alloc _ _ _ (by rw [World.size_alloc]; omega)).trans (heap_top w o1), h, zC_ (zC_ (Below.refl _ _) _) _⟩
theorem info72 : (Tryd.prog.info? 72).map (fun i => (i.zero, i.size, i.bytes)) = some (some (.agg #[.string ⟨#[]⟩, .slice none 0 0]), 2, 40) := by kernel_rfl
theorem addr_add (b o j : Nat) : (⟨b, o, none⟩ : Addr).add j = ⟨b, o + j, none⟩ := by
 unfold Addr.add
 split
 ·rename_i h; simp [h]
 ·rfl
theorem heap44 : Kd.Heap k44 := Kd.heap_iso _ (Kd.heap_pair (Kd.heap_int _) (Kd.heap_pair (Kd.heap_slice _ (Kd.heap_int _)) (Kd.heap_int _)))
theorem obj_row {w : World} {B : Nat} {v : Value} {a b : Value} (h : OwnRow (fun (_ : Unit) cs => cs = [a, b]) 72 2 w B v ([] ++ [()])) : ∃ rb rc, v = .slice (some ⟨rb, 0, none⟩) 1 rc ∧ w.cell? ⟨rb, 1, none⟩ = some b := by
 obtain ⟨inner, ho, hr⟩ := h
 have h0 : (inner.drop 0).take 2 = [a, b] := hr.2 0 () rfl
 rcases ho.2 with ⟨_, hn⟩ | ⟨pb, cap, cur, hv2, hq, hc, hle, hmx, hsz, htake⟩
 ·cases hn
 ·refine ⟨pb, cap, hv2, blk_get hc ?_⟩
  rw [← htake, List.drop_zero] at h0
  have h1 : ((cur.toList.take (([] ++ [()]).length * 2)).take 2)[1]? = some b := by rw [h0]; rfl
  rw [List.getElem?_take_of_lt (by decide), List.getElem?_take_of_lt (by decide), Array.getElem?_toList] at h1
  exact h1
theorem C_nil (w : World) : Kd.C (Kd.int .u8) w none 0 [] := ⟨rfl, by decide, fun h => absurd h (by decide)⟩
theorem chunks_C (w : World) (cb : Nat) (q1 q2 : Option Addr) (e1 e2 : Nat) (hk : w.heap[cb]? = some (.cells #[.int .i64 0, .slice none 0 0, .int .u32 0, .int .i64 1, .slice q1 16 e1, .int .u32 1114675946, .int .i64 1, .slice q2 16 e2, .int .u32 2542556914] 44 (0, 0))) (l1 : 16 ≤ e1) (l2 : 16 ≤ e2) (h1 : Kd.C (Kd.int .u8) w q1 16 DB) (h2 : Kd.C (Kd.int .u8) w q2 16 DA) :
 Kd.C k44 w (some ⟨cb, 0, none⟩) 3 [z44, CB, CA] := by
 refine ⟨rfl, by decide, fun _ => ⟨_, rfl, fun j q hj => ?_⟩⟩
 match j, hj with
 | 0, hj =>
  cases hj
  refine ⟨_, rfl, k44_mk w z44 (A1 := none) (c1 := 0) (Nat.le_refl _) (C_nil w), fun i u hu => ?_⟩
  rw [addr_add]
  refine blk_get hk ?_
  match i, hu with
  | 0, hu => exact hu
  | 1, hu => exact hu
  | 2, hu => exact hu
 | 1, hj =>
  cases hj
  refine ⟨_, rfl, k44_mk w CB (A1 := q1) (c1 := e1) l1 h1, fun i u hu => ?_⟩
  rw [addr_add]
  refine blk_get hk ?_
  match i, hu with
  | 0, hu => exact hu
  | 1, hu => exact hu
  | 2, hu => exact hu
 | 2, hj =>
  cases hj
  refine ⟨_, rfl, k44_mk w CA (A1 := q2) (c1 := e2) l2 h2, fun i u hu => ?_⟩
  rw [addr_add]
  refine blk_get hk ?_
  match i, hu with
  | 0, hu => exact hu
  | 1, hu => exact hu
  | 2, hu => exact hu
theorem have_C (w : World) (hv : Nat) (hk : w.heap[hv]? = some (.cells #[.bool false, .bool true, .bool true] 4 (0, 0))) : Kd.C Kd.bool w (some ⟨hv, 0, none⟩) 3 [false, true, true] := by
 refine ⟨rfl, by decide, fun _ => ⟨_, rfl, fun j q hj => ⟨[.bool q], rfl, rfl, fun i u hu => ?_⟩⟩⟩
 rw [addr_add]
 refine blk_get hk ?_
 match j, hj with
 | 0, hj => cases hj; match i, hu with | 0, hu => exact hu
 | 1, hj => cases hj; match i, hu with | 0, hu => exact hu
 | 2, hj => cases hj; match i, hu with | 0, hu => exact hu
theorem object_two (w : World) (cb hv : Nat) (q1 q2 : Option Addr) (e1 e2 : Nat) {i1 i2 : Nat} (h1 : It w i1 q1 e1 DB 1114675946) (h2 : It w i2 q2 e2 DA 2542556914) (hk : w.heap[cb]? = some (.cells #[.int .i64 0, .slice none 0 0, .int .u32 0, .int .i64 1, .slice q1 16 e1, .int .u32 1114675946, .int .i64 1, .slice q2 16 e2, .int .u32 2542556914] 44 (0, 0))) (hh : w.heap[hv]? = some (.cells #[.bool false, .bool true, .bool true] 4 (0, 0))) :
 Calls Tryd.prog 20 #[.int .i64 2, .int .i64 1, .int .i64 1, .slice (some ⟨cb, 0, none⟩) 3 3, .slice (some ⟨hv, 0, none⟩) 3 3] w fun e w' => ∃ xb xc, e = .returned (.tuple #[.slice (some xb) 1 xc, .int .i64 0]) ∧ w'.cell? xb = some (.int .u8 7) ∧ Below w.heap.size w w' := by
 refine (wOb_.calls 1000 2 1 1 (fun k => k < w.heap.size) (some ⟨cb, 0, none⟩) 3 [z44, CB, CA] (some ⟨hv, 0, none⟩) 3 [false, true, true] [7] 0 w ⟨_, _, rfl, Nat.le_refl _, Kd.C_F heap44 (chunks_C w cb q1 q2 e1 e2 hk h1.le h2.le h1.C h2.C)⟩ (have_C w hv hh) (Nat.le_refl _) object_7).mono ?_
 rintro e w' ⟨v0, rfl, hV, hb⟩
 obtain ⟨A5, c5, rfl, hle5, hF5⟩ := hV
 have hC5 := Kd.F_now hF5
 obtain ⟨ad, rfl, hcell⟩ := hC5.2.2 (by decide)
 obtain ⟨c, hl, hK, hc⟩ := hcell 0 7 rfl
 have hK' : c = [.int .u8 7] := hK
 subst hK'
 refine ⟨ad, c5, rfl, ?_, hb⟩
 have := hc 0 _ rfl
 rwa [show ad.add (0 * (Kd.int .u8).sz + 0) = ad from by unfold Addr.add; split <;> simp_all] at this
def rd15T : Bool × List (List Nat × List Nat) := (true, [([], []), ([], []), ([1], [1]), ([], []), ([], []), ([4], [4]), ([], []), ([6], [6]), ([], []), ([7, 8], [7, 8]), ([9], [9]), ([10], [10]), ([0, 2, 0, 1, 2, 6, 7, 8, 9, 10, 11], [0, 2]), ([12, 11, 0, 1, 2, 6, 7, 8, 9, 10, 11], [11, 12]), ([3, 5, 0, 1, 2, 3, 4, 5, 6, 7, 8, 9, 10, 11, 12, 13], [3, 5]), ([14, 13, 0, 1, 2, 3, 4, 5, 6, 7, 8, 9, 10, 11, 12, 13], [14])])
def rd15B : List Nat := [0, 0, 2, 0, 0, 16, 0, 64, 0, 448, 960, 1984, 4039, 8135, 16383, 32767]
theorem rd15T_tab : rtab .any (opsOf Tryd.f26 15) = rd15T := by kernel_rfl
theorem rd15B_bits : waitsOk rd15T.2 rd15B = true := by kernel_rfl
theorem read_two (W : World) (ob i1 c1 i2 c2 : Nat) (q1 q2 : Option Addr) (e1 e2 : Nat) (h1 : Sh W ob 5 1 i1 c1 q1 e1 DB 1114675946) (h2 : Sh W ob 10 2 i2 c2 q2 e2 DA 2542556914) :
 Calls Tryd.prog 26 #[.int .i64 2, .int .i64 1, .slice (some ⟨ob, 5, none⟩) 2 2] W fun e w' => ∃ rb rc xb xc, e = .returned (.tuple #[.slice (some ⟨rb, 0, none⟩) 1 rc, .int .i64 0]) ∧ w'.cell? ⟨rb, 1, none⟩ = some (.slice (some xb) 1 xc) ∧ w'.cell? xb = some (.int .u8 7) ∧ Below W.heap.size W w' := by
 have HC := Aside0.mk (check_two W ob i1 c1 i2 c2 q1 q2 e1 e2 DB DA 1114675946 2542556914 h1 h2)
 go_enter Tryd.func26, Tryd.ntmps26
 go_wp2_with (first | (go_at_call 50; refine HC.out.mono ?_; rintro e w1 ⟨rfl, hb⟩; have HB := Aside0.mk hb; have y7 : w1.cell? ⟨ob, 7, none⟩ = some (.slice (some ⟨i1, 0, none⟩) 1 c1) := zD_ hb h1.t2; clear hb))
 go_loopg [9, 10, 35] 2 (fun gg s9 s10 s35 wr => s10 = .int .i64 0 ∧ Aside0 (Below W.heap.size W wr) ∧ ((s35 = .int .i64 0 ∧ s9 = .slice none 0 0 ∧ 1 ≤ gg) ∨ (s35 = .int .i64 1 ∧ ∃ rb rc xb xc, s9 = .slice (some ⟨rb, 0, none⟩) 1 rc ∧ wr.cell? ⟨rb, 1, none⟩ = some (.slice (some xb) 1 xc) ∧ wr.cell? xb = some (.int .u8 7))))
 case atStart => exact ⟨rfl, HB, Or.inl ⟨rfl, rfl, by omega⟩⟩
 case round =>
  obtain ⟨rfl, HBR, h35⟩ := hrel
  clear HB HC y7
  rcases h35 with ⟨rfl, rfl, hg⟩ | ⟨rfl, rb, rc, xb, xc, rfl, r1, r2⟩
  ·have H1 := Aside0.mk (h1.kept HBR.out)
   have a0 := H1.out.it.c0
   have a1 := H1.out.it.c1
   have a2 := H1.out.it.c2
   have a3 := H1.out.it.c3
   go_upto_region 11 with (fail)
   have HA : Aside0 (Below wr.heap.size wr (wr.alloc (.cells #[.string nmA, .int .i64 1, .slice q1 16 e1, .int .u32 1114675946] 86))) := ⟨zC_ (Below.refl _ _) _⟩
   have HI : Aside0 ((wr.alloc (.cells #[.string nmA, .int .i64 1, .slice q1 16 e1, .int .u32 1114675946] 86)).heap[wr.heap.size]? = some (.cells #[.string nmA, .int .i64 1, .slice q1 16 e1, .int .u32 1114675946] 86 (0, 0))) := ⟨heap_top _ _⟩
   have HB2 := Aside0.mk (zE_ HBR.out HA.out)
   clear a0 a1 a2 a3 H1 HBR HA
   generalize wr.alloc (.cells #[.string nmA, .int .i64 1, .slice q1 16 e1, .int .u32 1114675946] 86) = wa at *
   generalize wr.heap.size = b2 at *
   go_cut [13, 14] (fun v13 v14 wd => ∃ cb hv, v13 = .slice (some ⟨cb, 0, none⟩) 3 3 ∧ v14 = .slice (some ⟨hv, 0, none⟩) 3 3 ∧ Aside0 (cb ≠ hv ∧ wa.heap.size ≤ cb ∧ wa.heap.size ≤ hv) ∧ Aside0 (Below wa.heap.size wa wd) ∧ Aside0 (wd.heap[cb]? = some (.cells z9 44 (0, 0))) ∧ Aside0 (wd.heap[hv]? = some (.cells #[.bool false, .bool false, .bool false] 4 (0, 0))))
   case first =>
    have hw : IntKind.i64.wrap 3 = 3 := by decide
    have hm1 := mk39
    have hm2 := mk23
    go_region_with (fail)
    all_goals
     go_wp2_with fail
     go_meet
     case rel => first
      | exact ⟨wa.heap.size, wa.heap.size + 1, rfl, rfl, ⟨by omega⟩, ⟨Below.drew (rows2 wa _ _).2.2⟩, ⟨(rows2 wa _ _).1⟩, ⟨(rows2 wa _ _).2.1⟩⟩
      | exact ⟨wa.heap.size + 1, wa.heap.size, rfl, rfl, ⟨by omega⟩, ⟨Below.drew (rows2 wa _ _).2.2⟩, ⟨(rows2 wa _ _).2.1⟩, ⟨(rows2 wa _ _).1⟩⟩
   case rest =>
    obtain ⟨cb, hv, rfl, rfl, HNE, HR, HKC, HKV⟩ := hcut
    go_wp2_with fail
    go_loopg [50] 3 (fun gg s50 wr2 => Aside0 (Below wa.heap.size wa wr2) ∧ ((s50 = .int .i64 0 ∧ 2 ≤ gg ∧ Aside0 (wr2.heap[cb]? = some (.cells #[.int .i64 0, .slice none 0 0, .int .u32 0, .int .i64 0, .slice none 0 0, .int .u32 0, .int .i64 0, .slice none 0 0, .int .u32 0] 44 (0, 0))) ∧ Aside0 (wr2.heap[hv]? = some (.cells #[.bool false, .bool false, .bool false] 4 (0, 0)))) ∨ (s50 = .int .i64 1 ∧ 1 ≤ gg ∧ Aside0 (wr2.heap[cb]? = some (.cells #[.int .i64 0, .slice none 0 0, .int .u32 0, .int .i64 1, .slice q1 16 e1, .int .u32 1114675946, .int .i64 0, .slice none 0 0, .int .u32 0] 44 (0, 0))) ∧ Aside0 (wr2.heap[hv]? = some (.cells #[.bool false, .bool true, .bool false] 4 (0, 0)))) ∨ (s50 = .int .i64 2 ∧ Aside0 (wr2.heap[cb]? = some (.cells #[.int .i64 0, .slice none 0 0, .int .u32 0, .int .i64 1, .slice q1 16 e1, .int .u32 1114675946, .int .i64 1, .slice q2 16 e2, .int .u32 2542556914] 44 (0, 0))) ∧ Aside0 (wr2.heap[hv]? = some (.cells #[.bool false, .bool true, .bool true] 4 (0, 0))))))
    case atStart => exact ⟨HR, Or.inl ⟨rfl, by omega, HKC, HKV⟩⟩
    case round =>
    clear HR HKC HKV
    obtain ⟨HR, h50⟩ := hrel
    rcases h50 with ⟨rfl, hg2, HKC, HKV⟩ | ⟨rfl, hg2, HKC, HKV⟩ | ⟨rfl, HKC, HKV⟩
    ·have HS := Aside0.mk (h1.kept (zE_ HB2.out HR.out))
     have y0 : wr.cell? ⟨ob, 5, none⟩ = some (.int .i64 1) := HS.out.t0
     have y1 : wr.cell? ⟨ob, 6, none⟩ = some (.int .i64 3) := HS.out.t1
     have y2 : wr.cell? ⟨ob, 7, none⟩ = some (.slice (some ⟨i1, 0, none⟩) 1 c1) := HS.out.t2
     have y3 : wr.cell? ⟨ob, 8, none⟩ = some (.slice none 0 0) := HS.out.t3
     have y4 : wr.cell? ⟨ob, 9, none⟩ = some (.slice none 0 0) := HS.out.t4
     go_upto_region 15 with (fail)
     have HN : Aside0 (Below wr.heap.size wr (wr.alloc (.cells #[.int .i64 1, .int .i64 3, .slice (some ⟨i1, 0, none⟩) 1 c1, .slice none 0 0, .slice none 0 0] 83))) := ⟨zC_ (Below.refl _ _) _⟩
     have HX0 : Aside0 (Bx (wr.alloc (.cells #[.int .i64 1, .int .i64 3, .slice (some ⟨i1, 0, none⟩) 1 c1, .slice none 0 0, .slice none 0 0] 83)) wr.heap.size 1 i1 c1) := ⟨Bx.new wr 1 i1 c1⟩
     have HR0 := Aside0.mk (zE_ HR.out HN.out)
     have HK0 : Aside0 ((wr.alloc (.cells #[.int .i64 1, .int .i64 3, .slice (some ⟨i1, 0, none⟩) 1 c1, .slice none 0 0, .slice none 0 0] 83)).heap[cb]? = some (.cells #[.int .i64 0, .slice none 0 0, .int .u32 0, .int .i64 0, .slice none 0 0, .int .u32 0, .int .i64 0, .slice none 0 0, .int .u32 0] 44 (0, 0))) := ⟨(HN.out.block _ (Array.getElem?_eq_some_iff.1 HKC.out).1).trans HKC.out⟩
     have HV0 : Aside0 ((wr.alloc (.cells #[.int .i64 1, .int .i64 3, .slice (some ⟨i1, 0, none⟩) 1 c1, .slice none 0 0, .slice none 0 0] 83)).heap[hv]? = some (.cells #[.bool false, .bool false, .bool false] 4 (0, 0))) := ⟨(HN.out.block _ (Array.getElem?_eq_some_iff.1 HKV.out).1).trans HKV.out⟩
     replace HS := Aside0.mk (h1.kept (zE_ HB2.out HR0.out))
     have HCB : Aside0 (W.heap.size ≤ cb ∧ cb ≠ wr.heap.size) := ⟨by have := HNE.out; have := HB2.out.size; have := (Array.getElem?_eq_some_iff.1 HKC.out).1; omega⟩
     clear y0 y1 y2 y3 y4 HR HN HKC HKV
     generalize wr.alloc (.cells #[.int .i64 1, .int .i64 3, .slice (some ⟨i1, 0, none⟩) 1 c1, .slice none 0 0, .slice none 0 0] 83) = w0 at *
     generalize wr.heap.size = b3 at *
     have HD : Aside0 (Below w0.heap.size w0 w0.drew) := ⟨Below.drew (Below.refl _ _)⟩
     have k0 : w0.cell? ⟨cb, 3, none⟩ = some (.int .i64 0) := blk_get (w := w0) HK0.out rfl
     have k1 : w0.cell? ⟨cb, 4, none⟩ = some (.slice none 0 0) := blk_get (w := w0) HK0.out rfl
     have k2 : w0.cell? ⟨cb, 5, none⟩ = some (.int .u32 0) := blk_get (w := w0) HK0.out rfl
     have f0 : w0.frozen? ⟨cb, 3, none⟩ = false := blk_fz (w := w0) HK0.out
     have f1 : w0.frozen? ⟨cb, 4, none⟩ = false := blk_fz (w := w0) HK0.out
     have f2 : w0.frozen? ⟨cb, 5, none⟩ = false := blk_fz (w := w0) HK0.out
     have v0 : w0.cell? ⟨hv, 1, none⟩ = some (.bool false) := blk_get (w := w0) HV0.out rfl
     have g0 : w0.frozen? ⟨hv, 1, none⟩ = false := blk_fz (w := w0) HV0.out
     have HBW := Aside0.mk (zE_ HB2.out HR0.out)
     have n1 : cb ≠ hv := HNE.out.1
     have n2 : hv ≠ cb := fun h => HNE.out.1 h.symm
     refine start_ (n := 16) (S := fun w' => Bx w' b3 1 i1 c1 ∧ It w' i1 q1 e1 DB 1114675946) (ds := [15]) (upU 16 0) (by kernel_rfl) rfl rfl ⟨HX0.out.kept HD.out, HS.out.it.kept HD.out⟩ (fun hHeld => ?_); refine with_tabW rd15T_tab rd15B_bits (fun HT_ HW_ => ?_)
     iterate 2
      refine pureO 54 (v := ?_) (a' := ?_) HT_ rfl rfl (by kernel_rfl) (fun _ _ _ h => h) (Or.inl ⟨by rfl, ?_⟩) ?_ ?_
      rotate_left
      ·intro w'
       go_simp
       first | done | with_reducible rfl
      rotate_left
      ·simp only [Act.put, Nat.reduceAdd, qA_, qB_, qC_, i64_w, i32_w]
       rfl
     refine take_ (i := 2) (N := some 56) (v := ?_) (a' := ?_) (upU 16 3) rfl rfl (take_ofW HT_.out HW_.out (by kernel_rfl)) (fun _ _ _ h => h) (Or.inl ⟨by rfl, ?_⟩) hHeld ?_ ?_
     rotate_left
     ·intro w' hS_
      have hq := hS_.1.t0
      go_simp
      first | done | with_reducible rfl
     rotate_left
     ·simp only [Act.put, qA_, qB_, qC_, i64_w, i32_w]
      rfl
     iterate 2
      refine pureO 54 (v := ?_) (a' := ?_) HT_ rfl rfl (by kernel_rfl) (fun _ _ _ h => h) (Or.inl ⟨by rfl, ?_⟩) ?_ ?_
      rotate_left
      ·intro w'
       go_simp
       first | done | with_reducible rfl
      rotate_left
      ·simp only [Act.put, Nat.reduceAdd, qA_, qB_, qC_, i64_w, i32_w]
       rfl
     refine take_ (i := 5) (N := some 59) (v := ?_) (a' := ?_) (upU 16 6) rfl rfl (take_ofW HT_.out HW_.out (by kernel_rfl)) (fun _ _ _ h => h) (Or.inl ⟨by rfl, ?_⟩) hHeld ?_ ?_
     rotate_left
     ·intro w' hS_
      have hq := hS_.1.t0
      go_simp
      first | done | with_reducible rfl
     rotate_left
     ·simp only [Act.put, qA_, qB_, qC_, i64_w, i32_w]
      rfl
     iterate 1
      refine pureO 54 (v := ?_) (a' := ?_) HT_ rfl rfl (by kernel_rfl) (fun _ _ _ h => h) (Or.inl ⟨by rfl, ?_⟩) ?_ ?_
      rotate_left
      ·intro w'
       go_simp
       first | done | with_reducible rfl
      rotate_left
      ·simp only [Act.put, Nat.reduceAdd, qA_, qB_, qC_, i64_w, i32_w]
       rfl
     refine take_ (i := 7) (N := some 61) (v := ?_) (a' := ?_) (upU 16 8) rfl rfl (take_ofW HT_.out HW_.out (by kernel_rfl)) (fun _ _ _ h => h) (Or.inl ⟨by rfl, ?_⟩) hHeld ?_ ?_
     rotate_left
     ·intro w' hS_
      have hq := hS_.1.t2
      go_simp
      first | done | with_reducible rfl
     rotate_left
     ·simp only [Act.put, qA_, qB_, qC_, i64_w, i32_w]
      rfl
     iterate 3
      refine pureO 54 (v := ?_) (a' := ?_) HT_ rfl rfl (by kernel_rfl) (fun _ _ _ h => h) (Or.inl ⟨by rfl, ?_⟩) ?_ ?_
      rotate_left
      ·intro w'
       go_simp
       first | done | with_reducible rfl
      rotate_left
      ·simp only [Act.put, Nat.reduceAdd, qA_, qB_, qC_, i64_w, i32_w]
       rfl
     refine take_ (i := 11) (N := some 65) (v := ?_) (a' := ?_) (upU 16 12) rfl rfl (take_ofW HT_.out HW_.out (by kernel_rfl)) (fun _ _ _ h => h) (Or.inl ⟨by rfl, ?_⟩) hHeld ?_ ?_
     rotate_left
     ·intro w' hS_
      have hq1 := hS_.2.c1
      have hq2 := hS_.2.c2
      have hq3 := hS_.2.c3
      go_simp
      first | done | with_reducible rfl
     rotate_left
     ·simp only [Act.put, qA_, qB_, qC_, i64_w, i32_w]
      rfl
     iterate 1
      refine pureO 54 (v := ?_) (a' := ?_) HT_ rfl rfl (by kernel_rfl) (fun _ _ _ h => h) (Or.inl ⟨by rfl, ?_⟩) ?_ ?_
      rotate_left
      ·intro w'
       go_simp
       first | done | with_reducible rfl
      rotate_left
      ·simp only [Act.put, Nat.reduceAdd, qA_, qB_, qC_, i64_w, i32_w]
       rfl
     refine one_ (i := 13) (N := none) (upU 16 14) rfl rfl (one_of HT_.out (by kernel_rfl)) (by decide) (fun K hK => ?_)
     refine skip_ (w1 := ?_) (by rfl) rfl ?_ ?_
     rotate_left
     ·go_simp
      first | done | rfl
     refine hK.out _ _ (⟨(((HX0.out.set HCB.out.2).set HCB.out.2).set HCB.out.2).kept (Below.drew (Below.refl _ _)), (h1.kept (Below.drew (((HBW.out.setCell HCB.out.1 _).setCell HCB.out.1 _).setCell HCB.out.1 _))).it⟩) (fun hHeld => ?_)
     clear hK K
     iterate 1
      refine pureO 53 (v := ?_) (a' := ?_) HT_ rfl rfl (by kernel_rfl) (fun _ _ _ h => h) (Or.inl ⟨by rfl, ?_⟩) ?_ ?_
      rotate_left
      ·intro w'
       go_simp
       first | done | with_reducible rfl
      rotate_left
      ·simp only [Act.put, Nat.reduceAdd, qA_, qB_, qC_, i64_w, i32_w]
       rfl
     refine last_ (i := 15) (N := none) (upU 16 16) rfl rfl (one_of HT_.out (by kernel_rfl)) (by decide) (fun K hK => ?_)
     refine skip_ (w1 := ?_) (by rfl) rfl ?_ ?_
     rotate_left
     ·go_simp
      first | done | rfl
     refine hK.out _ _ ?_
     clear hK K
     refine done_ (done_of HT_.out (by kernel_rfl)) ?_
     have HKF : Aside0 (((((w0.setCell ⟨cb, 3, none⟩ (.int .i64 1)).setCell ⟨cb, 4, none⟩ (.slice q1 16 e1)).setCell ⟨cb, 5, none⟩ (.int .u32 1114675946)).setCell ⟨hv, 1, none⟩ (.bool true)).heap[cb]? = some (.cells #[.int .i64 0, .slice none 0 0, .int .u32 0, .int .i64 1, .slice q1 16 e1, .int .u32 1114675946, .int .i64 0, .slice none 0 0, .int .u32 0] 44 (0, 0))) := ⟨(Below.heap_setCell _ _ _ _ n1).trans (blk_set (blk_set (blk_set HK0.out _ _) _ _) _ _)⟩
     have HVF : Aside0 (((((w0.setCell ⟨cb, 3, none⟩ (.int .i64 1)).setCell ⟨cb, 4, none⟩ (.slice q1 16 e1)).setCell ⟨cb, 5, none⟩ (.int .u32 1114675946)).setCell ⟨hv, 1, none⟩ (.bool true)).heap[hv]? = some (.cells #[.bool false, .bool true, .bool false] 4 (0, 0))) := ⟨blk_set (((Below.heap_setCell _ _ _ _ n2).trans ((Below.heap_setCell _ _ _ _ n2).trans (Below.heap_setCell _ _ _ _ n2))).trans HV0.out) _ _⟩
     have HRF : Aside0 (Below wa.heap.size wa ((((w0.setCell ⟨cb, 3, none⟩ (.int .i64 1)).setCell ⟨cb, 4, none⟩ (.slice q1 16 e1)).setCell ⟨cb, 5, none⟩ (.int .u32 1114675946)).setCell ⟨hv, 1, none⟩ (.bool true))) := ⟨(((HR0.out.setCell HNE.out.2.1 _).setCell HNE.out.2.1 _).setCell HNE.out.2.1 _).setCell HNE.out.2.2 _⟩
     go_wp2_with fail
     go_roundg 1
     case measure => omega
     case rel => exact ⟨⟨HRF.out.drew⟩, Or.inr (Or.inl ⟨by go_num, by omega, ⟨HKF.out⟩, ⟨HVF.out⟩⟩)⟩
    ·have HS := Aside0.mk (h2.kept (zE_ HB2.out HR.out))
     have y0 : wr.cell? ⟨ob, 10, none⟩ = some (.int .i64 2) := HS.out.t0
     have y1 : wr.cell? ⟨ob, 11, none⟩ = some (.int .i64 3) := HS.out.t1
     have y2 : wr.cell? ⟨ob, 12, none⟩ = some (.slice (some ⟨i2, 0, none⟩) 1 c2) := HS.out.t2
     have y3 : wr.cell? ⟨ob, 13, none⟩ = some (.slice none 0 0) := HS.out.t3
     have y4 : wr.cell? ⟨ob, 14, none⟩ = some (.slice none 0 0) := HS.out.t4
     go_upto_region 15 with (fail)
     have HN : Aside0 (Below wr.heap.size wr (wr.alloc (.cells #[.int .i64 2, .int .i64 3, .slice (some ⟨i2, 0, none⟩) 1 c2, .slice none 0 0, .slice none 0 0] 83))) := ⟨zC_ (Below.refl _ _) _⟩
     have HX0 : Aside0 (Bx (wr.alloc (.cells #[.int .i64 2, .int .i64 3, .slice (some ⟨i2, 0, none⟩) 1 c2, .slice none 0 0, .slice none 0 0] 83)) wr.heap.size 2 i2 c2) := ⟨Bx.new wr 2 i2 c2⟩
     have HR0 := Aside0.mk (zE_ HR.out HN.out)
     have HK0 : Aside0 ((wr.alloc (.cells #[.int .i64 2, .int .i64 3, .slice (some ⟨i2, 0, none⟩) 1 c2, .slice none 0 0, .slice none 0 0] 83)).heap[cb]? = some (.cells #[.int .i64 0, .slice none 0 0, .int .u32 0, .int .i64 1, .slice q1 16 e1, .int .u32 1114675946, .int .i64 0, .slice none 0 0, .int .u32 0] 44 (0, 0))) := ⟨(HN.out.block _ (Array.getElem?_eq_some_iff.1 HKC.out).1).trans HKC.out⟩
     have HV0 : Aside0 ((wr.alloc (.cells #[.int .i64 2, .int .i64 3, .slice (some ⟨i2, 0, none⟩) 1 c2, .slice none 0 0, .slice none 0 0] 83)).heap[hv]? = some (.cells #[.bool false, .bool true, .bool false] 4 (0, 0))) := ⟨(HN.out.block _ (Array.getElem?_eq_some_iff.1 HKV.out).1).trans HKV.out⟩
     replace HS := Aside0.mk (h2.kept (zE_ HB2.out HR0.out))
     have HCB : Aside0 (W.heap.size ≤ cb ∧ cb ≠ wr.heap.size) := ⟨by have := HNE.out; have := HB2.out.size; have := (Array.getElem?_eq_some_iff.1 HKC.out).1; omega⟩
     clear y0 y1 y2 y3 y4 HR HN HKC HKV
     generalize wr.alloc (.cells #[.int .i64 2, .int .i64 3, .slice (some ⟨i2, 0, none⟩) 1 c2, .slice none 0 0, .slice none 0 0] 83) = w0 at *
     generalize wr.heap.size = b3 at *
     have HD : Aside0 (Below w0.heap.size w0 w0.drew) := ⟨Below.drew (Below.refl _ _)⟩
     have k0 : w0.cell? ⟨cb, 6, none⟩ = some (.int .i64 0) := blk_get (w := w0) HK0.out rfl
     have k1 : w0.cell? ⟨cb, 7, none⟩ = some (.slice none 0 0) := blk_get (w := w0) HK0.out rfl
     have k2 : w0.cell? ⟨cb, 8, none⟩ = some (.int .u32 0) := blk_get (w := w0) HK0.out rfl
     have f0 : w0.frozen? ⟨cb, 6, none⟩ = false := blk_fz (w := w0) HK0.out
     have f1 : w0.frozen? ⟨cb, 7, none⟩ = false := blk_fz (w := w0) HK0.out
     have f2 : w0.frozen? ⟨cb, 8, none⟩ = false := blk_fz (w := w0) HK0.out
     have v0 : w0.cell? ⟨hv, 2, none⟩ = some (.bool false) := blk_get (w := w0) HV0.out rfl
     have g0 : w0.frozen? ⟨hv, 2, none⟩ = false := blk_fz (w := w0) HV0.out
     have HBW := Aside0.mk (zE_ HB2.out HR0.out)
     have n1 : cb ≠ hv := HNE.out.1
     have n2 : hv ≠ cb := fun h => HNE.out.1 h.symm
     refine start_ (n := 16) (S := fun w' => Bx w' b3 2 i2 c2 ∧ It w' i2 q2 e2 DA 2542556914) (ds := [15]) (upU 16 0) (by kernel_rfl) rfl rfl ⟨HX0.out.kept HD.out, HS.out.it.kept HD.out⟩ (fun hHeld => ?_); refine with_tabW rd15T_tab rd15B_bits (fun HT_ HW_ => ?_)
     iterate 2
      refine pureO 54 (v := ?_) (a' := ?_) HT_ rfl rfl (by kernel_rfl) (fun _ _ _ h => h) (Or.inl ⟨by rfl, ?_⟩) ?_ ?_
      rotate_left
      ·intro w'
       go_simp
       first | done | with_reducible rfl
      rotate_left
      ·simp only [Act.put, Nat.reduceAdd, qA_, qB_, qC_, i64_w, i32_w]
       rfl
     refine take_ (i := 2) (N := some 56) (v := ?_) (a' := ?_) (upU 16 3) rfl rfl (take_ofW HT_.out HW_.out (by kernel_rfl)) (fun _ _ _ h => h) (Or.inl ⟨by rfl, ?_⟩) hHeld ?_ ?_
     rotate_left
     ·intro w' hS_
      have hq := hS_.1.t0
      go_simp
      first | done | with_reducible rfl
     rotate_left
     ·simp only [Act.put, qA_, qB_, qC_, i64_w, i32_w]
      rfl
     iterate 2
      refine pureO 54 (v := ?_) (a' := ?_) HT_ rfl rfl (by kernel_rfl) (fun _ _ _ h => h) (Or.inl ⟨by rfl, ?_⟩) ?_ ?_
      rotate_left
      ·intro w'
       go_simp
       first | done | with_reducible rfl
      rotate_left
      ·simp only [Act.put, Nat.reduceAdd, qA_, qB_, qC_, i64_w, i32_w]
       rfl
     refine take_ (i := 5) (N := some 59) (v := ?_) (a' := ?_) (upU 16 6) rfl rfl (take_ofW HT_.out HW_.out (by kernel_rfl)) (fun _ _ _ h => h) (Or.inl ⟨by rfl, ?_⟩) hHeld ?_ ?_
     rotate_left
     ·intro w' hS_
      have hq := hS_.1.t0
      go_simp
      first | done | with_reducible rfl
     rotate_left
     ·simp only [Act.put, qA_, qB_, qC_, i64_w, i32_w]
      rfl
     iterate 1
      refine pureO 54 (v := ?_) (a' := ?_) HT_ rfl rfl (by kernel_rfl) (fun _ _ _ h => h) (Or.inl ⟨by rfl, ?_⟩) ?_ ?_
      rotate_left
      ·intro w'
       go_simp
       first | done | with_reducible rfl
      rotate_left
      ·simp only [Act.put, Nat.reduceAdd, qA_, qB_, qC_, i64_w, i32_w]
       rfl
     refine take_ (i := 7) (N := some 61) (v := ?_) (a' := ?_) (upU 16 8) rfl rfl (take_ofW HT_.out HW_.out (by kernel_rfl)) (fun _ _ _ h => h) (Or.inl ⟨by rfl, ?_⟩) hHeld ?_ ?_
     rotate_left
     ·intro w' hS_
      have hq := hS_.1.t2
      go_simp
      first | done | with_reducible rfl
     rotate_left
     ·simp only [Act.put, qA_, qB_, qC_, i64_w, i32_w]
      rfl
     iterate 3
      refine pureO 54 (v := ?_) (a' := ?_) HT_ rfl rfl (by kernel_rfl) (fun _ _ _ h => h) (Or.inl ⟨by rfl, ?_⟩) ?_ ?_
      rotate_left
      ·intro w'
       go_simp
       first | done | with_reducible rfl
      rotate_left
      ·simp only [Act.put, Nat.reduceAdd, qA_, qB_, qC_, i64_w, i32_w]
       rfl
     refine take_ (i := 11) (N := some 65) (v := ?_) (a' := ?_) (upU 16 12) rfl rfl (take_ofW HT_.out HW_.out (by kernel_rfl)) (fun _ _ _ h => h) (Or.inl ⟨by rfl, ?_⟩) hHeld ?_ ?_
     rotate_left
     ·intro w' hS_
      have hq1 := hS_.2.c1
      have hq2 := hS_.2.c2
      have hq3 := hS_.2.c3
      go_simp
      first | done | with_reducible rfl
     rotate_left
     ·simp only [Act.put, qA_, qB_, qC_, i64_w, i32_w]
      rfl
     iterate 1
      refine pureO 54 (v := ?_) (a' := ?_) HT_ rfl rfl (by kernel_rfl) (fun _ _ _ h => h) (Or.inl ⟨by rfl, ?_⟩) ?_ ?_
      rotate_left
      ·intro w'
       go_simp
       first | done | with_reducible rfl
      rotate_left
      ·simp only [Act.put, Nat.reduceAdd, qA_, qB_, qC_, i64_w, i32_w]
       rfl
     refine one_ (i := 13) (N := none) (upU 16 14) rfl rfl (one_of HT_.out (by kernel_rfl)) (by decide) (fun K hK => ?_)
     refine skip_ (w1 := ?_) (by rfl) rfl ?_ ?_
     rotate_left
     ·go_simp
      first | done | rfl
     refine hK.out _ _ (⟨(((HX0.out.set HCB.out.2).set HCB.out.2).set HCB.out.2).kept (Below.drew (Below.refl _ _)), (h2.kept (Below.drew (((HBW.out.setCell HCB.out.1 _).setCell HCB.out.1 _).setCell HCB.out.1 _))).it⟩) (fun hHeld => ?_)
     clear hK K
     iterate 1
      refine pureO 53 (v := ?_) (a' := ?_) HT_ rfl rfl (by kernel_rfl) (fun _ _ _ h => h) (Or.inl ⟨by rfl, ?_⟩) ?_ ?_
      rotate_left
      ·intro w'
       go_simp
       first | done | with_reducible rfl
      rotate_left
      ·simp only [Act.put, Nat.reduceAdd, qA_, qB_, qC_, i64_w, i32_w]
       rfl
     refine last_ (i := 15) (N := none) (upU 16 16) rfl rfl (one_of HT_.out (by kernel_rfl)) (by decide) (fun K hK => ?_)
     refine skip_ (w1 := ?_) (by rfl) rfl ?_ ?_
     rotate_left
     ·go_simp
      first | done | rfl
     refine hK.out _ _ ?_
     clear hK K
     refine done_ (done_of HT_.out (by kernel_rfl)) ?_
     have HKF : Aside0 (((((w0.setCell ⟨cb, 6, none⟩ (.int .i64 1)).setCell ⟨cb, 7, none⟩ (.slice q2 16 e2)).setCell ⟨cb, 8, none⟩ (.int .u32 2542556914)).setCell ⟨hv, 2, none⟩ (.bool true)).heap[cb]? = some (.cells #[.int .i64 0, .slice none 0 0, .int .u32 0, .int .i64 1, .slice q1 16 e1, .int .u32 1114675946, .int .i64 1, .slice q2 16 e2, .int .u32 2542556914] 44 (0, 0))) := ⟨(Below.heap_setCell _ _ _ _ n1).trans (blk_set (blk_set (blk_set HK0.out _ _) _ _) _ _)⟩
     have HVF : Aside0 (((((w0.setCell ⟨cb, 6, none⟩ (.int .i64 1)).setCell ⟨cb, 7, none⟩ (.slice q2 16 e2)).setCell ⟨cb, 8, none⟩ (.int .u32 2542556914)).setCell ⟨hv, 2, none⟩ (.bool true)).heap[hv]? = some (.cells #[.bool false, .bool true, .bool true] 4 (0, 0))) := ⟨blk_set (((Below.heap_setCell _ _ _ _ n2).trans ((Below.heap_setCell _ _ _ _ n2).trans (Below.heap_setCell _ _ _ _ n2))).trans HV0.out) _ _⟩
     have HRF : Aside0 (Below wa.heap.size wa ((((w0.setCell ⟨cb, 6, none⟩ (.int .i64 1)).setCell ⟨cb, 7, none⟩ (.slice q2 16 e2)).setCell ⟨cb, 8, none⟩ (.int .u32 2542556914)).setCell ⟨hv, 2, none⟩ (.bool true))) := ⟨(((HR0.out.setCell HNE.out.2.1 _).setCell HNE.out.2.1 _).setCell HNE.out.2.1 _).setCell HNE.out.2.2 _⟩
     go_wp2_with fail
     go_roundg 0
     case measure => omega
     case rel => exact ⟨⟨HRF.out.drew⟩, Or.inr (Or.inr ⟨by go_num, ⟨HKF.out⟩, ⟨HVF.out⟩⟩)⟩
    ·have HW2 := Aside0.mk (zE_ HB2.out HR.out)
     have hIb := (HR.out.block _ (Array.getElem?_eq_some_iff.1 HI.out).1).trans HI.out
     have b0 := blk_get (k := 0) hIb rfl
     have b1 := blk_get (k := 1) hIb rfl
     have HOBJ := Aside0.mk (object_two wr cb hv q1 q2 e1 e2 (h1.kept HW2.out).it (h2.kept HW2.out).it HKC.out HKV.out)
     clear hIb
     go_wp2_with (first | (go_at_call 20; refine HOBJ.out.mono ?_; rintro e w5 ⟨xb, xc, rfl, hx, hb⟩; have HB5 : Aside0 (Below W.heap.size W w5) := ⟨zE_ HW2.out hb⟩; have d0 := zD_ hb b0; have HX5 := Aside0.mk hx; clear hb hx) | ((with_reducible refine gate_builtin (b := .append) (xs := #[.tmp 91, .tmp 96]) rfl ?_); at_builtin; refine OwnRow.append (R := fun (_ : Unit) cs => cs = [Value.string nmA, .slice (some xb) 1 xc]) (w0 := w5) w5.heap.size rfl (.tmp 91) (.tmp 96) 47 72 (.agg #[.string ⟨#[]⟩, .slice none 0 0]) 2 40 rfl Tryd.underlying47 info72 rfl (by decide) (by decide) (.slice none 0 0) [] () [.string nmA, .slice (some xb) 1 xc] rfl rfl rfl rfl (by intro u hu; simp at hu; rcases hu with rfl | rfl <;> rfl) (OwnRow.none_ _ _ _ _ _) (Below.refl _ _) (Nat.le_refl _) (by decide) ?_; intro v1 w6 ho hb2 hgr hat; obtain ⟨rb, rc, hv1, hcell1⟩ := obj_row ho; subst hv1; have HX6 := Aside0.mk (And.intro hcell1 (zD_ hb2 HX5.out)); have HB6 := Aside0.mk (zE_ HB5.out hb2); clear ho hb2 hgr hat hcell1))
     go_roundg 0
     case measure => omega
     case rel => exact ⟨rfl, HB6, Or.inr ⟨by go_num, rb, rc, xb, xc, rfl, HX6.out.1, HX6.out.2⟩⟩
  ·go_wp2_with fail
   go_ret2
   exact ⟨rb, rc, xb, xc, rfl, r1, r2, HBR.out⟩
end Go.Proofs.YtnfgiamdmfkcjaaDoor.H
