/- Words and walks that the claim RebuildChunks leans on (what it does not use is left out). -/
import Derived.Test.YtnfgiamdmfkcjaaDoorMRebuildChunks17
set_option linter.unusedSimpArgs false
set_option linter.unusedVariables false
namespace Go.Proofs.YtnfgiamdmfkcjaaDoor.H
open Go.RowKit Go.Proofs.YtnfgiamdmfkcjaaDoorW.PrintWords Go.Proofs.YtnfgiamdmfkcjaaDoorW.PrintLast Go.Proofs.YtnfgiamdmfkcjaaDoor.Leaf Go.Proofs.YtnfgiamdmfkcjaaDoor.P
set_option maxHeartbeats 4000000
set_option maxRecDepth 100000
def mk13T : Bool × List (List Nat × List Nat) := (true, [([], []), ([0], [0]), ([1], [1]), ([2], [2]), ([3, 2], [2, 3]), ([4, 2, 2], [2, 4]), ([5, 2], [2, 5]), ([2, 6], [2, 6]), ([7, 5], [7]), ([8], [8]), ([9, 8], [8, 9]), ([10, 8, 8], [8, 10]), ([11], [11]), ([12, 11], [11, 12]), ([11], [11]), ([11], [11]), ([15, 11], [11, 15]), ([14, 16, 11], [11, 14, 16]), ([17, 11], [11, 17]), ([18, 11], [11, 18]), ([13, 19, 11], [11, 13, 19]), ([11, 20, 8], [8, 11, 20]), ([8, 21], [8, 21])])
def mk13B : List Nat := [0, 1, 3, 7, 15, 31, 63, 127, 255, 511, 1023, 2047, 4095, 8191, 4095, 4095, 36863, 118783, 249855, 511999, 1048575, 2097151, 4194303]
theorem mk13T_tab : rtab .any (opsOf Tryd.f22 13) = mk13T := by kernel_rfl
theorem mk13B_bits : waitsOk mk13T.2 mk13B = true := by kernel_rfl
def mk18T : Bool × List (List Nat × List Nat) := (true, [([], []), ([], []), ([], []), ([], []), ([2, 3], [2, 3]), ([4], [4]), ([5], [5]), ([], []), ([7], [7]), ([], []), ([], []), ([9, 10], [9, 10]), ([11], [11]), ([8, 12], [8, 12]), ([13], [13]), ([6, 14], [6, 14]), ([0, 1, 0, 1, 2, 3, 4, 5, 6, 7, 8, 9, 10, 11, 12, 13, 14, 15], [0, 1]), ([16, 0, 1, 2, 3, 4, 5, 6, 7, 8, 9, 10, 11, 12, 13, 14, 15], [16]), ([17, 15, 15, 0, 1, 2, 3, 4, 5, 6, 7, 8, 9, 10, 11, 12, 13, 14, 15], [15, 17])])
def mk18B : List Nat := [0, 0, 0, 0, 12, 28, 60, 0, 128, 0, 0, 1536, 3584, 8064, 16256, 32764, 65535, 131071, 262143]
theorem mk18T_tab : rtab .any (opsOf Tryd.f22 18) = mk18T := by kernel_rfl
theorem mk18B_bits : waitsOk mk18T.2 mk18B = true := by kernel_rfl
theorem info86 : (Tryd.prog.info? 86).map (fun i => (i.zero, i.size, i.bytes)) = some (some (.agg #[.string ⟨#[]⟩, .int .i64 0, .slice none 0 0, .int .u32 0]), 4, 56) := by kernel_rfl
theorem row4 {w : World} {p : Nat} {a b c d : Value} (h : w.heap[p]? = some (.cells #[a, b, c, d] 86 (0, 0))) : ReadsRow (fun (q : List Value) cs => q = [a, b, c, d] ∧ cs = [a, b, c, d]) 4 w (some ⟨p, 0, none⟩) 1 [[a, b, c, d]] := by
 refine ⟨rfl, by decide, fun _ => ⟨_, rfl, fun j q hj => ?_⟩⟩
 cases j with
 | zero =>
  cases hj
  refine ⟨[a, b, c, d], rfl, ⟨rfl, rfl⟩, fun i u hu => ?_⟩
  rw [addr_add]
  refine blk_get h ?_
  rw [show 0 + (0 * 4 + i) = i by omega, ← Array.getElem?_toList]
  exact hu
 | succ j => simp at hj
theorem item_row {w : World} {B : Nat} {v a b c d : Value} (h : Kd.R (Kd.raw 4) 86 w B (fun _ => True) v ([] ++ [[a, b, c, d]])) : ∃ ib ic, v = .slice (some ⟨ib, 0, none⟩) 1 ic ∧ B ≤ ib ∧ w.cell? ⟨ib, 0, none⟩ = some a ∧ w.cell? ⟨ib, 1, none⟩ = some b ∧ w.cell? ⟨ib, 2, none⟩ = some c ∧ w.cell? ⟨ib, 3, none⟩ = some d := by
 obtain ⟨inner, ho, hr⟩ := h.2
 have h0 : (inner.drop 0).take 4 = [a, b, c, d] := (hr.2 0 [a, b, c, d] rfl).1
 rcases ho.2 with ⟨_, hn⟩ | ⟨pb, cap, cur, hv2, hq, hc, hle, hmx, hsz, htake⟩
 ·cases hn
 ·rw [← htake, List.drop_zero] at h0
  have key : ∀ (k : Nat) (u : Value), k < 4 → [a, b, c, d][k]? = some u → w.cell? ⟨pb, k, none⟩ = some u := by
   intro k u hk hu
   refine blk_get hc ?_
   rw [← h0, List.getElem?_take_of_lt hk, List.getElem?_take_of_lt (show k < ([] ++ [[a, b, c, d]] : List (List Value)).length * (Kd.raw 4).sz from hk), Array.getElem?_toList] at hu
   exact hu
  exact ⟨pb, cap, hv2, hq, key 0 _ (by decide) rfl, key 1 _ (by decide) rfl, key 2 _ (by decide) rfl, key 3 _ (by decide) rfl⟩
/-- The three chunks, as they lie. -/
structure Ck (w : World) (kb : Nat) (q0 q1 q2 : Option Addr) (e0 e1 e2 : Nat) : Prop where
 a0 : w.cell? ⟨kb, 0, none⟩ = some (.int .i64 1)
 a1 : w.cell? ⟨kb, 1, none⟩ = some (.slice q0 16 e0)
 a2 : w.cell? ⟨kb, 2, none⟩ = some (.int .u32 2542556914)
 b0 : w.cell? ⟨kb, 3, none⟩ = some (.int .i64 1)
 b1 : w.cell? ⟨kb, 4, none⟩ = some (.slice q1 16 e1)
 b2 : w.cell? ⟨kb, 5, none⟩ = some (.int .u32 1114675946)
 c0 : w.cell? ⟨kb, 6, none⟩ = some (.int .i64 1)
 c1 : w.cell? ⟨kb, 7, none⟩ = some (.slice q2 16 e2)
 c2 : w.cell? ⟨kb, 8, none⟩ = some (.int .u32 2542556914)
 la : 16 ≤ e0
 lb : 16 ≤ e1
 lc : 16 ≤ e2
theorem chunks_cells {w : World} {kb : Nat} (h : Kd.C k44 w (some ⟨kb, 0, none⟩) 3 [CA, CB, CA]) : ∃ q0 q1 q2 e0 e1 e2, Ck w kb q0 q1 q2 e0 e1 e2 ∧ Kd.C (Kd.int .u8) w q0 16 DA ∧ Kd.C (Kd.int .u8) w q1 16 DB ∧ Kd.C (Kd.int .u8) w q2 16 DA := by
 obtain ⟨ad, A0, c0, e, x0, x1, x2, l0, g0⟩ := at_T44 h 0 (by decide) (by decide)
 cases e
 obtain ⟨ad, A1, c1, e, y0, y1, y2, l1, g1⟩ := at_T44 h 1 (by decide) (by decide)
 cases e
 obtain ⟨ad, A2, c2, e, z0, z1, z2, l2, g2⟩ := at_T44 h 2 (by decide) (by decide)
 cases e
 rw [addr_add] at x0 x1 x2 y0 y1 y2 z0 z1 z2
 exact ⟨A0, A1, A2, c0, c1, c2, ⟨x0, x1, x2, y0, y1, y2, z0, z1, z2, l0, l1, l2⟩, g0, g1, g2⟩
theorem chunks_kept {w w' : World} {B kb : Nat} {q0 q1 q2 : Option Addr} {e0 e1 e2 : Nat} (hF : Kd.F k44 w (fun k => B ≤ k) (some ⟨kb, 0, none⟩) 3 [CA, CB, CA]) (hk : Ck w kb q0 q1 q2 e0 e1 e2) (hB : B ≤ kb) (hl : kb < w.heap.size) (hW : ∀ k, B ≤ k → k < w.heap.size → w'.heap[k]? = w.heap[k]?) :
 Kd.C (Kd.int .u8) w' q0 16 DA ∧ Kd.C (Kd.int .u8) w' q1 16 DB ∧ Kd.C (Kd.int .u8) w' q2 16 DA := by
 obtain ⟨r0, r1, r2, f0, f1, f2, hk', g0, g1, g2⟩ := chunks_cells (hF w' hW)
 have hb := hW kb hB hl
 have s0 := (World.cell?_of_block (a := ⟨kb, 1, none⟩) hb).symm.trans hk'.a1
 have s1 := (World.cell?_of_block (a := ⟨kb, 4, none⟩) hb).symm.trans hk'.b1
 have s2 := (World.cell?_of_block (a := ⟨kb, 7, none⟩) hb).symm.trans hk'.c1
 rw [hk.a1] at s0
 rw [hk.b1] at s1
 rw [hk.c1] at s2
 injection s0 with s0
 injection s1 with s1
 injection s2 with s2
 injection s0 with s0 _ _
 injection s1 with s1 _ _
 injection s2 with s2 _ _
 subst s0 s1 s2
 exact ⟨g0, g1, g2⟩
/-- All but the block ob is as it was. -/
def Keep (w0 w : World) (ob : Nat) : Prop := w0.heap.size ≤ w.heap.size ∧ ∀ k, k < w0.heap.size → k ≠ ob → w.heap[k]? = w0.heap[k]?
/-- An item's cells, in another block than ob. -/
structure Ic (w : World) (ob i : Nat) (q : Option Addr) (e : Nat) (s : Int) : Prop where
 c0 : w.cell? ⟨i, 0, none⟩ = some (.string nmA)
 c1 : w.cell? ⟨i, 1, none⟩ = some (.int .i64 1)
 c2 : w.cell? ⟨i, 2, none⟩ = some (.slice q 16 e)
 c3 : w.cell? ⟨i, 3, none⟩ = some (.int .u32 s)
 ne : i ≠ ob
theorem Ic.kept {w w' : World} {ob i : Nat} {q : Option Addr} {e : Nat} {s : Int} (h : Ic w ob i q e s) (hb : Below w.heap.size w w') : Ic w' ob i q e s :=
 ⟨zD_ hb h.c0, zD_ hb h.c1, zD_ hb h.c2, zD_ hb h.c3, h.ne⟩
theorem Ic.set {w : World} {ob i : Nat} {q : Option Addr} {e : Nat} {s : Int} (h : Ic w ob i q e s) (k : Nat) (v : Value) : Ic (w.setCell ⟨ob, k, none⟩ v) ob i q e s :=
 ⟨(World.cell?_setCell_other _ _ _ _ (by intro he; injection he with he; exact h.ne he.symm)).trans h.c0, (World.cell?_setCell_other _ _ _ _ (by intro he; injection he with he; exact h.ne he.symm)).trans h.c1, (World.cell?_setCell_other _ _ _ _ (by intro he; injection he with he; exact h.ne he.symm)).trans h.c2, (World.cell?_setCell_other _ _ _ _ (by intro he; injection he with he; exact h.ne he.symm)).trans h.c3, h.ne⟩
theorem chunks_one (w : World) (xb : Nat) (hx : Kd.C (Kd.int .u8) w (some ⟨xb, 0, none⟩) 1 [7]) : Calls Tryd.prog 18 #[.int .i64 2, .int .i64 1, .slice (some ⟨xb, 0, none⟩) 1 1] w fun e w' => ∃ kb cap q0 q1 q2 e0 e1 e2, e = .returned (.tuple #[.slice (some ⟨kb, 0, none⟩) 3 cap, .int .i64 0]) ∧ (w.heap.size ≤ kb ∧ kb < w'.heap.size) ∧ Ck w' kb q0 q1 q2 e0 e1 e2 ∧ Kd.F k44 w' (fun k => w.heap.size ≤ k) (some ⟨kb, 0, none⟩) 3 [CA, CB, CA] ∧ Below w.heap.size w w' := by
 refine (rebuild_Chunks.calls 100 2 1 (some ⟨xb, 0, none⟩) 1 [7] [CA, CB, CA] 0 w hx (Nat.le_refl _) chunks_7).mono ?_
 rintro e w' ⟨v0, rfl, hN, hb⟩
 obtain ⟨kb, cap, rfl, hB, hl, _⟩ := Kd.N_form hN (by decide)
 have hF := Kd.N_F hN
 obtain ⟨q0, q1, q2, e0, e1, e2, hk, _, _, _⟩ := chunks_cells (Kd.F_now hF)
 exact ⟨kb, cap, q0, q1, q2, e0, e1, e2, rfl, ⟨hB, hl⟩, hk, hF, hb⟩
theorem make_one (W : World) (lb xb : Nat) (hl0 : W.cell? ⟨lb, 0, none⟩ = some (.string nmA)) (hl1 : W.cell? ⟨lb, 1, none⟩ = some (.slice (some ⟨xb, 0, none⟩) 1 1)) (hx : Kd.C (Kd.int .u8) W (some ⟨xb, 0, none⟩) 1 [7]) :
 Calls Tryd.prog 22 #[.int .i64 2, .int .i64 1, .slice (some ⟨lb, 0, none⟩) 1 1, .slice none 0 0, .int .i64 3] W fun e w' => ∃ ob i1 c1 i2 c2 q1 q2 e1 e2, e = .returned (.tuple #[.slice (some ⟨ob, 0, none⟩) 3 3, .int .i64 0]) ∧ Sh w' ob 5 1 i1 c1 q1 e1 DB 1114675946 ∧ Sh w' ob 10 2 i2 c2 q2 e2 DA 2542556914 ∧ Below W.heap.size W w' := by
 have hw : IntKind.i64.wrap 3 = 3 := by decide
 have hm := mk52
 go_enter Tryd.func22, Tryd.ntmps22
 go_wp2_with (first | (go_at_call 42; refine (is_21 _).mono ?_; rintro e w' ⟨rfl, ⟨nd, rfl⟩⟩; have HWA := Aside0.mk (zA_ (Below.refl W.heap.size W) nd); generalize W.drewN nd = wa at *))
 clear hm
 go_loopg [37] 4 (fun gg s37 wr => Aside0 (Below wa.heap.size wa wr) ∧ ((s37 = .int .i64 0 ∧ 3 ≤ gg ∧ Aside0 (wr.heap[wa.heap.size]? = some (.cells #[.int .i64 0, .int .i64 0, .slice none 0 0, .slice none 0 0, .slice none 0 0, .int .i64 0, .int .i64 0, .slice none 0 0, .slice none 0 0, .slice none 0 0, .int .i64 0, .int .i64 0, .slice none 0 0, .slice none 0 0, .slice none 0 0] 83 (0, 0)))) ∨ (s37 = .int .i64 1 ∧ 2 ≤ gg ∧ Aside0 (wr.heap[wa.heap.size]? = some (.cells #[.int .i64 0, .int .i64 3, .slice none 0 0, .slice none 0 0, .slice none 0 0, .int .i64 0, .int .i64 0, .slice none 0 0, .slice none 0 0, .slice none 0 0, .int .i64 0, .int .i64 0, .slice none 0 0, .slice none 0 0, .slice none 0 0] 83 (0, 0)))) ∨ (s37 = .int .i64 2 ∧ 1 ≤ gg ∧ Aside0 (wr.heap[wa.heap.size]? = some (.cells #[.int .i64 0, .int .i64 3, .slice none 0 0, .slice none 0 0, .slice none 0 0, .int .i64 1, .int .i64 3, .slice none 0 0, .slice none 0 0, .slice none 0 0, .int .i64 0, .int .i64 0, .slice none 0 0, .slice none 0 0, .slice none 0 0] 83 (0, 0)))) ∨ (s37 = .int .i64 3 ∧ Aside0 (wr.heap[wa.heap.size]? = some (.cells #[.int .i64 0, .int .i64 3, .slice none 0 0, .slice none 0 0, .slice none 0 0, .int .i64 1, .int .i64 3, .slice none 0 0, .slice none 0 0, .slice none 0 0, .int .i64 2, .int .i64 3, .slice none 0 0, .slice none 0 0, .slice none 0 0] 83 (0, 0))))))
 case atStart => exact ⟨⟨zC_ (Below.refl _ _) _⟩, Or.inl ⟨rfl, by omega, ⟨heap_top _ _⟩⟩⟩
 case round =>
  obtain ⟨HR, h37⟩ := hrel
  rcases h37 with ⟨rfl, hg, HK⟩ | ⟨rfl, hg, HK⟩ | ⟨rfl, hg, HK⟩ | ⟨rfl, HK⟩
  ·have k0 : wr.cell? ⟨wa.heap.size, 0, none⟩ = some (.int .i64 0) := blk_get HK.out rfl
   have f0 : wr.frozen? ⟨wa.heap.size, 0, none⟩ = false := blk_fz HK.out
   have k1 : wr.cell? ⟨wa.heap.size, 1, none⟩ = some (.int .i64 0) := blk_get HK.out rfl
   have f1 : wr.frozen? ⟨wa.heap.size, 1, none⟩ = false := blk_fz HK.out
   have k2 : wr.cell? ⟨wa.heap.size, 2, none⟩ = some (.slice none 0 0) := blk_get HK.out rfl
   have f2 : wr.frozen? ⟨wa.heap.size, 2, none⟩ = false := blk_fz HK.out
   have k3 : wr.cell? ⟨wa.heap.size, 3, none⟩ = some (.slice none 0 0) := blk_get HK.out rfl
   have f3 : wr.frozen? ⟨wa.heap.size, 3, none⟩ = false := blk_fz HK.out
   have k4 : wr.cell? ⟨wa.heap.size, 4, none⟩ = some (.slice none 0 0) := blk_get HK.out rfl
   have f4 : wr.frozen? ⟨wa.heap.size, 4, none⟩ = false := blk_fz HK.out
   have HKF : Aside0 ((((((wr.setCell ⟨wa.heap.size, 0, none⟩ (.int .i64 0)).setCell ⟨wa.heap.size, 1, none⟩ (.int .i64 3)).setCell ⟨wa.heap.size, 2, none⟩ (.slice none 0 0)).setCell ⟨wa.heap.size, 3, none⟩ (.slice none 0 0)).setCell ⟨wa.heap.size, 4, none⟩ (.slice none 0 0)).heap[wa.heap.size]? = some (.cells #[.int .i64 0, .int .i64 3, .slice none 0 0, .slice none 0 0, .slice none 0 0, .int .i64 0, .int .i64 0, .slice none 0 0, .slice none 0 0, .slice none 0 0, .int .i64 0, .int .i64 0, .slice none 0 0, .slice none 0 0, .slice none 0 0] 83 (0, 0))) := ⟨(blk_set (blk_set (blk_set (blk_set (blk_set HK.out _ _) _ _) _ _) _ _) _ _)⟩
   have HRF : Aside0 (Below wa.heap.size wa (((((wr.setCell ⟨wa.heap.size, 0, none⟩ (.int .i64 0)).setCell ⟨wa.heap.size, 1, none⟩ (.int .i64 3)).setCell ⟨wa.heap.size, 2, none⟩ (.slice none 0 0)).setCell ⟨wa.heap.size, 3, none⟩ (.slice none 0 0)).setCell ⟨wa.heap.size, 4, none⟩ (.slice none 0 0))) := ⟨(((((HR.out.setCell (Nat.le_refl _) _).setCell (Nat.le_refl _) _).setCell (Nat.le_refl _) _).setCell (Nat.le_refl _) _).setCell (Nat.le_refl _) _)⟩
   go_wp2_with (first | (go_at_call 43; refine (Clone_nil _).mono ?_; rintro e w' ⟨rfl, hw_⟩; obtain rfl := hw_.symm))
   go_roundg 2
   case measure => omega
   case rel => exact ⟨HRF, Or.inr (Or.inl ⟨by go_num, by omega, HKF⟩)⟩
  ·have k0 : wr.cell? ⟨wa.heap.size, 5, none⟩ = some (.int .i64 0) := blk_get HK.out rfl
   have f0 : wr.frozen? ⟨wa.heap.size, 5, none⟩ = false := blk_fz HK.out
   have k1 : wr.cell? ⟨wa.heap.size, 6, none⟩ = some (.int .i64 0) := blk_get HK.out rfl
   have f1 : wr.frozen? ⟨wa.heap.size, 6, none⟩ = false := blk_fz HK.out
   have k2 : wr.cell? ⟨wa.heap.size, 7, none⟩ = some (.slice none 0 0) := blk_get HK.out rfl
   have f2 : wr.frozen? ⟨wa.heap.size, 7, none⟩ = false := blk_fz HK.out
   have k3 : wr.cell? ⟨wa.heap.size, 8, none⟩ = some (.slice none 0 0) := blk_get HK.out rfl
   have f3 : wr.frozen? ⟨wa.heap.size, 8, none⟩ = false := blk_fz HK.out
   have k4 : wr.cell? ⟨wa.heap.size, 9, none⟩ = some (.slice none 0 0) := blk_get HK.out rfl
   have f4 : wr.frozen? ⟨wa.heap.size, 9, none⟩ = false := blk_fz HK.out
   have HKF : Aside0 ((((((wr.setCell ⟨wa.heap.size, 5, none⟩ (.int .i64 1)).setCell ⟨wa.heap.size, 6, none⟩ (.int .i64 3)).setCell ⟨wa.heap.size, 7, none⟩ (.slice none 0 0)).setCell ⟨wa.heap.size, 8, none⟩ (.slice none 0 0)).setCell ⟨wa.heap.size, 9, none⟩ (.slice none 0 0)).heap[wa.heap.size]? = some (.cells #[.int .i64 0, .int .i64 3, .slice none 0 0, .slice none 0 0, .slice none 0 0, .int .i64 1, .int .i64 3, .slice none 0 0, .slice none 0 0, .slice none 0 0, .int .i64 0, .int .i64 0, .slice none 0 0, .slice none 0 0, .slice none 0 0] 83 (0, 0))) := ⟨(blk_set (blk_set (blk_set (blk_set (blk_set HK.out _ _) _ _) _ _) _ _) _ _)⟩
   have HRF : Aside0 (Below wa.heap.size wa (((((wr.setCell ⟨wa.heap.size, 5, none⟩ (.int .i64 1)).setCell ⟨wa.heap.size, 6, none⟩ (.int .i64 3)).setCell ⟨wa.heap.size, 7, none⟩ (.slice none 0 0)).setCell ⟨wa.heap.size, 8, none⟩ (.slice none 0 0)).setCell ⟨wa.heap.size, 9, none⟩ (.slice none 0 0))) := ⟨(((((HR.out.setCell (Nat.le_refl _) _).setCell (Nat.le_refl _) _).setCell (Nat.le_refl _) _).setCell (Nat.le_refl _) _).setCell (Nat.le_refl _) _)⟩
   go_wp2_with (first | (go_at_call 43; refine (Clone_nil _).mono ?_; rintro e w' ⟨rfl, hw_⟩; obtain rfl := hw_.symm))
   go_roundg 1
   case measure => omega
   case rel => exact ⟨HRF, Or.inr (Or.inr (Or.inl ⟨by go_num, by omega, HKF⟩))⟩
  ·have k0 : wr.cell? ⟨wa.heap.size, 10, none⟩ = some (.int .i64 0) := blk_get HK.out rfl
   have f0 : wr.frozen? ⟨wa.heap.size, 10, none⟩ = false := blk_fz HK.out
   have k1 : wr.cell? ⟨wa.heap.size, 11, none⟩ = some (.int .i64 0) := blk_get HK.out rfl
   have f1 : wr.frozen? ⟨wa.heap.size, 11, none⟩ = false := blk_fz HK.out
   have k2 : wr.cell? ⟨wa.heap.size, 12, none⟩ = some (.slice none 0 0) := blk_get HK.out rfl
   have f2 : wr.frozen? ⟨wa.heap.size, 12, none⟩ = false := blk_fz HK.out
   have k3 : wr.cell? ⟨wa.heap.size, 13, none⟩ = some (.slice none 0 0) := blk_get HK.out rfl
   have f3 : wr.frozen? ⟨wa.heap.size, 13, none⟩ = false := blk_fz HK.out
   have k4 : wr.cell? ⟨wa.heap.size, 14, none⟩ = some (.slice none 0 0) := blk_get HK.out rfl
   have f4 : wr.frozen? ⟨wa.heap.size, 14, none⟩ = false := blk_fz HK.out
   have HKF : Aside0 ((((((wr.setCell ⟨wa.heap.size, 10, none⟩ (.int .i64 2)).setCell ⟨wa.heap.size, 11, none⟩ (.int .i64 3)).setCell ⟨wa.heap.size, 12, none⟩ (.slice none 0 0)).setCell ⟨wa.heap.size, 13, none⟩ (.slice none 0 0)).setCell ⟨wa.heap.size, 14, none⟩ (.slice none 0 0)).heap[wa.heap.size]? = some (.cells #[.int .i64 0, .int .i64 3, .slice none 0 0, .slice none 0 0, .slice none 0 0, .int .i64 1, .int .i64 3, .slice none 0 0, .slice none 0 0, .slice none 0 0, .int .i64 2, .int .i64 3, .slice none 0 0, .slice none 0 0, .slice none 0 0] 83 (0, 0))) := ⟨(blk_set (blk_set (blk_set (blk_set (blk_set HK.out _ _) _ _) _ _) _ _) _ _)⟩
   have HRF : Aside0 (Below wa.heap.size wa (((((wr.setCell ⟨wa.heap.size, 10, none⟩ (.int .i64 2)).setCell ⟨wa.heap.size, 11, none⟩ (.int .i64 3)).setCell ⟨wa.heap.size, 12, none⟩ (.slice none 0 0)).setCell ⟨wa.heap.size, 13, none⟩ (.slice none 0 0)).setCell ⟨wa.heap.size, 14, none⟩ (.slice none 0 0))) := ⟨(((((HR.out.setCell (Nat.le_refl _) _).setCell (Nat.le_refl _) _).setCell (Nat.le_refl _) _).setCell (Nat.le_refl _) _).setCell (Nat.le_refl _) _)⟩
   go_wp2_with (first | (go_at_call 43; refine (Clone_nil _).mono ?_; rintro e w' ⟨rfl, hw_⟩; obtain rfl := hw_.symm))
   go_roundg 0
   case measure => omega
   case rel => exact ⟨HRF, Or.inr (Or.inr (Or.inr ⟨by go_num, HKF⟩))⟩
  ·have HW := Aside0.mk (zE_ HWA.out HR.out)
   have HOB : Aside0 (W.heap.size ≤ wa.heap.size) := ⟨HWA.out.size⟩
   clear HR HWA
   generalize wa.heap.size = ob at *
   go_wp2_with fail
   go_loopg [51] 2 (fun gg s51 w2 => Aside0 (Below W.heap.size W w2) ∧ ((s51 = .int .i64 0 ∧ 1 ≤ gg ∧ Aside0 (w2.heap[ob]? = some (.cells #[.int .i64 0, .int .i64 3, .slice none 0 0, .slice none 0 0, .slice none 0 0, .int .i64 1, .int .i64 3, .slice none 0 0, .slice none 0 0, .slice none 0 0, .int .i64 2, .int .i64 3, .slice none 0 0, .slice none 0 0, .slice none 0 0] 83 (0, 0)))) ∨ (s51 = .int .i64 1 ∧ ∃ i0 c0 q0 e0 i1 c1 q1 e1 i2 c2 q2 e2, Aside0 (Sh w2 ob 0 0 i0 c0 q0 e0 DA 2542556914) ∧ Aside0 (Sh w2 ob 5 1 i1 c1 q1 e1 DB 1114675946) ∧ Aside0 (Sh w2 ob 10 2 i2 c2 q2 e2 DA 2542556914))))
   case atStart => exact ⟨HW, Or.inl ⟨rfl, by omega, HK⟩⟩
   case round =>
   clear HK HW
   obtain ⟨HW, h51⟩ := hrel
   rcases h51 with ⟨rfl, hg, HK⟩ | ⟨rfl, i0, c0, q0, e0, i1, c1, q1, e1, i2, c2, q2, e2, HS0, HS1, HS2⟩
   ·have y0 := zD_ HW.out hl0
    have y1 := zD_ HW.out hl1
    go_upto_region 12 with (fail)
    have HN : Aside0 (Below wr.heap.size wr (wr.alloc (.cells #[.string nmA, .slice (some ⟨xb, 0, none⟩) 1 1] 72))) := ⟨zC_ (Below.refl _ _) _⟩
    have d0 : (wr.alloc (.cells #[.string nmA, .slice (some ⟨xb, 0, none⟩) 1 1] 72)).cell? ⟨wr.heap.size, 0, none⟩ = some (.string nmA) := cell_top _ _ _ 0
    have d1 : (wr.alloc (.cells #[.string nmA, .slice (some ⟨xb, 0, none⟩) 1 1] 72)).cell? ⟨wr.heap.size, 1, none⟩ = some (.slice (some ⟨xb, 0, none⟩) 1 1) := cell_top _ _ _ 1
    have HBN : Aside0 (wr.heap.size < (wr.alloc (.cells #[.string nmA, .slice (some ⟨xb, 0, none⟩) 1 1] 72)).heap.size ∧ wr.heap.size ≠ ob) := ⟨by have := (Array.getElem?_eq_some_iff.1 HK.out).1; rw [World.size_alloc]; omega⟩
    have HK2 := Aside0.mk ((HN.out.block ob (Array.getElem?_eq_some_iff.1 HK.out).1).trans HK.out)
    have HW2 := Aside0.mk (zE_ HW.out HN.out)
    clear y0 y1 HK HW HN
    generalize wr.alloc (.cells #[.string nmA, .slice (some ⟨xb, 0, none⟩) 1 1] 72) = w4 at *
    generalize wr.heap.size = b4 at *
    have HCO := Aside0.mk (chunks_one w4 xb (Kd.C_below hx HW2.out))
    go_upto_region 13 with (first | (go_at_call 18; refine HCO.out.mono ?_; rintro e w5 ⟨kb, cap, q0, q1, q2, e0, e1, e2, rfl, hkb, hck, hF, hb⟩; have HF := Aside0.mk hF; have HCK := Aside0.mk hck; have hd0 := zD_ hb d0; have HOS : Aside0 (ob < w4.heap.size) := ⟨(Array.getElem?_eq_some_iff.1 HK2.out).1⟩; have HKB : Aside0 (kb < w5.heap.size ∧ kb ≠ ob) := ⟨by have := HOS.out; omega⟩; have HKG := Aside0.mk hkb.1; have HB4 : Aside0 (b4 < w5.heap.size ∧ b4 ≠ ob) := ⟨by have := HBN.out; have := hb.size; omega⟩; have HK5 := Aside0.mk ((hb.block ob HOS.out).trans HK2.out); have HW5 := Aside0.mk (zE_ HW2.out hb); clear hb hkb hck hF d0 d1))
    refine start_ (n := 23) (S := fun w' => True) (ds := []) (upU 23 0) (by kernel_rfl) rfl rfl trivial (fun hHeld => ?_); refine with_tabW mk13T_tab mk13B_bits (fun HT_ HW_ => ?_)
    iterate 4
     refine pureO 64 (v := ?_) (a' := ?_) HT_ rfl rfl (by kernel_rfl) (fun _ _ _ h => h) (Or.inl ⟨by rfl, ?_⟩) ?_ ?_
     rotate_left
     ·intro w'
      go_simp
      first | done | with_reducible rfl
     rotate_left
     ·simp only [Act.put, Nat.reduceAdd, qA_, qB_, qC_, i64_w, i32_w]
      rfl
    refine one_ (i := 4) (N := some 68) (upU 23 5) rfl rfl (one_of HT_.out (by kernel_rfl)) (by decide) (fun K hK => ?_)
    refine value_ (w1 := ?_) (v := ?_) (by rfl) rfl ?_ ?_
    rotate_left 2
    ·go_simp
     first | done | (constructor <;> rfl)
    refine hK.out _ _ hHeld (fun hHeld => ?_)
    clear hK K
    refine norm_ (a' := ?_) ?_ ?_
    rotate_left
    ·show Act.put _ (some 68) _ = _
     simp only [Act.put, qA_, qB_, qC_, i64_w, i32_w]
     rfl
    refine one_ (i := 5) (N := some 69) (upU 23 6) rfl rfl (one_of HT_.out (by kernel_rfl)) (by decide) (fun K hK => ?_)
    refine goes_ Tryd.func44 (by kernel_rfl) rfl #[.string nmA] (by rfl) rfl rfl (by (try simp only [List.map_toArray, List.map_cons, List.map_nil]); first | done | rfl) ?_
    refine (name_Check _).mono ?_
    rintro e w6 ⟨rfl, hb⟩
    refine ⟨_, rfl, ?_⟩
    have HB6 : Aside0 (Below w5.heap.size w5 w6) := ⟨zE_ (below_drew (Below.refl _ _)) hb⟩
    clear hb
    refine hK.out _ _ trivial (fun hHeld => ?_)
    clear hK K
    refine norm_ (a' := ?_) ?_ ?_
    rotate_left
    ·show Act.put _ (some 69) _ = _
     simp only [Act.put, qA_, qB_, qC_, i64_w, i32_w]
     rfl
    iterate 6
     refine pureO 64 (v := ?_) (a' := ?_) HT_ rfl rfl (by kernel_rfl) (fun _ _ _ h => h) (Or.inl ⟨by rfl, ?_⟩) ?_ ?_
     rotate_left
     ·intro w'
      go_simp
      first | done | with_reducible rfl
     rotate_left
     ·simp only [Act.put, Nat.reduceAdd, qA_, qB_, qC_, i64_w, i32_w]
      rfl
    iterate 9
     refine pureO 64 (v := undef) (a' := ?_) HT_ rfl rfl (by kernel_rfl) (fun _ _ _ h => h) (Or.inr ⟨by rfl, rfl⟩) ?_ ?_
     rotate_left
     ·simp only [Act.put, Nat.reduceAdd, qA_, qB_, qC_, i64_w, i32_w]
      rfl
    iterate 2
     refine pureO 64 (v := ?_) (a' := ?_) HT_ rfl rfl (by kernel_rfl) (fun _ _ _ h => h) (Or.inl ⟨by rfl, ?_⟩) ?_ ?_
     rotate_left
     ·intro w'
      go_simp
      first | done | with_reducible rfl
     rotate_left
     ·simp only [Act.put, Nat.reduceAdd, qA_, qB_, qC_, i64_w, i32_w]
      rfl
    refine done_ (done_of HT_.out (by kernel_rfl)) ?_
    have HP6 : Aside0 (Keep w5 w6 ob) := ⟨HB6.out.size, fun k h1 _ => HB6.out.block k h1⟩
    have HW6 := Aside0.mk (zE_ HW5.out HB6.out)
    have HK6 := Aside0.mk ((HB6.out.block ob (Array.getElem?_eq_some_iff.1 HK5.out).1).trans HK5.out)
    clear hHeld HT_ HW_
    go_wp2_with fail
    go_loopg [89] 4 (fun gg s89 w3 => Aside0 (Keep w5 w3 ob) ∧ Aside0 (Below W.heap.size W w3) ∧ ((s89 = .int .i64 0 ∧ 3 ≤ gg ∧ Aside0 (w3.heap[ob]? = some (.cells #[.int .i64 0, .int .i64 3, .slice none 0 0, .slice none 0 0, .slice none 0 0, .int .i64 1, .int .i64 3, .slice none 0 0, .slice none 0 0, .slice none 0 0, .int .i64 2, .int .i64 3, .slice none 0 0, .slice none 0 0, .slice none 0 0] 83 (0, 0)))) ∨ (s89 = .int .i64 1 ∧ 2 ≤ gg ∧ ∃ i0 c0, Aside0 (w3.heap[ob]? = some (.cells #[.int .i64 0, .int .i64 3, .slice (some ⟨i0, 0, none⟩) 1 c0, .slice none 0 0, .slice none 0 0, .int .i64 1, .int .i64 3, .slice none 0 0, .slice none 0 0, .slice none 0 0, .int .i64 2, .int .i64 3, .slice none 0 0, .slice none 0 0, .slice none 0 0] 83 (0, 0))) ∧ Aside0 (Ic w3 ob i0 q0 e0 2542556914)) ∨ (s89 = .int .i64 2 ∧ 1 ≤ gg ∧ ∃ i0 c0, ∃ i1 c1, Aside0 (w3.heap[ob]? = some (.cells #[.int .i64 0, .int .i64 3, .slice (some ⟨i0, 0, none⟩) 1 c0, .slice none 0 0, .slice none 0 0, .int .i64 1, .int .i64 3, .slice (some ⟨i1, 0, none⟩) 1 c1, .slice none 0 0, .slice none 0 0, .int .i64 2, .int .i64 3, .slice none 0 0, .slice none 0 0, .slice none 0 0] 83 (0, 0))) ∧ Aside0 (Ic w3 ob i0 q0 e0 2542556914) ∧ Aside0 (Ic w3 ob i1 q1 e1 1114675946)) ∨ (s89 = .int .i64 3 ∧ ∃ i0 c0, ∃ i1 c1, ∃ i2 c2, Aside0 (w3.heap[ob]? = some (.cells #[.int .i64 0, .int .i64 3, .slice (some ⟨i0, 0, none⟩) 1 c0, .slice none 0 0, .slice none 0 0, .int .i64 1, .int .i64 3, .slice (some ⟨i1, 0, none⟩) 1 c1, .slice none 0 0, .slice none 0 0, .int .i64 2, .int .i64 3, .slice (some ⟨i2, 0, none⟩) 1 c2, .slice none 0 0, .slice none 0 0] 83 (0, 0))) ∧ Aside0 (Ic w3 ob i0 q0 e0 2542556914) ∧ Aside0 (Ic w3 ob i1 q1 e1 1114675946) ∧ Aside0 (Ic w3 ob i2 q2 e2 2542556914))))
    case atStart => exact ⟨HP6, HW6, Or.inl ⟨rfl, by omega, HK6⟩⟩
    case round =>
    clear HP6 HW6 HK6 HB6
    obtain ⟨HP, HBW, h89⟩ := hrel
    rcases h89 with ⟨rfl, hg3, HK⟩ | ⟨rfl, hg3, i0, c0, HK, HI0⟩ | ⟨rfl, hg3, i0, c0, i1, c1, HK, HI0, HI1⟩ | ⟨rfl, i0, c0, i1, c1, i2, c2, HK, HI0, HI1, HI2⟩
    ·have o2 : wr.cell? ⟨ob, 2, none⟩ = some (.slice none 0 0) := blk_get HK.out rfl
     have n0 : wr.cell? ⟨b4, 0, none⟩ = some (.string nmA) := (World.cell?_of_block (a := ⟨b4, 0, none⟩) (HP.out.2 b4 HB4.out.1 HB4.out.2)).trans hd0
     have hkk := HP.out.2 kb HKB.out.1 HKB.out.2
     have g0 : wr.cell? ⟨kb, 0, none⟩ = some (.int .i64 1) := (World.cell?_of_block (a := ⟨kb, 0, none⟩) hkk).trans HCK.out.a0
     have g1 : wr.cell? ⟨kb, 1, none⟩ = some (.slice q0 16 e0) := (World.cell?_of_block (a := ⟨kb, 1, none⟩) hkk).trans HCK.out.a1
     have g2 : wr.cell? ⟨kb, 2, none⟩ = some (.int .u32 2542556914) := (World.cell?_of_block (a := ⟨kb, 2, none⟩) hkk).trans HCK.out.a2
     have HOL : Aside0 (ob < wr.heap.size) := ⟨(Array.getElem?_eq_some_iff.1 HK.out).1⟩
     have HAL : Aside0 (Below wr.heap.size wr (wr.alloc (.cells #[.string nmA, .int .i64 1, .slice q0 16 e0, .int .u32 2542556914] 86)).drew) := ⟨Below.drew (zC_ (Below.refl _ _) _)⟩
     clear hkk
     go_upto_region 18 with (fail)
     refine start_ (n := 19) (S := fun w' => w'.cell? ⟨ob, 2, none⟩ = some (.slice none 0 0) ∧ w'.cell? ⟨b4, 0, none⟩ = some (.string nmA) ∧ w'.cell? ⟨kb, 0, none⟩ = some (.int .i64 1) ∧ w'.cell? ⟨kb, 1, none⟩ = some (.slice q0 16 e0) ∧ w'.cell? ⟨kb, 2, none⟩ = some (.int .u32 2542556914)) (ds := [15, 18]) (upU 19 0) (by kernel_rfl) rfl rfl ⟨o2, n0, g0, g1, g2⟩ (fun hHeld => ?_); refine with_tabW mk18T_tab mk18B_bits (fun HT_ HW_ => ?_)
     iterate 6
      refine pureO 92 (v := ?_) (a' := ?_) HT_ rfl rfl (by kernel_rfl) (fun _ _ _ h => h) (Or.inl ⟨by rfl, ?_⟩) ?_ ?_
      rotate_left
      ·intro w'
       go_simp
       first | done | with_reducible rfl
      rotate_left
      ·simp only [Act.put, Nat.reduceAdd, qA_, qB_, qC_, i64_w, i32_w]
       rfl
     refine take_ (i := 6) (N := some 98) (v := ?_) (a' := ?_) (upU 19 7) rfl rfl (take_ofW HT_.out HW_.out (by kernel_rfl)) (fun _ _ _ h => h) (Or.inl ⟨by rfl, ?_⟩) hHeld ?_ ?_
     rotate_left
     ·intro w' hS_
      obtain ⟨s0, s1, s2, s3, s4⟩ := hS_
      go_simp
      first | done | with_reducible rfl
     rotate_left
     ·simp only [Act.put, qA_, qB_, qC_, i64_w, i32_w]
      rfl
     iterate 1
      refine pureO 92 (v := ?_) (a' := ?_) HT_ rfl rfl (by kernel_rfl) (fun _ _ _ h => h) (Or.inl ⟨by rfl, ?_⟩) ?_ ?_
      rotate_left
      ·intro w'
       go_simp
       first | done | with_reducible rfl
      rotate_left
      ·simp only [Act.put, Nat.reduceAdd, qA_, qB_, qC_, i64_w, i32_w]
       rfl
     refine take_ (i := 8) (N := some 100) (v := ?_) (a' := ?_) (upU 19 9) rfl rfl (take_ofW HT_.out HW_.out (by kernel_rfl)) (fun _ _ _ h => h) (Or.inl ⟨by rfl, ?_⟩) hHeld ?_ ?_
     rotate_left
     ·intro w' hS_
      obtain ⟨s0, s1, s2, s3, s4⟩ := hS_
      go_simp
      first | done | with_reducible rfl
     rotate_left
     ·simp only [Act.put, qA_, qB_, qC_, i64_w, i32_w]
      rfl
     iterate 3
      refine pureO 92 (v := ?_) (a' := ?_) HT_ rfl rfl (by kernel_rfl) (fun _ _ _ h => h) (Or.inl ⟨by rfl, ?_⟩) ?_ ?_
      rotate_left
      ·intro w'
       go_simp
       first | done | with_reducible rfl
      rotate_left
      ·simp only [Act.put, Nat.reduceAdd, qA_, qB_, qC_, i64_w, i32_w]
       rfl
     refine take_ (i := 12) (N := some 104) (v := ?_) (a' := ?_) (upU 19 13) rfl rfl (take_ofW HT_.out HW_.out (by kernel_rfl)) (fun _ _ _ h => h) (Or.inl ⟨by rfl, ?_⟩) hHeld ?_ ?_
     rotate_left
     ·intro w' hS_
      obtain ⟨s0, s1, s2, s3, s4⟩ := hS_
      go_simp
      first | done | with_reducible rfl
     rotate_left
     ·simp only [Act.put, qA_, qB_, qC_, i64_w, i32_w]
      rfl
     iterate 1
      refine pureO 92 (v := ?_) (a' := ?_) HT_ rfl rfl (by kernel_rfl) (fun _ _ _ h => h) (Or.inl ⟨by rfl, ?_⟩) ?_ ?_
      rotate_left
      ·intro w'
       go_simp
       first | done | with_reducible rfl
      rotate_left
      ·simp only [Act.put, Nat.reduceAdd, qA_, qB_, qC_, i64_w, i32_w]
       rfl
     refine one_ (i := 14) (N := some 106) (upU 19 15) rfl rfl (one_of HT_.out (by kernel_rfl)) (by decide) (fun K hK => ?_)
     refine value_ (w1 := ?_) (v := ?_) (by rfl) rfl ?_ ?_
     rotate_left 2
     ·go_simp
      first | done | (constructor <;> rfl)
     refine hK.out _ _ ⟨zD_ HAL.out o2, zD_ HAL.out n0, zD_ HAL.out g0, zD_ HAL.out g1, zD_ HAL.out g2⟩ (fun hHeld => ?_)
     clear hK K
     refine norm_ (a' := ?_) ?_ ?_
     rotate_left
     ·show Act.put _ (some 106) _ = _
      simp only [Act.put, qA_, qB_, qC_, i64_w, i32_w]
      rfl
     refine last_ (i := 15) (N := some 107) (upU 19 16) rfl rfl (one_of HT_.out (by kernel_rfl)) (by decide) (fun K hK => ?_)
     refine Kd.R_append_rows_step (Kd.raw 4) (Rr := fun (q : List Value) cs => q = [.string nmA, .int .i64 1, .slice q0 16 e0, .int .u32 2542556914] ∧ cs = [.string nmA, .int .i64 1, .slice q0 16 e0, .int .u32 2542556914]) (w0 := wr) wr.heap.size (by rfl) (.tmp 98) (.tmp 106) 80 86 (.agg #[.string ⟨#[]⟩, .int .i64 0, .slice none 0 0, .int .u32 0]) 56 rfl Tryd.underlying80 info86 rfl (by decide) (by decide) (.slice none 0 0) [] [[.string nmA, .int .i64 1, .slice q0 16 e0, .int .u32 2542556914]] _ 1 1 (fun _ => True) (fun _ => True) rfl rfl (Kd.R_nil _ _ _ _ _) (row4 (heap_top wr _)) (fun x cs h => by obtain ⟨rfl, rfl⟩ := h; exact ⟨rfl, rfl, by intro u hu; simp at hu; rcases hu with rfl | rfl | rfl | rfl <;> rfl⟩) (fun k _ => ⟨trivial, by intro h; cases h⟩) (fun _ _ => trivial) HAL.out HAL.out.size (by decide) ?_
     intro v1 w6 ho hb2 hgr hat
     obtain ⟨i0, c0, hv1, hge, m0, m1, m2, m3⟩ := item_row ho
     subst hv1
     clear ho hgr hat
     have p2 := zD_ hb2 o2
     have pf : w6.frozen? ⟨ob, 2, none⟩ = false := (hb2.frozen (p := ⟨ob, 2, none⟩) HOL.out).trans (blk_fz HK.out)
     refine hK.out _ _ ?_
     clear hK K
     refine norm_ (a' := ?_) ?_ ?_
     rotate_left
     ·show Act.put _ (some 107) _ = _
      simp only [Act.put, qA_, qB_, qC_, i64_w, i32_w]
      rfl
     iterate 2
      refine pureO 92 (v := ?_) (a' := ?_) HT_ rfl rfl (by kernel_rfl) (fun _ _ _ h => h) (Or.inl ⟨by rfl, ?_⟩) ?_ ?_
      rotate_left
      ·intro w'
       go_simp
       first | done | with_reducible rfl
      rotate_left
      ·simp only [Act.put, Nat.reduceAdd, qA_, qB_, qC_, i64_w, i32_w]
       rfl
     refine last_ (i := 18) (N := none) (upU 19 19) rfl rfl (one_of HT_.out (by kernel_rfl)) (by decide) (fun K hK => ?_)
     refine skip_ (w1 := ?_) (by rfl) rfl ?_ ?_
     rotate_left
     ·go_simp
      first | done | rfl
     refine hK.out _ _ ?_
     clear hK K
     refine done_ (done_of HT_.out (by kernel_rfl)) ?_
     have HKF : Aside0 ((w6.setCell ⟨ob, 2, none⟩ (.slice (some ⟨i0, 0, none⟩) 1 c0)).heap[ob]? = some (.cells #[.int .i64 0, .int .i64 3, .slice (some ⟨i0, 0, none⟩) 1 c0, .slice none 0 0, .slice none 0 0, .int .i64 1, .int .i64 3, .slice none 0 0, .slice none 0 0, .slice none 0 0, .int .i64 2, .int .i64 3, .slice none 0 0, .slice none 0 0, .slice none 0 0] 83 (0, 0))) := ⟨blk_set ((hb2.block ob HOL.out).trans HK.out) _ _⟩
     have HPF : Aside0 (Keep w5 (w6.setCell ⟨ob, 2, none⟩ (.slice (some ⟨i0, 0, none⟩) 1 c0)) ob) := ⟨by rw [World.size_setCell]; exact Nat.le_trans HP.out.1 hb2.size, fun k h1 h2 => (Below.heap_setCell _ _ _ _ h2).trans ((hb2.block k (Nat.lt_of_lt_of_le h1 HP.out.1)).trans (HP.out.2 k h1 h2))⟩
     have HWF : Aside0 (Below W.heap.size W (w6.setCell ⟨ob, 2, none⟩ (.slice (some ⟨i0, 0, none⟩) 1 c0))) := ⟨(zE_ HBW.out hb2).setCell HOB.out _⟩
     have HJ0 : Aside0 (Ic (w6.setCell ⟨ob, 2, none⟩ (.slice (some ⟨i0, 0, none⟩) 1 c0)) ob i0 q0 e0 2542556914) := ⟨Ic.set ⟨m0, m1, m2, m3, by have := HOL.out; omega⟩ _ _⟩
     go_wp2_with fail
     go_roundg 2
     case measure => omega
     case rel => exact ⟨HPF, HWF, Or.inr (Or.inl ⟨by go_num, by omega, i0, c0, HKF, HJ0⟩)⟩
    ·have o2 : wr.cell? ⟨ob, 7, none⟩ = some (.slice none 0 0) := blk_get HK.out rfl
     have n0 : wr.cell? ⟨b4, 0, none⟩ = some (.string nmA) := (World.cell?_of_block (a := ⟨b4, 0, none⟩) (HP.out.2 b4 HB4.out.1 HB4.out.2)).trans hd0
     have hkk := HP.out.2 kb HKB.out.1 HKB.out.2
     have g0 : wr.cell? ⟨kb, 3, none⟩ = some (.int .i64 1) := (World.cell?_of_block (a := ⟨kb, 3, none⟩) hkk).trans HCK.out.b0
     have g1 : wr.cell? ⟨kb, 4, none⟩ = some (.slice q1 16 e1) := (World.cell?_of_block (a := ⟨kb, 4, none⟩) hkk).trans HCK.out.b1
     have g2 : wr.cell? ⟨kb, 5, none⟩ = some (.int .u32 1114675946) := (World.cell?_of_block (a := ⟨kb, 5, none⟩) hkk).trans HCK.out.b2
     have HOL : Aside0 (ob < wr.heap.size) := ⟨(Array.getElem?_eq_some_iff.1 HK.out).1⟩
     have HAL : Aside0 (Below wr.heap.size wr (wr.alloc (.cells #[.string nmA, .int .i64 1, .slice q1 16 e1, .int .u32 1114675946] 86)).drew) := ⟨Below.drew (zC_ (Below.refl _ _) _)⟩
     clear hkk
     go_upto_region 18 with (fail)
     refine start_ (n := 19) (S := fun w' => w'.cell? ⟨ob, 7, none⟩ = some (.slice none 0 0) ∧ w'.cell? ⟨b4, 0, none⟩ = some (.string nmA) ∧ w'.cell? ⟨kb, 3, none⟩ = some (.int .i64 1) ∧ w'.cell? ⟨kb, 4, none⟩ = some (.slice q1 16 e1) ∧ w'.cell? ⟨kb, 5, none⟩ = some (.int .u32 1114675946)) (ds := [15, 18]) (upU 19 0) (by kernel_rfl) rfl rfl ⟨o2, n0, g0, g1, g2⟩ (fun hHeld => ?_); refine with_tabW mk18T_tab mk18B_bits (fun HT_ HW_ => ?_)
     iterate 6
      refine pureO 92 (v := ?_) (a' := ?_) HT_ rfl rfl (by kernel_rfl) (fun _ _ _ h => h) (Or.inl ⟨by rfl, ?_⟩) ?_ ?_
      rotate_left
      ·intro w'
       go_simp
       first | done | with_reducible rfl
      rotate_left
      ·simp only [Act.put, Nat.reduceAdd, qA_, qB_, qC_, i64_w, i32_w]
       rfl
     refine take_ (i := 6) (N := some 98) (v := ?_) (a' := ?_) (upU 19 7) rfl rfl (take_ofW HT_.out HW_.out (by kernel_rfl)) (fun _ _ _ h => h) (Or.inl ⟨by rfl, ?_⟩) hHeld ?_ ?_
     rotate_left
     ·intro w' hS_
      obtain ⟨s0, s1, s2, s3, s4⟩ := hS_
      go_simp
      first | done | with_reducible rfl
     rotate_left
     ·simp only [Act.put, qA_, qB_, qC_, i64_w, i32_w]
      rfl
     iterate 1
      refine pureO 92 (v := ?_) (a' := ?_) HT_ rfl rfl (by kernel_rfl) (fun _ _ _ h => h) (Or.inl ⟨by rfl, ?_⟩) ?_ ?_
      rotate_left
      ·intro w'
       go_simp
       first | done | with_reducible rfl
      rotate_left
      ·simp only [Act.put, Nat.reduceAdd, qA_, qB_, qC_, i64_w, i32_w]
       rfl
     refine take_ (i := 8) (N := some 100) (v := ?_) (a' := ?_) (upU 19 9) rfl rfl (take_ofW HT_.out HW_.out (by kernel_rfl)) (fun _ _ _ h => h) (Or.inl ⟨by rfl, ?_⟩) hHeld ?_ ?_
     rotate_left
     ·intro w' hS_
      obtain ⟨s0, s1, s2, s3, s4⟩ := hS_
      go_simp
      first | done | with_reducible rfl
     rotate_left
     ·simp only [Act.put, qA_, qB_, qC_, i64_w, i32_w]
      rfl
     iterate 3
      refine pureO 92 (v := ?_) (a' := ?_) HT_ rfl rfl (by kernel_rfl) (fun _ _ _ h => h) (Or.inl ⟨by rfl, ?_⟩) ?_ ?_
      rotate_left
      ·intro w'
       go_simp
       first | done | with_reducible rfl
      rotate_left
      ·simp only [Act.put, Nat.reduceAdd, qA_, qB_, qC_, i64_w, i32_w]
       rfl
     refine take_ (i := 12) (N := some 104) (v := ?_) (a' := ?_) (upU 19 13) rfl rfl (take_ofW HT_.out HW_.out (by kernel_rfl)) (fun _ _ _ h => h) (Or.inl ⟨by rfl, ?_⟩) hHeld ?_ ?_
     rotate_left
     ·intro w' hS_
      obtain ⟨s0, s1, s2, s3, s4⟩ := hS_
      go_simp
      first | done | with_reducible rfl
     rotate_left
     ·simp only [Act.put, qA_, qB_, qC_, i64_w, i32_w]
      rfl
     iterate 1
      refine pureO 92 (v := ?_) (a' := ?_) HT_ rfl rfl (by kernel_rfl) (fun _ _ _ h => h) (Or.inl ⟨by rfl, ?_⟩) ?_ ?_
      rotate_left
      ·intro w'
       go_simp
       first | done | with_reducible rfl
      rotate_left
      ·simp only [Act.put, Nat.reduceAdd, qA_, qB_, qC_, i64_w, i32_w]
       rfl
     refine one_ (i := 14) (N := some 106) (upU 19 15) rfl rfl (one_of HT_.out (by kernel_rfl)) (by decide) (fun K hK => ?_)
     refine value_ (w1 := ?_) (v := ?_) (by rfl) rfl ?_ ?_
     rotate_left 2
     ·go_simp
      first | done | (constructor <;> rfl)
     refine hK.out _ _ ⟨zD_ HAL.out o2, zD_ HAL.out n0, zD_ HAL.out g0, zD_ HAL.out g1, zD_ HAL.out g2⟩ (fun hHeld => ?_)
     clear hK K
     refine norm_ (a' := ?_) ?_ ?_
     rotate_left
     ·show Act.put _ (some 106) _ = _
      simp only [Act.put, qA_, qB_, qC_, i64_w, i32_w]
      rfl
     refine last_ (i := 15) (N := some 107) (upU 19 16) rfl rfl (one_of HT_.out (by kernel_rfl)) (by decide) (fun K hK => ?_)
     refine Kd.R_append_rows_step (Kd.raw 4) (Rr := fun (q : List Value) cs => q = [.string nmA, .int .i64 1, .slice q1 16 e1, .int .u32 1114675946] ∧ cs = [.string nmA, .int .i64 1, .slice q1 16 e1, .int .u32 1114675946]) (w0 := wr) wr.heap.size (by rfl) (.tmp 98) (.tmp 106) 80 86 (.agg #[.string ⟨#[]⟩, .int .i64 0, .slice none 0 0, .int .u32 0]) 56 rfl Tryd.underlying80 info86 rfl (by decide) (by decide) (.slice none 0 0) [] [[.string nmA, .int .i64 1, .slice q1 16 e1, .int .u32 1114675946]] _ 1 1 (fun _ => True) (fun _ => True) rfl rfl (Kd.R_nil _ _ _ _ _) (row4 (heap_top wr _)) (fun x cs h => by obtain ⟨rfl, rfl⟩ := h; exact ⟨rfl, rfl, by intro u hu; simp at hu; rcases hu with rfl | rfl | rfl | rfl <;> rfl⟩) (fun k _ => ⟨trivial, by intro h; cases h⟩) (fun _ _ => trivial) HAL.out HAL.out.size (by decide) ?_
     intro v1 w6 ho hb2 hgr hat
     obtain ⟨i1, c1, hv1, hge, m0, m1, m2, m3⟩ := item_row ho
     subst hv1
     clear ho hgr hat
     have p2 := zD_ hb2 o2
     have pf : w6.frozen? ⟨ob, 7, none⟩ = false := (hb2.frozen (p := ⟨ob, 7, none⟩) HOL.out).trans (blk_fz HK.out)
     refine hK.out _ _ ?_
     clear hK K
     refine norm_ (a' := ?_) ?_ ?_
     rotate_left
     ·show Act.put _ (some 107) _ = _
      simp only [Act.put, qA_, qB_, qC_, i64_w, i32_w]
      rfl
     iterate 2
      refine pureO 92 (v := ?_) (a' := ?_) HT_ rfl rfl (by kernel_rfl) (fun _ _ _ h => h) (Or.inl ⟨by rfl, ?_⟩) ?_ ?_
      rotate_left
      ·intro w'
       go_simp
       first | done | with_reducible rfl
      rotate_left
      ·simp only [Act.put, Nat.reduceAdd, qA_, qB_, qC_, i64_w, i32_w]
       rfl
     refine last_ (i := 18) (N := none) (upU 19 19) rfl rfl (one_of HT_.out (by kernel_rfl)) (by decide) (fun K hK => ?_)
     refine skip_ (w1 := ?_) (by rfl) rfl ?_ ?_
     rotate_left
     ·go_simp
      first | done | rfl
     refine hK.out _ _ ?_
     clear hK K
     refine done_ (done_of HT_.out (by kernel_rfl)) ?_
     have HKF : Aside0 ((w6.setCell ⟨ob, 7, none⟩ (.slice (some ⟨i1, 0, none⟩) 1 c1)).heap[ob]? = some (.cells #[.int .i64 0, .int .i64 3, .slice (some ⟨i0, 0, none⟩) 1 c0, .slice none 0 0, .slice none 0 0, .int .i64 1, .int .i64 3, .slice (some ⟨i1, 0, none⟩) 1 c1, .slice none 0 0, .slice none 0 0, .int .i64 2, .int .i64 3, .slice none 0 0, .slice none 0 0, .slice none 0 0] 83 (0, 0))) := ⟨blk_set ((hb2.block ob HOL.out).trans HK.out) _ _⟩
     have HPF : Aside0 (Keep w5 (w6.setCell ⟨ob, 7, none⟩ (.slice (some ⟨i1, 0, none⟩) 1 c1)) ob) := ⟨by rw [World.size_setCell]; exact Nat.le_trans HP.out.1 hb2.size, fun k h1 h2 => (Below.heap_setCell _ _ _ _ h2).trans ((hb2.block k (Nat.lt_of_lt_of_le h1 HP.out.1)).trans (HP.out.2 k h1 h2))⟩
     have HWF : Aside0 (Below W.heap.size W (w6.setCell ⟨ob, 7, none⟩ (.slice (some ⟨i1, 0, none⟩) 1 c1))) := ⟨(zE_ HBW.out hb2).setCell HOB.out _⟩
     have HJ0 := Aside0.mk ((HI0.out.kept hb2).set 7 (.slice (some ⟨i1, 0, none⟩) 1 c1))
     have HJ1 : Aside0 (Ic (w6.setCell ⟨ob, 7, none⟩ (.slice (some ⟨i1, 0, none⟩) 1 c1)) ob i1 q1 e1 1114675946) := ⟨Ic.set ⟨m0, m1, m2, m3, by have := HOL.out; omega⟩ _ _⟩
     go_wp2_with fail
     go_roundg 1
     case measure => omega
     case rel => exact ⟨HPF, HWF, Or.inr (Or.inr (Or.inl ⟨by go_num, by omega, i0, c0, i1, c1, HKF, HJ0, HJ1⟩))⟩
    ·have o2 : wr.cell? ⟨ob, 12, none⟩ = some (.slice none 0 0) := blk_get HK.out rfl
     have n0 : wr.cell? ⟨b4, 0, none⟩ = some (.string nmA) := (World.cell?_of_block (a := ⟨b4, 0, none⟩) (HP.out.2 b4 HB4.out.1 HB4.out.2)).trans hd0
     have hkk := HP.out.2 kb HKB.out.1 HKB.out.2
     have g0 : wr.cell? ⟨kb, 6, none⟩ = some (.int .i64 1) := (World.cell?_of_block (a := ⟨kb, 6, none⟩) hkk).trans HCK.out.c0
     have g1 : wr.cell? ⟨kb, 7, none⟩ = some (.slice q2 16 e2) := (World.cell?_of_block (a := ⟨kb, 7, none⟩) hkk).trans HCK.out.c1
     have g2 : wr.cell? ⟨kb, 8, none⟩ = some (.int .u32 2542556914) := (World.cell?_of_block (a := ⟨kb, 8, none⟩) hkk).trans HCK.out.c2
     have HOL : Aside0 (ob < wr.heap.size) := ⟨(Array.getElem?_eq_some_iff.1 HK.out).1⟩
     have HAL : Aside0 (Below wr.heap.size wr (wr.alloc (.cells #[.string nmA, .int .i64 1, .slice q2 16 e2, .int .u32 2542556914] 86)).drew) := ⟨Below.drew (zC_ (Below.refl _ _) _)⟩
     clear hkk
     go_upto_region 18 with (fail)
     refine start_ (n := 19) (S := fun w' => w'.cell? ⟨ob, 12, none⟩ = some (.slice none 0 0) ∧ w'.cell? ⟨b4, 0, none⟩ = some (.string nmA) ∧ w'.cell? ⟨kb, 6, none⟩ = some (.int .i64 1) ∧ w'.cell? ⟨kb, 7, none⟩ = some (.slice q2 16 e2) ∧ w'.cell? ⟨kb, 8, none⟩ = some (.int .u32 2542556914)) (ds := [15, 18]) (upU 19 0) (by kernel_rfl) rfl rfl ⟨o2, n0, g0, g1, g2⟩ (fun hHeld => ?_); refine with_tabW mk18T_tab mk18B_bits (fun HT_ HW_ => ?_)
     iterate 6
      refine pureO 92 (v := ?_) (a' := ?_) HT_ rfl rfl (by kernel_rfl) (fun _ _ _ h => h) (Or.inl ⟨by rfl, ?_⟩) ?_ ?_
      rotate_left
      ·intro w'
       go_simp
       first | done | with_reducible rfl
      rotate_left
      ·simp only [Act.put, Nat.reduceAdd, qA_, qB_, qC_, i64_w, i32_w]
       rfl
     refine take_ (i := 6) (N := some 98) (v := ?_) (a' := ?_) (upU 19 7) rfl rfl (take_ofW HT_.out HW_.out (by kernel_rfl)) (fun _ _ _ h => h) (Or.inl ⟨by rfl, ?_⟩) hHeld ?_ ?_
     rotate_left
     ·intro w' hS_
      obtain ⟨s0, s1, s2, s3, s4⟩ := hS_
      go_simp
      first | done | with_reducible rfl
     rotate_left
     ·simp only [Act.put, qA_, qB_, qC_, i64_w, i32_w]
      rfl
     iterate 1
      refine pureO 92 (v := ?_) (a' := ?_) HT_ rfl rfl (by kernel_rfl) (fun _ _ _ h => h) (Or.inl ⟨by rfl, ?_⟩) ?_ ?_
      rotate_left
      ·intro w'
       go_simp
       first | done | with_reducible rfl
      rotate_left
      ·simp only [Act.put, Nat.reduceAdd, qA_, qB_, qC_, i64_w, i32_w]
       rfl
     refine take_ (i := 8) (N := some 100) (v := ?_) (a' := ?_) (upU 19 9) rfl rfl (take_ofW HT_.out HW_.out (by kernel_rfl)) (fun _ _ _ h => h) (Or.inl ⟨by rfl, ?_⟩) hHeld ?_ ?_
     rotate_left
     ·intro w' hS_
      obtain ⟨s0, s1, s2, s3, s4⟩ := hS_
      go_simp
      first | done | with_reducible rfl
     rotate_left
     ·simp only [Act.put, qA_, qB_, qC_, i64_w, i32_w]
      rfl
     iterate 3
      refine pureO 92 (v := ?_) (a' := ?_) HT_ rfl rfl (by kernel_rfl) (fun _ _ _ h => h) (Or.inl ⟨by rfl, ?_⟩) ?_ ?_
      rotate_left
      ·intro w'
       go_simp
       first | done | with_reducible rfl
      rotate_left
      ·simp only [Act.put, Nat.reduceAdd, qA_, qB_, qC_, i64_w, i32_w]
       rfl
     refine take_ (i := 12) (N := some 104) (v := ?_) (a' := ?_) (upU 19 13) rfl rfl (take_ofW HT_.out HW_.out (by kernel_rfl)) (fun _ _ _ h => h) (Or.inl ⟨by rfl, ?_⟩) hHeld ?_ ?_
     rotate_left
     ·intro w' hS_
      obtain ⟨s0, s1, s2, s3, s4⟩ := hS_
      go_simp
      first | done | with_reducible rfl
     rotate_left
     ·simp only [Act.put, qA_, qB_, qC_, i64_w, i32_w]
      rfl
     iterate 1
      refine pureO 92 (v := ?_) (a' := ?_) HT_ rfl rfl (by kernel_rfl) (fun _ _ _ h => h) (Or.inl ⟨by rfl, ?_⟩) ?_ ?_
      rotate_left
      ·intro w'
       go_simp
       first | done | with_reducible rfl
      rotate_left
      ·simp only [Act.put, Nat.reduceAdd, qA_, qB_, qC_, i64_w, i32_w]
       rfl
     refine one_ (i := 14) (N := some 106) (upU 19 15) rfl rfl (one_of HT_.out (by kernel_rfl)) (by decide) (fun K hK => ?_)
     refine value_ (w1 := ?_) (v := ?_) (by rfl) rfl ?_ ?_
     rotate_left 2
     ·go_simp
      first | done | (constructor <;> rfl)
     refine hK.out _ _ ⟨zD_ HAL.out o2, zD_ HAL.out n0, zD_ HAL.out g0, zD_ HAL.out g1, zD_ HAL.out g2⟩ (fun hHeld => ?_)
     clear hK K
     refine norm_ (a' := ?_) ?_ ?_
     rotate_left
     ·show Act.put _ (some 106) _ = _
      simp only [Act.put, qA_, qB_, qC_, i64_w, i32_w]
      rfl
     refine last_ (i := 15) (N := some 107) (upU 19 16) rfl rfl (one_of HT_.out (by kernel_rfl)) (by decide) (fun K hK => ?_)
     refine Kd.R_append_rows_step (Kd.raw 4) (Rr := fun (q : List Value) cs => q = [.string nmA, .int .i64 1, .slice q2 16 e2, .int .u32 2542556914] ∧ cs = [.string nmA, .int .i64 1, .slice q2 16 e2, .int .u32 2542556914]) (w0 := wr) wr.heap.size (by rfl) (.tmp 98) (.tmp 106) 80 86 (.agg #[.string ⟨#[]⟩, .int .i64 0, .slice none 0 0, .int .u32 0]) 56 rfl Tryd.underlying80 info86 rfl (by decide) (by decide) (.slice none 0 0) [] [[.string nmA, .int .i64 1, .slice q2 16 e2, .int .u32 2542556914]] _ 1 1 (fun _ => True) (fun _ => True) rfl rfl (Kd.R_nil _ _ _ _ _) (row4 (heap_top wr _)) (fun x cs h => by obtain ⟨rfl, rfl⟩ := h; exact ⟨rfl, rfl, by intro u hu; simp at hu; rcases hu with rfl | rfl | rfl | rfl <;> rfl⟩) (fun k _ => ⟨trivial, by intro h; cases h⟩) (fun _ _ => trivial) HAL.out HAL.out.size (by decide) ?_
     intro v1 w6 ho hb2 hgr hat
     obtain ⟨i2, c2, hv1, hge, m0, m1, m2, m3⟩ := item_row ho
     subst hv1
     clear ho hgr hat
     have p2 := zD_ hb2 o2
     have pf : w6.frozen? ⟨ob, 12, none⟩ = false := (hb2.frozen (p := ⟨ob, 12, none⟩) HOL.out).trans (blk_fz HK.out)
     refine hK.out _ _ ?_
     clear hK K
     refine norm_ (a' := ?_) ?_ ?_
     rotate_left
     ·show Act.put _ (some 107) _ = _
      simp only [Act.put, qA_, qB_, qC_, i64_w, i32_w]
      rfl
     iterate 2
      refine pureO 92 (v := ?_) (a' := ?_) HT_ rfl rfl (by kernel_rfl) (fun _ _ _ h => h) (Or.inl ⟨by rfl, ?_⟩) ?_ ?_
      rotate_left
      ·intro w'
       go_simp
       first | done | with_reducible rfl
      rotate_left
      ·simp only [Act.put, Nat.reduceAdd, qA_, qB_, qC_, i64_w, i32_w]
       rfl
     refine last_ (i := 18) (N := none) (upU 19 19) rfl rfl (one_of HT_.out (by kernel_rfl)) (by decide) (fun K hK => ?_)
     refine skip_ (w1 := ?_) (by rfl) rfl ?_ ?_
     rotate_left
     ·go_simp
      first | done | rfl
     refine hK.out _ _ ?_
     clear hK K
     refine done_ (done_of HT_.out (by kernel_rfl)) ?_
     have HKF : Aside0 ((w6.setCell ⟨ob, 12, none⟩ (.slice (some ⟨i2, 0, none⟩) 1 c2)).heap[ob]? = some (.cells #[.int .i64 0, .int .i64 3, .slice (some ⟨i0, 0, none⟩) 1 c0, .slice none 0 0, .slice none 0 0, .int .i64 1, .int .i64 3, .slice (some ⟨i1, 0, none⟩) 1 c1, .slice none 0 0, .slice none 0 0, .int .i64 2, .int .i64 3, .slice (some ⟨i2, 0, none⟩) 1 c2, .slice none 0 0, .slice none 0 0] 83 (0, 0))) := ⟨blk_set ((hb2.block ob HOL.out).trans HK.out) _ _⟩
     have HPF : Aside0 (Keep w5 (w6.setCell ⟨ob, 12, none⟩ (.slice (some ⟨i2, 0, none⟩) 1 c2)) ob) := ⟨by rw [World.size_setCell]; exact Nat.le_trans HP.out.1 hb2.size, fun k h1 h2 => (Below.heap_setCell _ _ _ _ h2).trans ((hb2.block k (Nat.lt_of_lt_of_le h1 HP.out.1)).trans (HP.out.2 k h1 h2))⟩
     have HWF : Aside0 (Below W.heap.size W (w6.setCell ⟨ob, 12, none⟩ (.slice (some ⟨i2, 0, none⟩) 1 c2))) := ⟨(zE_ HBW.out hb2).setCell HOB.out _⟩
     have HJ0 := Aside0.mk ((HI0.out.kept hb2).set 12 (.slice (some ⟨i2, 0, none⟩) 1 c2))
     have HJ1 := Aside0.mk ((HI1.out.kept hb2).set 12 (.slice (some ⟨i2, 0, none⟩) 1 c2))
     have HJ2 : Aside0 (Ic (w6.setCell ⟨ob, 12, none⟩ (.slice (some ⟨i2, 0, none⟩) 1 c2)) ob i2 q2 e2 2542556914) := ⟨Ic.set ⟨m0, m1, m2, m3, by have := HOL.out; omega⟩ _ _⟩
     go_wp2_with fail
     go_roundg 0
     case measure => omega
     case rel => exact ⟨HPF, HWF, Or.inr (Or.inr (Or.inr ⟨by go_num, i0, c0, i1, c1, i2, c2, HKF, HJ0, HJ1, HJ2⟩))⟩
    ·have hKF := chunks_kept HF.out HCK.out HKG.out HKB.out.1 (fun k h1 h2 => HP.out.2 k h2 (by have := HOS.out; omega))
     go_wp2_with fail
     go_roundg 0
     case measure => omega
     case rel => exact ⟨HBW, Or.inr ⟨by go_num, i0, c0, q0, e0, i1, c1, q1, e1, i2, c2, q2, e2, ⟨⟨blk_get HK.out rfl, blk_get HK.out rfl, blk_get HK.out rfl, blk_get HK.out rfl, blk_get HK.out rfl, ⟨HI0.out.c0, HI0.out.c1, HI0.out.c2, HI0.out.c3, hKF.1, rfl, HCK.out.la⟩⟩⟩, ⟨⟨blk_get HK.out rfl, blk_get HK.out rfl, blk_get HK.out rfl, blk_get HK.out rfl, blk_get HK.out rfl, ⟨HI1.out.c0, HI1.out.c1, HI1.out.c2, HI1.out.c3, hKF.2.1, rfl, HCK.out.lb⟩⟩⟩, ⟨⟨blk_get HK.out rfl, blk_get HK.out rfl, blk_get HK.out rfl, blk_get HK.out rfl, blk_get HK.out rfl, ⟨HI2.out.c0, HI2.out.c1, HI2.out.c2, HI2.out.c3, hKF.2.2, rfl, HCK.out.lc⟩⟩⟩⟩⟩
   ·have z0 : wr.cell? ⟨ob, 0, none⟩ = some (.int .i64 0) := HS0.out.t0
    have z1 : wr.cell? ⟨ob, 1, none⟩ = some (.int .i64 3) := HS0.out.t1
    have z2 : wr.cell? ⟨ob, 2, none⟩ = some (.slice (some ⟨i0, 0, none⟩) 1 c0) := HS0.out.t2
    have z3 : wr.cell? ⟨ob, 3, none⟩ = some (.slice none 0 0) := HS0.out.t3
    have z4 : wr.cell? ⟨ob, 4, none⟩ = some (.slice none 0 0) := HS0.out.t4
    have HCS : Aside0 (Calls Tryd.prog 45 #[.agg #[.int .i64 0, .int .i64 3, .slice (some ⟨i0, 0, none⟩) 1 c0, .slice none 0 0, .slice none 0 0]] wr fun e w' => e = .returned (.int .i64 0) ∧ Below wr.heap.size wr w') := ⟨CheckShard_one wr 0 i0 c0 q0 e0 DA 2542556914 (by decide) HS0.out.it⟩
    go_wp2_with (first | (go_at_call 45; refine HCS.out.mono ?_; rintro e w9 ⟨rfl, hb⟩; have HE1 := Aside0.mk (HS1.out.kept hb); have HE2 := Aside0.mk (HS2.out.kept hb); have HW9 := Aside0.mk (zE_ HW.out hb); clear hb))
    go_ret2
    exact ⟨ob, i1, c1, i2, c2, q1, q2, e1, e2, rfl, HE1.out, HE2.out, HW9.out⟩
set_option maxHeartbeats 4000000
set_option maxRecDepth 100000
def mooringlaw23_awake.f : Option Bool := some true
theorem seven_C (w : World) (xb : Nat) (h : w.heap[xb]? = some (.cells #[.int .u8 7] 5 (0, 0))) : Kd.C (Kd.int .u8) w (some ⟨xb, 0, none⟩) 1 [7] := by
  refine ⟨rfl, by decide, fun _ => ⟨_, rfl, fun j q hj => ?_⟩⟩
  match j, hj with
  | 0, hj =>
    cases hj
    refine ⟨[.int .u8 7], rfl, rfl, fun i u hu => ?_⟩
    rw [addr_add]
    refine blk_get h ?_
    match i, hu with
    | 0, hu => exact hu
theorem add0 (x : Addr) : x.add 0 = x := by
  unfold Addr.add
  split <;> simp_all
theorem awake_true (W : World) : Calls Tryd.prog 17 #[] W fun e w' => e = .returned (.bool true) ∧ Below W.heap.size W w' := by
  have r := rows2 W (.cells #[.int .u8 7] 5) (.cells #[.string nmA, .slice (some ⟨W.heap.size, 0, none⟩) 1 1] 72)
  have HM := Aside0.mk (make_one ((W.alloc (.cells #[.int .u8 7] 5)).alloc (.cells #[.string nmA, .slice (some ⟨W.heap.size, 0, none⟩) 1 1] 72)) (W.heap.size + 1) W.heap.size (blk_get r.2.1 rfl) (blk_get r.2.1 rfl) (seven_C _ _ r.1))
  have HB0 := Aside0.mk r.2.2
  clear r
  go_enter Tryd.func17, Tryd.ntmps17
  go_wp2_with (first | (go_at_call 22; refine HM.out.mono ?_; rintro e w1 ⟨ob, i1, c1, i2, c2, q1, q2, e1, e2, rfl, h1, h2, hb⟩; have HB1 := Aside0.mk (zE_ HB0.out hb); have HR := Aside0.mk (read_two w1 ob i1 c1 i2 c2 q1 q2 e1 e2 h1 h2); clear hb h1 h2) | (go_at_call 26; refine HR.out.mono ?_; rintro e w2 ⟨rb, rc, xb, xc, rfl, r1, r2, hb⟩; have HB2 := Aside0.mk (zE_ HB1.out hb); have r3 : w2.cell? (xb.add 0) = some (.int .u8 7) := (congrArg w2.cell? (add0 xb)).trans r2; clear hb))
  go_ret
  exact ⟨rfl, HB2.out⟩
theorem mooringlaw23_awake.calls (r : Bool) (w : World) (h : mooringlaw23_awake.f = some r) : Calls Tryd.prog 17 #[] w fun e w' => e = .returned (.bool r) ∧ Below w.heap.size w w' := by
  obtain rfl : true = r := Option.some.inj h
  exact awake_true w
end Go.Proofs.YtnfgiamdmfkcjaaDoor.H
