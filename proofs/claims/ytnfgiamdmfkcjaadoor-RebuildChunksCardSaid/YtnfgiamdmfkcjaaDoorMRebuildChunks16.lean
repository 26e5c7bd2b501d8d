/- Words and walks that the claim RebuildChunks leans on (what it does not use is left out). -/
import Derived.Test.YtnfgiamdmfkcjaaDoorMRebuildChunks1
import Derived.Test.YtnfgiamdmfkcjaaDoorMRebuildChunks15
import Derived.Deep.RegionHeld3
import Derived.Deep.RegionWith
import Derived.Deep.DeepCutAuto
import Derived.WideMake
set_option linter.unusedSimpArgs false
set_option linter.unusedVariables false
namespace Go.Proofs.YtnfgiamdmfkcjaaDoor.H
open Go.RowKit Go.Proofs.YtnfgiamdmfkcjaaDoorW.PrintWords Go.Proofs.YtnfgiamdmfkcjaaDoorW.PrintLast Go.Proofs.YtnfgiamdmfkcjaaDoor.Leaf Go.Proofs.YtnfgiamdmfkcjaaDoor.P
set_option maxHeartbeats 4000000
set_option maxRecDepth 100000
abbrev nmA : ByteArray := ⟨#[97]⟩
theorem nx0 (W : World) (ty : TypeId) : (Instr.next (.pointer (some ⟨W.heap.size, 0, none⟩)) true ty).run Tryd.prog (W.iter nmA 0) = .ok (.tuple #[.bool true, .int .i64 0, .int .i32 97]) (W.iter nmA 1) := run_next_ascii W nmA 0 ty (by decide) (by decide)
theorem nx1 (W : World) (ty : TypeId) : (Instr.next (.pointer (some ⟨W.heap.size, 0, none⟩)) true ty).run Tryd.prog (W.iter nmA 1) = .ok (.tuple #[.bool false]) (W.iter nmA 1) := run_next_end W nmA 1 ty (by decide)
theorem name_good (W : World) : Calls Tryd.prog 95 #[.string nmA] W fun e w' => e = .returned (.bool true) ∧ Below W.heap.size W w' := by
  have h0 := nx0 W
  have h1 := nx1 W
  go_enter Tryd.func95, Tryd.ntmps95
  go_wp2_with fail
  go_loopg [3, 4] 3 (fun gg s3 s4 wr => (wr = W.iter nmA 0 ∧ 1 ≤ gg) ∨ wr = W.iter nmA 1)
  case atStart => exact Or.inl ⟨rfl, by omega⟩
  case round =>
    rcases hrel with ⟨rfl, hg⟩ | rfl
    · go_wp2_with fail
      go_roundg 0
      case measure => omega
      case rel => exact Or.inr rfl
    · go_wp2_with fail
      go_ret
      exact ⟨rfl, zC_ (Below.refl _ _) _⟩
theorem name_Count (W : World) : Calls Tryd.prog 73 #[.string nmA] W fun e w' => e = .returned (.tuple #[.int .i64 1, .bool true]) ∧ Below W.heap.size W w' := by
  have HG := Aside0.mk (name_good W)
  go_enter Tryd.func73, Tryd.ntmps73
  go_wp2_with (first | (go_at_call 95; refine HG.out.mono ?_; rintro e w1 ⟨rfl, hb⟩; have HB := Aside0.mk hb; clear hb; have h0 := nx0 w1; have h1 := nx1 w1))
  go_loopg [4] 3 (fun gg s4 wr => (wr = w1.iter nmA 0 ∧ s4 = .int .i64 0 ∧ 1 ≤ gg) ∨ (wr = w1.iter nmA 1 ∧ s4 = .int .i64 1))
  case atStart => exact Or.inl ⟨rfl, rfl, by omega⟩
  case round =>
    rcases hrel with ⟨rfl, rfl, hg⟩ | ⟨rfl, rfl⟩
    · go_wp2_with fail
      go_roundg 0
      case measure => omega
      case rel => exact Or.inr ⟨rfl, by go_num⟩
    · go_wp2_with fail
      go_ret2
      exact ⟨rfl, zC_ HB.out _⟩
theorem name_Check (W : World) : Calls Tryd.prog 44 #[.string nmA] W fun e w' => e = .returned (.int .i64 0) ∧ Below W.heap.size W w' := by
  have HG := Aside0.mk (name_Count W)
  go_enter Tryd.func44, Tryd.ntmps44
  go_wp2_with (first | (go_at_call 73; refine HG.out.mono ?_; rintro e w1 ⟨rfl, hb⟩; have HB := Aside0.mk hb; clear hb; have h0 := nx0 w1; have h1 := nx1 w1))
  go_loopg [6] 3 (fun gg s6 wr => (wr = w1.iter nmA 0 ∧ 1 ≤ gg) ∨ (wr = w1.iter nmA 1))
  case atStart => exact Or.inl ⟨rfl, by omega⟩
  case round =>
    rcases hrel with ⟨rfl, hg⟩ | rfl
    · go_wp2_with fail
      go_roundg 0
      case measure => omega
      case rel => exact Or.inr rfl
    · go_wp2_with fail
      go_ret
      exact ⟨rfl, zC_ HB.out _⟩
theorem Clone_nil (W : World) : Calls Tryd.prog 43 #[.slice none 0 0] W fun e w' => e = .returned (.slice none 0 0) ∧ w' = W := by
  have he : ∀ W : World, (binOp BinOp.eql 48 (.slice none 0 0) (.slice none 0 0)).run Tryd.prog W = .ok (.bool true) W := fun W => by kernel_rfl
  go_enter Tryd.func43, Tryd.ntmps43
  go_wp2_with fail
  go_ret
  exact ⟨rfl, rfl⟩
set_option maxHeartbeats 4000000
set_option maxRecDepth 100000
theorem heap_top (W : World) (o : Obj) : (W.alloc o).heap[W.heap.size]? = some o := by
 show (W.heap.push o)[W.heap.size]? = _
 exact Array.getElem?_push_size
theorem cell_top (W : World) (cells : Array Value) (t k : Nat) : (W.alloc (.cells cells t (0, 0))).cell? ⟨W.heap.size, k, none⟩ = cells[k]? := by
 unfold World.cell?
 rw [show (⟨W.heap.size, k, none⟩ : Addr).block = W.heap.size from rfl, heap_top]
 rfl
/-- An item: named a, of one byte; its chunk's bytes are l. -/
structure It (w : World) (ib : Nat) (qa : Option Addr) (qc : Nat) (l : List Int) (s : Int) : Prop where
 c0 : w.cell? ⟨ib, 0, none⟩ = some (.string nmA)
 c1 : w.cell? ⟨ib, 1, none⟩ = some (.int .i64 1)
 c2 : w.cell? ⟨ib, 2, none⟩ = some (.slice qa 16 qc)
 c3 : w.cell? ⟨ib, 3, none⟩ = some (.int .u32 s)
 C : Kd.C (Kd.int .u8) w qa 16 l
 ln : l.length = 16
 le : 16 ≤ qc
theorem It.kept {w w' : World} {ib : Nat} {qa : Option Addr} {qc : Nat} {l : List Int} {s : Int} (h : It w ib qa qc l s) (hb : Below w.heap.size w w') : It w' ib qa qc l s :=
 ⟨zD_ hb h.c0, zD_ hb h.c1, zD_ hb h.c2, zD_ hb h.c3, Kd.C_below h.C hb, h.ln, h.le⟩
theorem undos_none (W : World) (p ib ic : Nat) : Calls Tryd.prog 77 #[.agg #[.int .i64 (p : Int), .int .i64 3, .slice (some ⟨ib, 0, none⟩) 1 ic, .slice none 0 0, .slice none 0 0]] W fun e w' => e = .returned (.bool true) ∧ Below W.heap.size W w' := by
 have t3 := cell_top W #[.int .i64 (p : Int), .int .i64 3, .slice (some ⟨ib, 0, none⟩) 1 ic, .slice none 0 0, .slice none 0 0] 83 3
 have t4 := cell_top W #[.int .i64 (p : Int), .int .i64 3, .slice (some ⟨ib, 0, none⟩) 1 ic, .slice none 0 0, .slice none 0 0] 83 4
 have hb := zC_ (Below.refl W.heap.size W) (.cells #[.int .i64 (p : Int), .int .i64 3, .slice (some ⟨ib, 0, none⟩) 1 ic, .slice none 0 0, .slice none 0 0] 83)
 go_enter Tryd.func77, Tryd.ntmps77
 go_wp2_with fail
 go_loopg [19] 1 (fun gg s19 wr => s19 = .int .i64 0 ∧ wr = W.alloc (.cells #[.int .i64 (p : Int), .int .i64 3, .slice (some ⟨ib, 0, none⟩) 1 ic, .slice none 0 0, .slice none 0 0] 83))
 case atStart => exact ⟨rfl, rfl⟩
 case round =>
  obtain ⟨rfl, rfl⟩ := hrel
  go_wp2_with fail
  go_ret
  exact ⟨rfl, hb⟩
theorem chunk_ok (W : World) (qa : Option Addr) (qc : Nat) (l : List Int) (s : Int) (h : Kd.C (Kd.int .u8) W qa 16 l) (hl : l.length = 16) (hc : 16 ≤ qc) : Calls Tryd.prog 75 #[.agg #[.int .i64 1, .slice qa 16 qc, .int .u32 s]] W fun e w' => e = .returned (.bool true) ∧ Below W.heap.size W w' := by
 have := shard_chunk.calls 1 qa qc l s true W (by rw [hl]; exact h) (by rw [hl]; exact hc) (by unfold shard_chunk.f; rw [hl]; rfl)
 rw [hl] at this
 exact this
/-- The first j of n. -/
def upU (n j : Nat) : Array Bool := ((List.range n).map fun i => decide (i < j)).toArray
theorem pureO {P : Program} {md : Region.Mode} {ops : Array Oper} {Q : Exit → Act → World → Prop} {S : World → Prop} {ds : List Nat} {T : Bool × List (List Nat × List Nat)} {n j fuel : Nat} (f : Nat) {oi : Oper} {v : Value} {a : Act} {w : World} (hT : Aside0 (rtab md ops = T)) (hi : ops[j]? = some oi) (hN : oi.dst = some (f + j)) (hc : anyT T (upU n j).toList (upU n (j + 1)).toList j = true)
 (hQ : ∀ c a w, Q (.panic c) (a.put oi.dst v) w → Q (.panic c) a w) (hy : Yields P ops oi v a) {a' : Act} (ha : a.put (some (f + j)) v = a') (h : wpAnyLast P md ops Q S ds fuel (upU n (j + 1)) a' w) : wpAnyLast P md ops Q S ds (fuel + 1) (upU n j) a w :=
 pure_ (upU n (j + 1)) hi hN (any_of hT.out hc) hQ hy ha h
def cs8T : Bool × List (List Nat × List Nat) := (true, [([], []), ([0], [0]), ([1], [1]), ([2], [2]), ([3, 2], [3]), ([4], [4]), ([5, 4], [4, 5]), ([6, 4, 4], [4, 6]), ([7, 4], [4, 7]), ([4, 8], [4, 8]), ([9, 7], [9]), ([10], [10]), ([11, 10], [10, 11]), ([12, 10, 10], [10, 12]), ([13], [13]), ([14, 13], [13, 14]), ([13], [13]), ([16, 13], [13, 16]), ([13], [13]), ([18, 13], [13, 18]), ([17, 19, 13], [13, 17, 19]), ([20, 13], [13, 20]), ([21, 13], [13, 21]), ([15, 22, 13], [13, 15, 22]), ([13, 23, 10], [10, 13, 23]), ([10, 24], [10, 24])])
def cs8B : List Nat := [0, 1, 3, 7, 15, 31, 63, 127, 255, 511, 1023, 2047, 4095, 8191, 16383, 32767, 16383, 81919, 16383, 278527, 999423, 2047999, 4145151, 8388607, 16777215, 33554431]
theorem cs8T_tab : rtab .any (opsOf Tryd.f45 8) = cs8T := by kernel_rfl
theorem cs8B_bits : waitsOk cs8T.2 cs8B = true := by kernel_rfl
structure Bx (w : World) (b p ib ic : Nat) : Prop where
 t0 : w.cell? ⟨b, 0, none⟩ = some (.int .i64 (p : Int))
 t1 : w.cell? ⟨b, 1, none⟩ = some (.int .i64 3)
 t2 : w.cell? ⟨b, 2, none⟩ = some (.slice (some ⟨ib, 0, none⟩) 1 ic)
 t3 : w.cell? ⟨b, 3, none⟩ = some (.slice none 0 0)
 t4 : w.cell? ⟨b, 4, none⟩ = some (.slice none 0 0)
theorem Bx.new (W : World) (p ib ic : Nat) : Bx (W.alloc (.cells #[.int .i64 (p : Int), .int .i64 3, .slice (some ⟨ib, 0, none⟩) 1 ic, .slice none 0 0, .slice none 0 0] 83)) W.heap.size p ib ic := ⟨cell_top _ _ _ 0, cell_top _ _ _ 1, cell_top _ _ _ 2, cell_top _ _ _ 3, cell_top _ _ _ 4⟩
theorem Bx.kept {w w' : World} {b p ib ic : Nat} (h : Bx w b p ib ic) (hb : Below w.heap.size w w') : Bx w' b p ib ic :=
 ⟨zD_ hb h.t0, zD_ hb h.t1, zD_ hb h.t2, zD_ hb h.t3, zD_ hb h.t4⟩
theorem CheckShard_one (W : World) (p ib ic : Nat) (qa : Option Addr) (qc : Nat) (l : List Int) (s : Int) (hp : p < 3) (hI : It W ib qa qc l s) : Calls Tryd.prog 45 #[.agg #[.int .i64 (p : Int), .int .i64 3, .slice (some ⟨ib, 0, none⟩) 1 ic, .slice none 0 0, .slice none 0 0]] W fun e w' => e = .returned (.int .i64 0) ∧ Below W.heap.size W w' := by
 have hw1 : ∀ w : World, Calls Tryd.prog 74 #[.int .i64 3, .int .i64 1, .int .i64 1048576] w fun e w' => e = .returned (.bool true) ∧ Drawn0 w w' := fun w => shard_within.calls 3 1 1048576 true w (by decide)
 have hw2 : ∀ w : World, Calls Tryd.prog 74 #[.int .i64 (p : Int), .int .i64 0, .int .i64 31] w fun e w' => e = .returned (.bool true) ∧ Drawn0 w w' := fun w => shard_within.calls p 0 31 true w (by unfold shard_within.f; rw [if_pos (by omega), decide_eq_true (by omega)])
 have HW := Aside0.mk (And.intro hw1 hw2)
 clear hw1 hw2
 go_enter Tryd.func45, Tryd.ntmps45
 go_wp2_with (first | (go_at_call_of 74 (Value.int IntKind.i64 1048576); refine (HW.out.1 _).mono ?_; rintro e w' ⟨rfl, ⟨nd, rfl⟩⟩) | (go_at_call_of 74 (Value.int IntKind.i64 31); refine (HW.out.2 _).mono ?_; rintro e w' ⟨rfl, ⟨nd2, rfl⟩⟩))
 go_loopg [42] 2 (fun gg s42 wr => ((s42 = .int .i64 0 ∧ 1 ≤ gg) ∨ s42 = .int .i64 1) ∧ Aside0 (Below W.heap.size W wr) ∧ Aside0 (Bx wr W.heap.size p ib ic))
 case atStart => exact ⟨Or.inl ⟨rfl, by omega⟩, ⟨by repeat (first | exact zC_ (Below.refl _ _) _ | apply zA_)⟩, ⟨(Bx.new W p ib ic).kept (by repeat (first | exact Below.refl _ _ | apply zA_))⟩⟩
 case round =>
  obtain ⟨h42, HB, HX⟩ := hrel
  have HI := Aside0.mk (hI.kept HB.out)
  have x0 := HX.out.t0
  have x1 := HX.out.t1
  have x2 := HX.out.t2
  have x3 := HX.out.t3
  have x4 := HX.out.t4
  rcases h42 with ⟨rfl, hg⟩ | rfl
  ·have c0 := HI.out.c0
   have c1 := HI.out.c1
   have c2 := HI.out.c2
   have c3 := HI.out.c3
   go_upto_region 8 with (fail)
   have HN : Aside0 (Below wr.heap.size wr (wr.alloc (.cells #[.string nmA, .int .i64 1, .slice qa 16 qc, .int .u32 s] 86))) := ⟨zC_ (Below.refl _ _) _⟩
   have HI2 : Aside0 (It (wr.alloc (.cells #[.string nmA, .int .i64 1, .slice qa 16 qc, .int .u32 s] 86)) wr.heap.size qa qc l s) := ⟨⟨cell_top _ _ _ 0, cell_top _ _ _ 1, cell_top _ _ _ 2, cell_top _ _ _ 3, Kd.C_below HI.out.C HN.out, HI.out.ln, HI.out.le⟩⟩
   have HX2 := Aside0.mk (HX.out.kept HN.out)
   have HB2 := Aside0.mk (zE_ HB.out HN.out)
   clear c0 c1 c2 c3 x0 x1 x2 x3 x4 HX HI HN
   generalize wr.alloc (.cells #[.string nmA, .int .i64 1, .slice qa 16 qc, .int .u32 s] 86) = w0 at *
   generalize wr.heap.size = b2 at *
   have d0 := HI2.out.c0
   have d1 := HI2.out.c1
   have d2 := HI2.out.c2
   have d3 := HI2.out.c3
   refine start_ (n := 26) (S := fun w' => True) (ds := []) (upU 26 0) (by kernel_rfl) rfl rfl trivial (fun hHeld => ?_); refine with_tabW cs8T_tab cs8B_bits (fun HT_ HW_ => ?_)
   iterate 1
    refine pureO 47 (v := ?_) (a' := ?_) HT_ rfl rfl (by kernel_rfl) (fun _ _ _ h => h) (Or.inl ⟨by rfl, ?_⟩) ?_ ?_
    rotate_left
    ·intro w'
     go_simp
     first | done | with_reducible rfl
    rotate_left
    ·simp only [Act.put, Nat.reduceAdd, qA_, qB_, qC_, i64_w, i32_w]
     rfl
   refine one_ (i := 1) (N := some 48) (upU 26 2) rfl rfl (one_of HT_.out (by kernel_rfl)) (by decide) (fun K hK => ?_)
   refine value_ (w1 := ?_) (v := ?_) (by rfl) rfl ?_ ?_
   rotate_left 2
   ·go_simp
    first | done | (constructor <;> rfl)
   refine hK.out _ _ hHeld (fun hHeld => ?_)
   clear hK K
   refine norm_ (a' := ?_) ?_ ?_
   rotate_left
   ·show Act.put _ (some 48) _ = _
    simp only [Act.put, qA_, qB_, qC_, i64_w, i32_w]
    rfl
   refine one_ (i := 2) (N := some 49) (upU 26 3) rfl rfl (one_of HT_.out (by kernel_rfl)) (by decide) (fun K hK => ?_)
   refine goes_ Tryd.func44 (by kernel_rfl) rfl #[.string nmA] (by rfl) rfl rfl (by (try simp only [List.map_toArray, List.map_cons, List.map_nil]); first | done | rfl) ?_
   refine (name_Check _).mono ?_
   rintro e w1 ⟨rfl, hb⟩
   refine ⟨_, rfl, ?_⟩
   have HB1 : Aside0 (Below w0.heap.size w0 w1) := ⟨zE_ (below_drew (Below.refl _ _)) hb⟩
   have e0 := zD_ hb d0
   have e1 := zD_ hb d1
   have e2 := zD_ hb d2
   have e3 := zD_ hb d3
   clear hb
   refine hK.out _ _ trivial (fun hHeld => ?_)
   clear hK K
   refine norm_ (a' := ?_) ?_ ?_
   rotate_left
   ·show Act.put _ (some 49) _ = _
    simp only [Act.put, qA_, qB_, qC_, i64_w, i32_w]
    rfl
   iterate 3
    refine pureO 47 (v := ?_) (a' := ?_) HT_ rfl rfl (by kernel_rfl) (fun _ _ _ h => h) (Or.inl ⟨by rfl, ?_⟩) ?_ ?_
    rotate_left
    ·intro w'
     go_simp
     first | done | with_reducible rfl
    rotate_left
    ·simp only [Act.put, Nat.reduceAdd, qA_, qB_, qC_, i64_w, i32_w]
     rfl
   refine one_ (i := 6) (N := some 53) (upU 26 7) rfl rfl (one_of HT_.out (by kernel_rfl)) (by decide) (fun K hK => ?_)
   refine value_ (w1 := ?_) (v := ?_) (by rfl) rfl ?_ ?_
   rotate_left 2
   ·go_simp
    first | done | (constructor <;> rfl)
   refine hK.out _ _ hHeld (fun hHeld => ?_)
   clear hK K
   refine norm_ (a' := ?_) ?_ ?_
   rotate_left
   ·show Act.put _ (some 53) _ = _
    simp only [Act.put, qA_, qB_, qC_, i64_w, i32_w]
    rfl
   refine one_ (i := 7) (N := some 54) (upU 26 8) rfl rfl (one_of HT_.out (by kernel_rfl)) (by decide) (fun K hK => ?_)
   refine goes_ Tryd.func75 (by kernel_rfl) rfl #[.agg #[.int .i64 1, .slice qa 16 qc, .int .u32 s]] (by rfl) rfl rfl (by (try simp only [List.map_toArray, List.map_cons, List.map_nil]); first | done | rfl) ?_
   refine (chunk_ok _ qa qc l s (HI2.out.kept HB1.out).C HI2.out.ln HI2.out.le).mono ?_
   rintro e w2 ⟨rfl, hb⟩
   refine ⟨_, rfl, ?_⟩
   have HB3 : Aside0 (Below w0.heap.size w0 w2) := ⟨zE_ HB1.out hb⟩
   clear hb
   refine hK.out _ _ trivial (fun hHeld => ?_)
   clear hK K
   refine norm_ (a' := ?_) ?_ ?_
   rotate_left
   ·show Act.put _ (some 54) _ = _
    simp only [Act.put, qA_, qB_, qC_, i64_w, i32_w]
    rfl
   iterate 6
    refine pureO 47 (v := ?_) (a' := ?_) HT_ rfl rfl (by kernel_rfl) (fun _ _ _ h => h) (Or.inl ⟨by rfl, ?_⟩) ?_ ?_
    rotate_left
    ·intro w'
     go_simp
     first | done | with_reducible rfl
    rotate_left
    ·simp only [Act.put, Nat.reduceAdd, qA_, qB_, qC_, i64_w, i32_w]
     rfl
   iterate 10
    refine pureO 47 (v := undef) (a' := ?_) HT_ rfl rfl (by kernel_rfl) (fun _ _ _ h => h) (Or.inr ⟨by rfl, rfl⟩) ?_ ?_
    rotate_left
    ·simp only [Act.put, Nat.reduceAdd, qA_, qB_, qC_, i64_w, i32_w]
     rfl
   iterate 2
    refine pureO 47 (v := ?_) (a' := ?_) HT_ rfl rfl (by kernel_rfl) (fun _ _ _ h => h) (Or.inl ⟨by rfl, ?_⟩) ?_ ?_
    rotate_left
    ·intro w'
     go_simp
     first | done | with_reducible rfl
    rotate_left
    ·simp only [Act.put, Nat.reduceAdd, qA_, qB_, qC_, i64_w, i32_w]
     rfl
   refine done_ (done_of HT_.out (by kernel_rfl)) ?_
   go_wp2_with fail
   go_roundg 0
   case measure => omega
   case rel => exact ⟨Or.inr (by go_num), ⟨zE_ HB2.out HB3.out⟩, ⟨HX2.out.kept HB3.out⟩⟩
  ·have HU : Aside0 (∀ w', Calls Tryd.prog 77 #[.agg #[.int .i64 (p : Int), .int .i64 3, .slice (some ⟨ib, 0, none⟩) 1 ic, .slice none 0 0, .slice none 0 0]] w' fun e w2 => e = .returned (.bool true) ∧ Below w'.heap.size w' w2) := ⟨fun w' => undos_none w' p ib ic⟩
   go_wp2_with fail
   go_loopg [77] 1 (fun gg s77 w2 => s77 = .int .i64 0 ∧ w2 = wr)
   case atStart => exact ⟨rfl, rfl⟩
   case round =>
    obtain ⟨rfl, rfl⟩ := hrel
    go_wp2_with (first | (go_at_call 77; refine (HU.out _).mono ?_; rintro e w3 ⟨rfl, hb⟩; have HB3 := Aside0.mk (zE_ HB.out hb); clear hb))
    go_ret
    exact ⟨rfl, HB3.out⟩
end Go.Proofs.YtnfgiamdmfkcjaaDoor.H
namespace Go.Proofs.YtnfgiamdmfkcjaaDoor.H
open Go.RowKit
theorem mk138 (w : World) : (Instr.makeMap 138 none).run Tryd.prog w = .ok (.map (some w.heap.size)) (w.alloc (.map #[] 0)) := by simp [Instr.makeMap]
theorem lk138 (w : World) (r : Nat) (es : Array MapEntry) (clock : Nat) (k : Int) (hb : w.heap[r]? = some (.map es clock)) (hf : Instr.findNow (.int .i64) (.int .i64 k) es.toList 0 = some none) :
    (Instr.lookup 138 (.map (some r)) (.int .i64 k) false).run Tryd.prog w = .ok (.bool false) w := by
  have hm : Tryd.prog.underlying 138 = some (.map 3 4) := by kernel_rfl
  have hk : Tryd.prog.underlying 3 = some (.int .i64) := by kernel_rfl
  have hz : (zeroValue 4).run Tryd.prog w = .ok (.bool false) w := by kernel_rfl
  have hc : ∀ e, (Instr.checkKey e 10000 3 (.int .i64 k)).run Tryd.prog w = .ok () w := fun e => MapKept.run_checkKey (k := .int .i64 k) hk (by simp [MapKept.IsKey]) e 9999
  simp [Instr.lookup, run_underlying hm, MapKept.run_getObj_map hb, hc, MapKept.run_findKey hk hf, hz, Result.andThen]
theorem up138 (w : World) (r clock : Nat) (es : Array MapEntry) (k : Int) (val : Value) (hb : w.heap[r]? = some (.map es clock)) (hf : Instr.findNow (.int .i64) (.int .i64 k) es.toList 0 = some none) :
    (Instr.mapUpdate 138 (.map (some r)) (.int .i64 k) val).run Tryd.prog w = .ok () { w with heap := w.heap.setIfInBounds r (.map (es.push { key := .int .i64 k, val := val, born := clock }) (clock + 1)) } := by
  have hm : Tryd.prog.underlying 138 = some (.map 3 4) := by kernel_rfl
  have hk : Tryd.prog.underlying 3 = some (.int .i64) := by kernel_rfl
  have hc : (Instr.checkKey false 10000 3 (.int .i64 k)).run Tryd.prog w = .ok () w := MapKept.run_checkKey (k := .int .i64 k) hk (by simp [MapKept.IsKey]) false 9999
  simp [Instr.mapUpdate, run_underlying hm, MapKept.run_getObj_map hb, hc, MapKept.run_findKey hk hf, MapKept.run_setObj_map _ hb, Result.andThen]
end Go.Proofs.YtnfgiamdmfkcjaaDoor.H
namespace Go.Proofs.YtnfgiamdmfkcjaaDoor.H
open Go.RowKit Go.Proofs.YtnfgiamdmfkcjaaDoorW.PrintWords Go.Proofs.YtnfgiamdmfkcjaaDoorW.PrintLast Go.Proofs.YtnfgiamdmfkcjaaDoor.Leaf Go.Proofs.YtnfgiamdmfkcjaaDoor.P
set_option maxHeartbeats 4000000
set_option maxRecDepth 100000
theorem same1 (W : World) (qa qb : Option Addr) (ca cb : Nat) (sa sb : Int) : Calls Tryd.prog 100 #[.agg #[.string nmA, .int .i64 1, .slice qa 16 ca, .int .u32 sa], .agg #[.string nmA, .int .i64 1, .slice qb 16 cb, .int .u32 sb]] W fun e w' => e = .returned (.bool true) ∧ Below W.heap.size W w' := by
 go_enter Tryd.func100, Tryd.ntmps100
 go_wp2_with fail
 go_ret
 exact ⟨by first | rfl | (simp; done), zC_ (zC_ (Below.refl _ _) _) _⟩
theorem log_same (W : World) : Calls Tryd.prog 98 #[.slice none 0 0, .slice none 0 0] W fun e w' => e = .returned (.bool true) ∧ Below W.heap.size W w' := by
 go_enter Tryd.func98, Tryd.ntmps98
 go_wp2_with fail
 go_loopg [13] 1 (fun gg s13 wr => s13 = .int .i64 0 ∧ wr = W)
 case atStart => exact ⟨rfl, rfl⟩
 case round =>
  obtain ⟨rfl, rfl⟩ := hrel
  go_wp2_with fail
  go_ret
  exact ⟨rfl, Below.refl _ _⟩
theorem items_same (W : World) (ia ib ca cb : Nat) (qa qb : Option Addr) (ea eb : Nat) (la lb : List Int) (sa sb : Int) (hA : It W ia qa ea la sa) (hB : It W ib qb eb lb sb) :
 Calls Tryd.prog 99 #[.slice (some ⟨ia, 0, none⟩) 1 ca, .slice (some ⟨ib, 0, none⟩) 1 cb, .func (.func 100) #[] #[]] W fun e w' => e = .returned (.bool true) ∧ Below W.heap.size W w' := by
 go_enter Tryd.func99, Tryd.ntmps99
 go_wp2_with fail
 go_loopg [17] 2 (fun gg s17 wr => ((s17 = .int .i64 0 ∧ 1 ≤ gg) ∨ s17 = .int .i64 1) ∧ Aside0 (Below W.heap.size W wr))
 case atStart => exact ⟨Or.inl ⟨rfl, by omega⟩, ⟨Below.refl _ _⟩⟩
 case round =>
  obtain ⟨h17, HB⟩ := hrel
  have HA := Aside0.mk (hA.kept HB.out)
  have HBB := Aside0.mk (hB.kept HB.out)
  rcases h17 with ⟨rfl, hg⟩ | rfl
  ·have a0 := HA.out.c0
   have a1 := HA.out.c1
   have a2 := HA.out.c2
   have a3 := HA.out.c3
   have b0 : ∀ o, (wr.alloc o).cell? ⟨ib, 0, none⟩ = some (.string nmA) := fun o => zD_ (zC_ (Below.refl _ _) o) HBB.out.c0
   have b1 : ∀ o, (wr.alloc o).cell? ⟨ib, 1, none⟩ = some (.int .i64 1) := fun o => zD_ (zC_ (Below.refl _ _) o) HBB.out.c1
   have b2 : ∀ o, (wr.alloc o).cell? ⟨ib, 2, none⟩ = some (.slice qb 16 eb) := fun o => zD_ (zC_ (Below.refl _ _) o) HBB.out.c2
   have b3 : ∀ o, (wr.alloc o).cell? ⟨ib, 3, none⟩ = some (.int .u32 sb) := fun o => zD_ (zC_ (Below.refl _ _) o) HBB.out.c3
   have HS : Aside0 (∀ w, Calls Tryd.prog 100 #[.agg #[.string nmA, .int .i64 1, .slice qa 16 ea, .int .u32 sa], .agg #[.string nmA, .int .i64 1, .slice qb 16 eb, .int .u32 sb]] w fun e w' => e = .returned (.bool true) ∧ Below w.heap.size w w') := ⟨fun w => same1 w qa qb ea eb sa sb⟩
   go_wp2_with (first | (go_at_call 100; refine (HS.out _).mono ?_; rintro e w3 ⟨rfl, hb⟩; have HB3 : Aside0 (Below W.heap.size W w3) := ⟨zE_ (by repeat (first | exact HB.out | apply zC_)) hb⟩; clear hb))
   go_roundg 0
   case measure => omega
   case rel => exact ⟨Or.inr rfl, HB3⟩
  ·go_wp2_with fail
   go_ret
   exact ⟨rfl, HB.out⟩
/-- A shard in a list: at place p, of one item. -/
structure Sh (w : World) (ob o p ib ic : Nat) (qa : Option Addr) (qc : Nat) (l : List Int) (s : Int) : Prop where
 t0 : w.cell? ⟨ob, o, none⟩ = some (.int .i64 (p : Int))
 t1 : w.cell? ⟨ob, o + 1, none⟩ = some (.int .i64 3)
 t2 : w.cell? ⟨ob, o + 2, none⟩ = some (.slice (some ⟨ib, 0, none⟩) 1 ic)
 t3 : w.cell? ⟨ob, o + 3, none⟩ = some (.slice none 0 0)
 t4 : w.cell? ⟨ob, o + 4, none⟩ = some (.slice none 0 0)
 it : It w ib qa qc l s
theorem Sh.kept {w w' : World} {ob o p ib ic : Nat} {qa : Option Addr} {qc : Nat} {l : List Int} {s : Int} (h : Sh w ob o p ib ic qa qc l s) (hb : Below w.heap.size w w') : Sh w' ob o p ib ic qa qc l s :=
 ⟨zD_ hb h.t0, zD_ hb h.t1, zD_ hb h.t2, zD_ hb h.t3, zD_ hb h.t4, h.it.kept hb⟩
abbrev es1 : Array MapEntry := #[{ key := .int .i64 1, val := .bool true, born := 0 }]
theorem below_obj {B : Nat} {a w : World} (h : Below B a w) {r : Nat} (hr : B ≤ r) (o : Obj) : Below B a { w with heap := w.heap.setIfInBounds r o } :=
 ⟨h.os, h.tape, h.output, by show _ ≤ (w.heap.setIfInBounds r o).size; rw [Array.size_setIfInBounds]; exact h.size, fun k hk => by
  show (w.heap.setIfInBounds r o)[k]? = _
  rw [Array.getElem?_setIfInBounds_ne (by omega)]
  exact h.block k hk⟩
def sm5T : Bool × List (List Nat × List Nat) := (true, [([], []), ([0], [0]), ([1], [1]), ([2, 1], [2]), ([3], [3]), ([4, 3], [3, 4]), ([5, 3], [3, 5]), ([3, 6], [3, 6]), ([7, 3], [7]), ([8], [8]), ([9, 8], [8, 9]), ([8], [8]), ([8], [8]), ([11, 12, 8], [8, 11, 12]), ([10, 13, 8], [8, 10, 13]), ([8, 14], [8, 14]), ([15, 8], [15]), ([16], [16]), ([16], [16]), ([18, 16], [16, 18]), ([17, 19, 16], [16, 17, 19]), ([16, 20], [16, 20]), ([21, 16], [21]), ([22], [22]), ([23, 22], [22, 23]), ([22], [22]), ([25, 22], [22, 25]), ([26, 22], [22, 26]), ([27, 22], [22, 27]), ([24, 28, 22, 22], [22, 24, 28]), ([29, 22], [22, 29]), ([22, 30], [22, 30])])
def sm5B : List Nat := [0, 1, 3, 7, 15, 31, 63, 127, 255, 511, 1023, 511, 511, 6655, 16383, 32767, 65535, 131071, 131071, 393215, 1048575, 2097151, 4194303, 8388607, 16777215, 8388607, 41943039, 109051903, 243269631, 536870911, 1073741823, 2147483647]
theorem sm5T_tab : rtab .any (opsOf Tryd.f81 5) = sm5T := by kernel_rfl
theorem sm5B_bits : waitsOk sm5T.2 sm5B = true := by kernel_rfl
theorem same_two (W : World) (ob i1 c1 i2 c2 : Nat) (q1 q2 : Option Addr) (e1 e2 : Nat) (l1 l2 : List Int) (s1 s2 : Int) (h1 : Sh W ob 5 1 i1 c1 q1 e1 l1 s1) (h2 : Sh W ob 10 2 i2 c2 q2 e2 l2 s2) :
 Calls Tryd.prog 81 #[.int .i64 2, .int .i64 1, .slice (some ⟨ob, 5, none⟩) 2 2] W fun e w' => e = .returned (.bool true) ∧ Below W.heap.size W w' := by
 have hmk := mk138 W
 go_enter Tryd.func81, Tryd.ntmps81
 go_wp2_with fail
 go_loopg [13] 3 (fun gg s13 wr => ((s13 = .int .i64 0 ∧ 2 ≤ gg ∧ Aside0 (wr.heap[W.heap.size]? = some (.map #[] 0))) ∨ (s13 = .int .i64 1 ∧ 1 ≤ gg ∧ Aside0 (wr.heap[W.heap.size]? = some (.map es1 1))) ∨ s13 = .int .i64 2) ∧ Aside0 (Below W.heap.size W wr))
 case atStart => exact ⟨Or.inl ⟨rfl, by omega, ⟨heap_top _ _⟩⟩, ⟨zC_ (Below.refl _ _) _⟩⟩
 case round =>
  obtain ⟨h13, HB⟩ := hrel
  clear hmk
  rcases h13 with ⟨rfl, hg, HM⟩ | ⟨rfl, hg, HM⟩ | rfl
  ·have HS := Aside0.mk (h1.kept HB.out)
   have y0 : wr.cell? ⟨ob, 5, none⟩ = some (.int .i64 1) := HS.out.t0
   have y1 : wr.cell? ⟨ob, 6, none⟩ = some (.int .i64 3) := HS.out.t1
   have y2 : wr.cell? ⟨ob, 7, none⟩ = some (.slice (some ⟨i1, 0, none⟩) 1 c1) := HS.out.t2
   have y3 : wr.cell? ⟨ob, 8, none⟩ = some (.slice none 0 0) := HS.out.t3
   have y4 : wr.cell? ⟨ob, 9, none⟩ = some (.slice none 0 0) := HS.out.t4
   go_upto_region 5 with (fail)
   have HN : Aside0 (Below wr.heap.size wr (wr.alloc (.cells #[.int .i64 1, .int .i64 3, .slice (some ⟨i1, 0, none⟩) 1 c1, .slice none 0 0, .slice none 0 0] 83))) := ⟨zC_ (Below.refl _ _) _⟩
   have HX0 : Aside0 (Bx (wr.alloc (.cells #[.int .i64 1, .int .i64 3, .slice (some ⟨i1, 0, none⟩) 1 c1, .slice none 0 0, .slice none 0 0] 83)) wr.heap.size 1 i1 c1) := ⟨Bx.new wr 1 i1 c1⟩
   have HB0 := Aside0.mk (zE_ HB.out HN.out)
   have HM0 : Aside0 ((wr.alloc (.cells #[.int .i64 1, .int .i64 3, .slice (some ⟨i1, 0, none⟩) 1 c1, .slice none 0 0, .slice none 0 0] 83)).heap[W.heap.size]? = some (.map #[] 0)) := ⟨(HN.out.block _ (Array.getElem?_eq_some_iff.1 HM.out).1).trans HM.out⟩
   have HML : Aside0 (W.heap.size < (wr.alloc (.cells #[.int .i64 1, .int .i64 3, .slice (some ⟨i1, 0, none⟩) 1 c1, .slice none 0 0, .slice none 0 0] 83)).heap.size) := ⟨(Array.getElem?_eq_some_iff.1 HM0.out).1⟩
   have HNE : Aside0 (wr.heap.size ≠ W.heap.size) := ⟨by have := (Array.getElem?_eq_some_iff.1 HM.out).1; omega⟩
   have HLT : Aside0 (wr.heap.size < (wr.alloc (.cells #[.int .i64 1, .int .i64 3, .slice (some ⟨i1, 0, none⟩) 1 c1, .slice none 0 0, .slice none 0 0] 83)).heap.size) := ⟨by rw [World.size_alloc]; omega⟩
   replace HS := Aside0.mk (h1.kept HB0.out)
   have x8 : (wr.alloc (.cells #[.int .i64 1, .int .i64 3, .slice (some ⟨i1, 0, none⟩) 1 c1, .slice none 0 0, .slice none 0 0] 83)).cell? ⟨ob, 8, none⟩ = some (.slice none 0 0) := zD_ HB0.out h1.t3
   clear y0 y1 y2 y3 y4 HB HM HN
   generalize wr.alloc (.cells #[.int .i64 1, .int .i64 3, .slice (some ⟨i1, 0, none⟩) 1 c1, .slice none 0 0, .slice none 0 0] 83) = w0 at *
   generalize wr.heap.size = b2 at *
   have HD : Aside0 (Below w0.heap.size w0 w0.drew) := ⟨Below.drew (Below.refl _ _)⟩
   refine start_ (n := 32) (S := fun w' => Bx w' b2 1 i1 c1 ∧ w'.cell? ⟨ob, 8, none⟩ = some (.slice none 0 0)) (ds := []) (upU 32 0) (by kernel_rfl) rfl rfl ⟨HX0.out.kept HD.out, x8⟩ (fun hHeld => ?_); refine with_tabW sm5T_tab sm5B_bits (fun HT_ HW_ => ?_)
   refine take_ (i := 0) (N := some 17) (v := ?_) (a' := ?_) (upU 32 1) rfl rfl (take_ofW HT_.out HW_.out (by kernel_rfl)) (fun _ _ _ h => h) (Or.inl ⟨by rfl, ?_⟩) hHeld ?_ ?_
   rotate_left
   ·intro w' hS_
    have hq0 := hS_.1.t0
    have hq1 := hS_.1.t1
    have hq2 := hS_.1.t2
    have hq3 := hS_.1.t3
    have hq4 := hS_.1.t4
    go_simp
    first | done | with_reducible rfl
   rotate_left
   ·simp only [Act.put, qA_, qB_, qC_, i64_w, i32_w]
    rfl
   refine one_ (i := 1) (N := some 18) (upU 32 2) rfl rfl (one_of HT_.out (by kernel_rfl)) (by decide) (fun K hK => ?_)
   refine goes_ Tryd.func45 (by kernel_rfl) rfl #[.agg #[.int .i64 1, .int .i64 3, .slice (some ⟨i1, 0, none⟩) 1 c1, .slice none 0 0, .slice none 0 0]] (by rfl) rfl rfl (by (try simp only [List.map_toArray, List.map_cons, List.map_nil]); first | done | rfl) ?_
   refine (CheckShard_one _ 1 i1 c1 q1 e1 l1 s1 (by decide) (HS.out.it.kept HD.out)).mono ?_
   rintro e w1 ⟨rfl, hb⟩
   refine ⟨_, rfl, ?_⟩
   have HB1 : Aside0 (Below w0.heap.size w0 w1) := ⟨zE_ HD.out hb⟩
   have hlk := lk138 w1 W.heap.size #[] 0 1 ((hb.block _ HML.out).trans HM0.out) rfl
   have hx8 : w1.cell? ⟨ob, 8, none⟩ = some (.slice none 0 0) := zD_ hb x8
   have HX1 := Aside0.mk (HX0.out.kept HB1.out)
   clear hb
   refine hK.out _ _ ⟨HX1.out, hx8⟩ (fun hHeld => ?_)
   clear hK K
   refine norm_ (a' := ?_) ?_ ?_
   rotate_left
   ·show Act.put _ (some 18) _ = _
    simp only [Act.put, qA_, qB_, qC_, i64_w, i32_w]
    rfl
   iterate 3
    refine pureO 17 (v := ?_) (a' := ?_) HT_ rfl rfl (by kernel_rfl) (fun _ _ _ h => h) (Or.inl ⟨by rfl, ?_⟩) ?_ ?_
    rotate_left
    ·intro w'
     go_simp
     first | done | with_reducible rfl
    rotate_left
    ·simp only [Act.put, Nat.reduceAdd, qA_, qB_, qC_, i64_w, i32_w]
     rfl
   refine take_ (i := 5) (N := some 22) (v := ?_) (a' := ?_) (upU 32 6) rfl rfl (take_ofW HT_.out HW_.out (by kernel_rfl)) (fun _ _ _ h => h) (Or.inl ⟨by rfl, ?_⟩) hHeld ?_ ?_
   rotate_left
   ·intro w' hS_
    have hq := hS_.1.t1
    go_simp
    first | done | with_reducible rfl
   rotate_left
   ·simp only [Act.put, qA_, qB_, qC_, i64_w, i32_w]
    rfl
   iterate 4
    refine pureO 17 (v := ?_) (a' := ?_) HT_ rfl rfl (by kernel_rfl) (fun _ _ _ h => h) (Or.inl ⟨by rfl, ?_⟩) ?_ ?_
    rotate_left
    ·intro w'
     go_simp
     first | done | with_reducible rfl
    rotate_left
    ·simp only [Act.put, Nat.reduceAdd, qA_, qB_, qC_, i64_w, i32_w]
     rfl
   refine take_ (i := 10) (N := some 27) (v := ?_) (a' := ?_) (upU 32 11) rfl rfl (take_ofW HT_.out HW_.out (by kernel_rfl)) (fun _ _ _ h => h) (Or.inl ⟨by rfl, ?_⟩) hHeld ?_ ?_
   rotate_left
   ·intro w' hS_
    have hq := hS_.1.t0
    go_simp
    first | done | with_reducible rfl
   rotate_left
   ·simp only [Act.put, qA_, qB_, qC_, i64_w, i32_w]
    rfl
   iterate 2
    refine pureO 17 (v := ?_) (a' := ?_) HT_ rfl rfl (by kernel_rfl) (fun _ _ _ h => h) (Or.inl ⟨by rfl, ?_⟩) ?_ ?_
    rotate_left
    ·intro w'
     go_simp
     first | done | with_reducible rfl
    rotate_left
    ·simp only [Act.put, Nat.reduceAdd, qA_, qB_, qC_, i64_w, i32_w]
     rfl
   refine pureO 17 (v := (.int .i64 3)) (a' := ?_) HT_ rfl rfl (by kernel_rfl) (fun _ _ _ h => h) (Or.inl ⟨by rfl, ?_⟩) ?_ ?_
   ·intro w'
    go_simp
    first | done | rfl | decide
   rotate_left
   ·simp only [Act.put, Nat.reduceAdd, qA_, qB_, qC_, i64_w, i32_w]
    rfl
   refine pureO 17 (v := (.bool false)) (a' := ?_) HT_ rfl rfl (by kernel_rfl) (fun _ _ _ h => h) (Or.inl ⟨by rfl, ?_⟩) ?_ ?_
   ·intro w'
    go_simp
    first | done | rfl | decide
   rotate_left
   ·simp only [Act.put, Nat.reduceAdd, qA_, qB_, qC_, i64_w, i32_w]
    rfl
   iterate 4
    refine pureO 17 (v := ?_) (a' := ?_) HT_ rfl rfl (by kernel_rfl) (fun _ _ _ h => h) (Or.inl ⟨by rfl, ?_⟩) ?_ ?_
    rotate_left
    ·intro w'
     go_simp
     first | done | with_reducible rfl
    rotate_left
    ·simp only [Act.put, Nat.reduceAdd, qA_, qB_, qC_, i64_w, i32_w]
     rfl
   refine take_ (i := 19) (N := some 36) (v := ?_) (a' := ?_) (upU 32 20) rfl rfl (take_ofW HT_.out HW_.out (by kernel_rfl)) (fun _ _ _ h => h) (Or.inl ⟨by rfl, ?_⟩) hHeld ?_ ?_
   rotate_left
   ·intro w' hS_
    have hq := hS_.1.t0
    go_simp
    first | done | with_reducible rfl
   rotate_left
   ·simp only [Act.put, qA_, qB_, qC_, i64_w, i32_w]
    rfl
   refine one_ (i := 20) (N := some 37) (upU 32 21) rfl rfl (one_of HT_.out (by kernel_rfl)) (by decide) (fun K hK => ?_)
   refine value_ (w1 := ?_) (v := ?_) (by rfl) rfl ?_ ?_
   rotate_left 2
   ·go_simp
    first | done | (constructor <;> rfl)
   refine hK.out _ _ hHeld (fun hHeld => ?_)
   clear hK K
   refine norm_ (a' := ?_) ?_ ?_
   rotate_left
   ·show Act.put _ (some 37) _ = _
    simp only [Act.put, qA_, qB_, qC_, i64_w, i32_w]
    rfl
   iterate 3
    refine pureO 17 (v := ?_) (a' := ?_) HT_ rfl rfl (by kernel_rfl) (fun _ _ _ h => h) (Or.inl ⟨by rfl, ?_⟩) ?_ ?_
    rotate_left
    ·intro w'
     go_simp
     first | done | with_reducible rfl
    rotate_left
    ·simp only [Act.put, Nat.reduceAdd, qA_, qB_, qC_, i64_w, i32_w]
     rfl
   refine take_ (i := 24) (N := some 41) (v := ?_) (a' := ?_) (upU 32 25) rfl rfl (take_ofW HT_.out HW_.out (by kernel_rfl)) (fun _ _ _ h => h) (Or.inl ⟨by rfl, ?_⟩) hHeld ?_ ?_
   rotate_left
   ·intro w' hS_
    have hq := hS_.1.t3
    go_simp
    first | done | with_reducible rfl
   rotate_left
   ·simp only [Act.put, qA_, qB_, qC_, i64_w, i32_w]
    rfl
   iterate 3
    refine pureO 17 (v := ?_) (a' := ?_) HT_ rfl rfl (by kernel_rfl) (fun _ _ _ h => h) (Or.inl ⟨by rfl, ?_⟩) ?_ ?_
    rotate_left
    ·intro w'
     go_simp
     first | done | with_reducible rfl
    rotate_left
    ·simp only [Act.put, Nat.reduceAdd, qA_, qB_, qC_, i64_w, i32_w]
     rfl
   refine take_ (i := 28) (N := some 45) (v := ?_) (a' := ?_) (upU 32 29) rfl rfl (take_ofW HT_.out HW_.out (by kernel_rfl)) (fun _ _ _ h => h) (Or.inl ⟨by rfl, ?_⟩) hHeld ?_ ?_
   rotate_left
   ·intro w' hS_
    have hq := hS_.2
    go_simp
    first | done | with_reducible rfl
   rotate_left
   ·simp only [Act.put, qA_, qB_, qC_, i64_w, i32_w]
    rfl
   refine one_ (i := 29) (N := some 46) (upU 32 30) rfl rfl (one_of HT_.out (by kernel_rfl)) (by decide) (fun K hK => ?_)
   refine goes_ Tryd.func98 (by kernel_rfl) rfl #[.slice none 0 0, .slice none 0 0] (by rfl) rfl rfl (by (try simp only [List.map_toArray, List.map_cons, List.map_nil]); first | done | rfl) ?_
   refine (log_same _).mono ?_
   rintro e w2 ⟨rfl, hb⟩
   refine ⟨_, rfl, ?_⟩
   have HB2 : Aside0 (Below w0.heap.size w0 w2) := ⟨zE_ HB1.out hb⟩
   have HX2 := Aside0.mk (HX0.out.kept HB2.out)
   have hy8 : w2.cell? ⟨ob, 8, none⟩ = some (.slice none 0 0) := zD_ hb hx8
   clear hb
   refine hK.out _ _ ⟨HX2.out, hy8⟩ (fun hHeld => ?_)
   clear hK K
   refine norm_ (a' := ?_) ?_ ?_
   rotate_left
   ·show Act.put _ (some 46) _ = _
    simp only [Act.put, qA_, qB_, qC_, i64_w, i32_w]
    rfl
   iterate 2
    refine pureO 17 (v := ?_) (a' := ?_) HT_ rfl rfl (by kernel_rfl) (fun _ _ _ h => h) (Or.inl ⟨by rfl, ?_⟩) ?_ ?_
    rotate_left
    ·intro w'
     go_simp
     first | done | with_reducible rfl
    rotate_left
    ·simp only [Act.put, Nat.reduceAdd, qA_, qB_, qC_, i64_w, i32_w]
     rfl
   refine done_ (done_of HT_.out (by kernel_rfl)) ?_
   have z0 := HX2.out.t0
   have hup := up138 w2 W.heap.size 0 #[] 1 (.bool true) ((HB2.out.block _ HML.out).trans HM0.out) rfl
   clear hlk x8 hx8 hHeld
   go_upto_region 8 with (fail)
   have HLT2 : Aside0 (W.heap.size < w2.heap.size) := ⟨Nat.lt_of_lt_of_le HML.out HB2.out.size⟩
   have HB3 : Aside0 (Below W.heap.size W ({ w2 with heap := w2.heap.setIfInBounds W.heap.size (.map #[{ key := .int .i64 1, val := .bool true, born := 0 }] 1) } : World)) := ⟨below_obj (zE_ HB0.out HB2.out) (Nat.le_refl _) _⟩
   have HM3 : Aside0 (({ w2 with heap := w2.heap.setIfInBounds W.heap.size (.map #[{ key := .int .i64 1, val := .bool true, born := 0 }] 1) } : World).heap[W.heap.size]? = some (.map #[{ key := .int .i64 1, val := .bool true, born := 0 }] 1)) := ⟨by
    show (w2.heap.setIfInBounds W.heap.size _)[W.heap.size]? = _
    rw [Array.getElem?_setIfInBounds_self_of_lt HLT2.out]⟩
   have m2 : ({ w2 with heap := w2.heap.setIfInBounds W.heap.size (.map #[{ key := .int .i64 1, val := .bool true, born := 0 }] 1) } : World).cell? ⟨b2, 2, none⟩ = some (.slice (some ⟨i1, 0, none⟩) 1 c1) := (World.cell?_of_block (a := ⟨b2, 2, none⟩) (by
    show (w2.heap.setIfInBounds W.heap.size _)[b2]? = _
    rw [Array.getElem?_setIfInBounds_ne HNE.out.symm])).trans HX2.out.t2
   have m7 : ({ w2 with heap := w2.heap.setIfInBounds W.heap.size (.map #[{ key := .int .i64 1, val := .bool true, born := 0 }] 1) } : World).cell? ⟨ob, 7, none⟩ = some (.slice (some ⟨i1, 0, none⟩) 1 c1) := zD_ HB3.out h1.t2
   clear hup z0
   generalize ({ w2 with heap := w2.heap.setIfInBounds W.heap.size (.map #[{ key := .int .i64 1, val := .bool true, born := 0 }] 1) } : World) = w3 at *
   have HD3 : Aside0 (Below w3.heap.size w3 w3.drew) := ⟨Below.drew (Below.refl _ _)⟩
   have HIT : Aside0 (Calls Tryd.prog 99 #[.slice (some ⟨i1, 0, none⟩) 1 c1, .slice (some ⟨i1, 0, none⟩) 1 c1, .func (.func 100) #[] #[]] w3.drew fun e w' => e = .returned (.bool true) ∧ Below w3.drew.heap.size w3.drew w') := ⟨items_same w3.drew i1 i1 c1 c1 q1 q1 e1 e1 l1 l1 s1 s1 ((h1.kept HB3.out).it.kept HD3.out) ((h1.kept HB3.out).it.kept HD3.out)⟩
   go_region_with (first | (go_at_call 99; refine HIT.out.mono ?_; rintro e w4 ⟨rfl, hb⟩; have HB4 : Aside0 (Below w3.heap.size w3 w4) := ⟨zE_ HD3.out hb⟩; clear hb))
   all_goals
    go_wp2_with fail
    go_roundg 1
    case measure => omega
    case rel => exact ⟨Or.inr (Or.inl ⟨by go_num, by omega, ⟨(HB4.out.block _ (Array.getElem?_eq_some_iff.1 HM3.out).1).trans HM3.out⟩⟩), ⟨zE_ HB3.out HB4.out⟩⟩
  ·have HS := Aside0.mk (h2.kept HB.out)
   have y0 : wr.cell? ⟨ob, 10, none⟩ = some (.int .i64 2) := HS.out.t0
   have y1 : wr.cell? ⟨ob, 11, none⟩ = some (.int .i64 3) := HS.out.t1
   have y2 : wr.cell? ⟨ob, 12, none⟩ = some (.slice (some ⟨i2, 0, none⟩) 1 c2) := HS.out.t2
   have y3 : wr.cell? ⟨ob, 13, none⟩ = some (.slice none 0 0) := HS.out.t3
   have y4 : wr.cell? ⟨ob, 14, none⟩ = some (.slice none 0 0) := HS.out.t4
   go_upto_region 5 with (fail)
   have HN : Aside0 (Below wr.heap.size wr (wr.alloc (.cells #[.int .i64 2, .int .i64 3, .slice (some ⟨i2, 0, none⟩) 1 c2, .slice none 0 0, .slice none 0 0] 83))) := ⟨zC_ (Below.refl _ _) _⟩
   have HX0 : Aside0 (Bx (wr.alloc (.cells #[.int .i64 2, .int .i64 3, .slice (some ⟨i2, 0, none⟩) 1 c2, .slice none 0 0, .slice none 0 0] 83)) wr.heap.size 2 i2 c2) := ⟨Bx.new wr 2 i2 c2⟩
   have HB0 := Aside0.mk (zE_ HB.out HN.out)
   have HM0 : Aside0 ((wr.alloc (.cells #[.int .i64 2, .int .i64 3, .slice (some ⟨i2, 0, none⟩) 1 c2, .slice none 0 0, .slice none 0 0] 83)).heap[W.heap.size]? = some (.map es1 1)) := ⟨(HN.out.block _ (Array.getElem?_eq_some_iff.1 HM.out).1).trans HM.out⟩
   have HML : Aside0 (W.heap.size < (wr.alloc (.cells #[.int .i64 2, .int .i64 3, .slice (some ⟨i2, 0, none⟩) 1 c2, .slice none 0 0, .slice none 0 0] 83)).heap.size) := ⟨(Array.getElem?_eq_some_iff.1 HM0.out).1⟩
   have HNE : Aside0 (wr.heap.size ≠ W.heap.size) := ⟨by have := (Array.getElem?_eq_some_iff.1 HM.out).1; omega⟩
   have HLT : Aside0 (wr.heap.size < (wr.alloc (.cells #[.int .i64 2, .int .i64 3, .slice (some ⟨i2, 0, none⟩) 1 c2, .slice none 0 0, .slice none 0 0] 83)).heap.size) := ⟨by rw [World.size_alloc]; omega⟩
   replace HS := Aside0.mk (h2.kept HB0.out)
   have x8 : (wr.alloc (.cells #[.int .i64 2, .int .i64 3, .slice (some ⟨i2, 0, none⟩) 1 c2, .slice none 0 0, .slice none 0 0] 83)).cell? ⟨ob, 8, none⟩ = some (.slice none 0 0) := zD_ HB0.out h1.t3
   clear y0 y1 y2 y3 y4 HB HM HN
   generalize wr.alloc (.cells #[.int .i64 2, .int .i64 3, .slice (some ⟨i2, 0, none⟩) 1 c2, .slice none 0 0, .slice none 0 0] 83) = w0 at *
   generalize wr.heap.size = b2 at *
   have HD : Aside0 (Below w0.heap.size w0 w0.drew) := ⟨Below.drew (Below.refl _ _)⟩
   refine start_ (n := 32) (S := fun w' => Bx w' b2 2 i2 c2 ∧ w'.cell? ⟨ob, 8, none⟩ = some (.slice none 0 0)) (ds := []) (upU 32 0) (by kernel_rfl) rfl rfl ⟨HX0.out.kept HD.out, x8⟩ (fun hHeld => ?_); refine with_tabW sm5T_tab sm5B_bits (fun HT_ HW_ => ?_)
   refine take_ (i := 0) (N := some 17) (v := ?_) (a' := ?_) (upU 32 1) rfl rfl (take_ofW HT_.out HW_.out (by kernel_rfl)) (fun _ _ _ h => h) (Or.inl ⟨by rfl, ?_⟩) hHeld ?_ ?_
   rotate_left
   ·intro w' hS_
    have hq0 := hS_.1.t0
    have hq1 := hS_.1.t1
    have hq2 := hS_.1.t2
    have hq3 := hS_.1.t3
    have hq4 := hS_.1.t4
    go_simp
    first | done | with_reducible rfl
   rotate_left
   ·simp only [Act.put, qA_, qB_, qC_, i64_w, i32_w]
    rfl
   refine one_ (i := 1) (N := some 18) (upU 32 2) rfl rfl (one_of HT_.out (by kernel_rfl)) (by decide) (fun K hK => ?_)
   refine goes_ Tryd.func45 (by kernel_rfl) rfl #[.agg #[.int .i64 2, .int .i64 3, .slice (some ⟨i2, 0, none⟩) 1 c2, .slice none 0 0, .slice none 0 0]] (by rfl) rfl rfl (by (try simp only [List.map_toArray, List.map_cons, List.map_nil]); first | done | rfl) ?_
   refine (CheckShard_one _ 2 i2 c2 q2 e2 l2 s2 (by decide) (HS.out.it.kept HD.out)).mono ?_
   rintro e w1 ⟨rfl, hb⟩
   refine ⟨_, rfl, ?_⟩
   have HB1 : Aside0 (Below w0.heap.size w0 w1) := ⟨zE_ HD.out hb⟩
   have hlk := lk138 w1 W.heap.size es1 1 2 ((hb.block _ HML.out).trans HM0.out) rfl
   have hx8 : w1.cell? ⟨ob, 8, none⟩ = some (.slice none 0 0) := zD_ hb x8
   have HX1 := Aside0.mk (HX0.out.kept HB1.out)
   clear hb
   refine hK.out _ _ ⟨HX1.out, hx8⟩ (fun hHeld => ?_)
   clear hK K
   refine norm_ (a' := ?_) ?_ ?_
   rotate_left
   ·show Act.put _ (some 18) _ = _
    simp only [Act.put, qA_, qB_, qC_, i64_w, i32_w]
    rfl
   iterate 3
    refine pureO 17 (v := ?_) (a' := ?_) HT_ rfl rfl (by kernel_rfl) (fun _ _ _ h => h) (Or.inl ⟨by rfl, ?_⟩) ?_ ?_
    rotate_left
    ·intro w'
     go_simp
     first | done | with_reducible rfl
    rotate_left
    ·simp only [Act.put, Nat.reduceAdd, qA_, qB_, qC_, i64_w, i32_w]
     rfl
   refine take_ (i := 5) (N := some 22) (v := ?_) (a' := ?_) (upU 32 6) rfl rfl (take_ofW HT_.out HW_.out (by kernel_rfl)) (fun _ _ _ h => h) (Or.inl ⟨by rfl, ?_⟩) hHeld ?_ ?_
   rotate_left
   ·intro w' hS_
    have hq := hS_.1.t1
    go_simp
    first | done | with_reducible rfl
   rotate_left
   ·simp only [Act.put, qA_, qB_, qC_, i64_w, i32_w]
    rfl
   iterate 4
    refine pureO 17 (v := ?_) (a' := ?_) HT_ rfl rfl (by kernel_rfl) (fun _ _ _ h => h) (Or.inl ⟨by rfl, ?_⟩) ?_ ?_
    rotate_left
    ·intro w'
     go_simp
     first | done | with_reducible rfl
    rotate_left
    ·simp only [Act.put, Nat.reduceAdd, qA_, qB_, qC_, i64_w, i32_w]
     rfl
   refine take_ (i := 10) (N := some 27) (v := ?_) (a' := ?_) (upU 32 11) rfl rfl (take_ofW HT_.out HW_.out (by kernel_rfl)) (fun _ _ _ h => h) (Or.inl ⟨by rfl, ?_⟩) hHeld ?_ ?_
   rotate_left
   ·intro w' hS_
    have hq := hS_.1.t0
    go_simp
    first | done | with_reducible rfl
   rotate_left
   ·simp only [Act.put, qA_, qB_, qC_, i64_w, i32_w]
    rfl
   iterate 2
    refine pureO 17 (v := ?_) (a' := ?_) HT_ rfl rfl (by kernel_rfl) (fun _ _ _ h => h) (Or.inl ⟨by rfl, ?_⟩) ?_ ?_
    rotate_left
    ·intro w'
     go_simp
     first | done | with_reducible rfl
    rotate_left
    ·simp only [Act.put, Nat.reduceAdd, qA_, qB_, qC_, i64_w, i32_w]
     rfl
   refine pureO 17 (v := (.int .i64 3)) (a' := ?_) HT_ rfl rfl (by kernel_rfl) (fun _ _ _ h => h) (Or.inl ⟨by rfl, ?_⟩) ?_ ?_
   ·intro w'
    go_simp
    first | done | rfl | decide
   rotate_left
   ·simp only [Act.put, Nat.reduceAdd, qA_, qB_, qC_, i64_w, i32_w]
    rfl
   refine pureO 17 (v := (.bool false)) (a' := ?_) HT_ rfl rfl (by kernel_rfl) (fun _ _ _ h => h) (Or.inl ⟨by rfl, ?_⟩) ?_ ?_
   ·intro w'
    go_simp
    first | done | rfl | decide
   rotate_left
   ·simp only [Act.put, Nat.reduceAdd, qA_, qB_, qC_, i64_w, i32_w]
    rfl
   iterate 4
    refine pureO 17 (v := ?_) (a' := ?_) HT_ rfl rfl (by kernel_rfl) (fun _ _ _ h => h) (Or.inl ⟨by rfl, ?_⟩) ?_ ?_
    rotate_left
    ·intro w'
     go_simp
     first | done | with_reducible rfl
    rotate_left
    ·simp only [Act.put, Nat.reduceAdd, qA_, qB_, qC_, i64_w, i32_w]
     rfl
   refine take_ (i := 19) (N := some 36) (v := ?_) (a' := ?_) (upU 32 20) rfl rfl (take_ofW HT_.out HW_.out (by kernel_rfl)) (fun _ _ _ h => h) (Or.inl ⟨by rfl, ?_⟩) hHeld ?_ ?_
   rotate_left
   ·intro w' hS_
    have hq := hS_.1.t0
    go_simp
    first | done | with_reducible rfl
   rotate_left
   ·simp only [Act.put, qA_, qB_, qC_, i64_w, i32_w]
    rfl
   refine one_ (i := 20) (N := some 37) (upU 32 21) rfl rfl (one_of HT_.out (by kernel_rfl)) (by decide) (fun K hK => ?_)
   refine value_ (w1 := ?_) (v := ?_) (by rfl) rfl ?_ ?_
   rotate_left 2
   ·go_simp
    first | done | (constructor <;> rfl)
   refine hK.out _ _ hHeld (fun hHeld => ?_)
   clear hK K
   refine norm_ (a' := ?_) ?_ ?_
   rotate_left
   ·show Act.put _ (some 37) _ = _
    simp only [Act.put, qA_, qB_, qC_, i64_w, i32_w]
    rfl
   iterate 3
    refine pureO 17 (v := ?_) (a' := ?_) HT_ rfl rfl (by kernel_rfl) (fun _ _ _ h => h) (Or.inl ⟨by rfl, ?_⟩) ?_ ?_
    rotate_left
    ·intro w'
     go_simp
     first | done | with_reducible rfl
    rotate_left
    ·simp only [Act.put, Nat.reduceAdd, qA_, qB_, qC_, i64_w, i32_w]
     rfl
   refine take_ (i := 24) (N := some 41) (v := ?_) (a' := ?_) (upU 32 25) rfl rfl (take_ofW HT_.out HW_.out (by kernel_rfl)) (fun _ _ _ h => h) (Or.inl ⟨by rfl, ?_⟩) hHeld ?_ ?_
   rotate_left
   ·intro w' hS_
    have hq := hS_.1.t3
    go_simp
    first | done | with_reducible rfl
   rotate_left
   ·simp only [Act.put, qA_, qB_, qC_, i64_w, i32_w]
    rfl
   iterate 3
    refine pureO 17 (v := ?_) (a' := ?_) HT_ rfl rfl (by kernel_rfl) (fun _ _ _ h => h) (Or.inl ⟨by rfl, ?_⟩) ?_ ?_
    rotate_left
    ·intro w'
     go_simp
     first | done | with_reducible rfl
    rotate_left
    ·simp only [Act.put, Nat.reduceAdd, qA_, qB_, qC_, i64_w, i32_w]
     rfl
   refine take_ (i := 28) (N := some 45) (v := ?_) (a' := ?_) (upU 32 29) rfl rfl (take_ofW HT_.out HW_.out (by kernel_rfl)) (fun _ _ _ h => h) (Or.inl ⟨by rfl, ?_⟩) hHeld ?_ ?_
   rotate_left
   ·intro w' hS_
    have hq := hS_.2
    go_simp
    first | done | with_reducible rfl
   rotate_left
   ·simp only [Act.put, qA_, qB_, qC_, i64_w, i32_w]
    rfl
   refine one_ (i := 29) (N := some 46) (upU 32 30) rfl rfl (one_of HT_.out (by kernel_rfl)) (by decide) (fun K hK => ?_)
   refine goes_ Tryd.func98 (by kernel_rfl) rfl #[.slice none 0 0, .slice none 0 0] (by rfl) rfl rfl (by (try simp only [List.map_toArray, List.map_cons, List.map_nil]); first | done | rfl) ?_
   refine (log_same _).mono ?_
   rintro e w2 ⟨rfl, hb⟩
   refine ⟨_, rfl, ?_⟩
   have HB2 : Aside0 (Below w0.heap.size w0 w2) := ⟨zE_ HB1.out hb⟩
   have HX2 := Aside0.mk (HX0.out.kept HB2.out)
   have hy8 : w2.cell? ⟨ob, 8, none⟩ = some (.slice none 0 0) := zD_ hb hx8
   clear hb
   refine hK.out _ _ ⟨HX2.out, hy8⟩ (fun hHeld => ?_)
   clear hK K
   refine norm_ (a' := ?_) ?_ ?_
   rotate_left
   ·show Act.put _ (some 46) _ = _
    simp only [Act.put, qA_, qB_, qC_, i64_w, i32_w]
    rfl
   iterate 2
    refine pureO 17 (v := ?_) (a' := ?_) HT_ rfl rfl (by kernel_rfl) (fun _ _ _ h => h) (Or.inl ⟨by rfl, ?_⟩) ?_ ?_
    rotate_left
    ·intro w'
     go_simp
     first | done | with_reducible rfl
    rotate_left
    ·simp only [Act.put, Nat.reduceAdd, qA_, qB_, qC_, i64_w, i32_w]
     rfl
   refine done_ (done_of HT_.out (by kernel_rfl)) ?_
   have z0 := HX2.out.t0
   have hup := up138 w2 W.heap.size 1 es1 2 (.bool true) ((HB2.out.block _ HML.out).trans HM0.out) rfl
   clear hlk x8 hx8 hHeld
   go_upto_region 8 with (fail)
   have HLT2 : Aside0 (W.heap.size < w2.heap.size) := ⟨Nat.lt_of_lt_of_le HML.out HB2.out.size⟩
   have HB3 : Aside0 (Below W.heap.size W ({ w2 with heap := w2.heap.setIfInBounds W.heap.size (.map #[{ key := .int .i64 1, val := .bool true, born := 0 }, { key := .int .i64 2, val := .bool true, born := 1 }] 2) } : World)) := ⟨below_obj (zE_ HB0.out HB2.out) (Nat.le_refl _) _⟩
   have HM3 : Aside0 (({ w2 with heap := w2.heap.setIfInBounds W.heap.size (.map #[{ key := .int .i64 1, val := .bool true, born := 0 }, { key := .int .i64 2, val := .bool true, born := 1 }] 2) } : World).heap[W.heap.size]? = some (.map #[{ key := .int .i64 1, val := .bool true, born := 0 }, { key := .int .i64 2, val := .bool true, born := 1 }] 2)) := ⟨by
    show (w2.heap.setIfInBounds W.heap.size _)[W.heap.size]? = _
    rw [Array.getElem?_setIfInBounds_self_of_lt HLT2.out]⟩
   have m2 : ({ w2 with heap := w2.heap.setIfInBounds W.heap.size (.map #[{ key := .int .i64 1, val := .bool true, born := 0 }, { key := .int .i64 2, val := .bool true, born := 1 }] 2) } : World).cell? ⟨b2, 2, none⟩ = some (.slice (some ⟨i2, 0, none⟩) 1 c2) := (World.cell?_of_block (a := ⟨b2, 2, none⟩) (by
    show (w2.heap.setIfInBounds W.heap.size _)[b2]? = _
    rw [Array.getElem?_setIfInBounds_ne HNE.out.symm])).trans HX2.out.t2
   have m7 : ({ w2 with heap := w2.heap.setIfInBounds W.heap.size (.map #[{ key := .int .i64 1, val := .bool true, born := 0 }, { key := .int .i64 2, val := .bool true, born := 1 }] 2) } : World).cell? ⟨ob, 7, none⟩ = some (.slice (some ⟨i1, 0, none⟩) 1 c1) := zD_ HB3.out h1.t2
   clear hup z0
   generalize ({ w2 with heap := w2.heap.setIfInBounds W.heap.size (.map #[{ key := .int .i64 1, val := .bool true, born := 0 }, { key := .int .i64 2, val := .bool true, born := 1 }] 2) } : World) = w3 at *
   have HD3 : Aside0 (Below w3.heap.size w3 w3.drew) := ⟨Below.drew (Below.refl _ _)⟩
   have HIT : Aside0 (Calls Tryd.prog 99 #[.slice (some ⟨i2, 0, none⟩) 1 c2, .slice (some ⟨i1, 0, none⟩) 1 c1, .func (.func 100) #[] #[]] w3.drew fun e w' => e = .returned (.bool true) ∧ Below w3.drew.heap.size w3.drew w') := ⟨items_same w3.drew i2 i1 c2 c1 q2 q1 e2 e1 l2 l1 s2 s1 ((h2.kept HB3.out).it.kept HD3.out) ((h1.kept HB3.out).it.kept HD3.out)⟩
   go_region_with (first | (go_at_call 99; refine HIT.out.mono ?_; rintro e w4 ⟨rfl, hb⟩; have HB4 : Aside0 (Below w3.heap.size w3 w4) := ⟨zE_ HD3.out hb⟩; clear hb))
   all_goals
    go_wp2_with fail
    go_roundg 0
    case measure => omega
    case rel => exact ⟨Or.inr (Or.inr (by go_num)), ⟨zE_ HB3.out HB4.out⟩⟩
  ·go_wp2_with fail
   go_ret
   exact ⟨rfl, HB.out⟩
end Go.Proofs.YtnfgiamdmfkcjaaDoor.H
namespace Go.Proofs.YtnfgiamdmfkcjaaDoor.H
open Go.RowKit
abbrev z9 : Array Value := #[.int .i64 0, .slice none 0 0, .int .u32 0, .int .i64 0, .slice none 0 0, .int .u32 0, .int .i64 0, .slice none 0 0, .int .u32 0]
abbrev z15 : Array Value := #[.int .i64 0, .int .i64 0, .slice none 0 0, .slice none 0 0, .slice none 0 0, .int .i64 0, .int .i64 0, .slice none 0 0, .slice none 0 0, .slice none 0 0, .int .i64 0, .int .i64 0, .slice none 0 0, .slice none 0 0, .slice none 0 0]
theorem mk39 (W : World) : (Instr.makeSlice 39 (.int .i64 3) (.int .i64 3)).run Tryd.prog W = .ok (.slice (some ⟨W.heap.size, 0, none⟩) 3 3) (W.alloc (.cells z9 44)) := by kernel_rfl
theorem mk23 (W : World) : (Instr.makeSlice 23 (.int .i64 3) (.int .i64 3)).run Tryd.prog W = .ok (.slice (some ⟨W.heap.size, 0, none⟩) 3 3) (W.alloc (.cells #[.bool false, .bool false, .bool false] 4)) := by kernel_rfl
theorem mk52 (W : World) : (Instr.makeSlice 52 (.int .i64 3) (.int .i64 3)).run Tryd.prog W = .ok (.slice (some ⟨W.heap.size, 0, none⟩) 3 3) (W.alloc (.cells z15 83)) := by kernel_rfl
theorem blk_get {w : World} {b : Nat} {c : Array Value} {t k : Nat} {v : Value} (h : w.heap[b]? = some (.cells c t (0, 0))) (hv : c[k]? = some v) : w.cell? ⟨b, k, none⟩ = some v := by
  unfold World.cell?
  rw [show (⟨b, k, none⟩ : Addr).block = b from rfl, h]
  exact hv
theorem blk_fz {w : World} {b : Nat} {c : Array Value} {t k : Nat} (h : w.heap[b]? = some (.cells c t (0, 0))) : w.frozen? ⟨b, k, none⟩ = false := by
  unfold World.frozen?
  rw [show (⟨b, k, none⟩ : Addr).block = b from rfl, h]
  simp
end Go.Proofs.YtnfgiamdmfkcjaaDoor.H
