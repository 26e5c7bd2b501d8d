/- Words and walks that the claim StoreDecodes leans on (what it does not use is left out). -/
import Derived.Test.YtmajfcdfafhkfaaGreatDoorMStoreDecodes1
import Derived.Deep.RegionLaw
import Derived.Deep.AppendLies
import Derived.Laws.CopyOwn
import Derived.Deep.RegionWith
import Derived.Test.YtmajfcdfafhkfaaGreatDoorProg
import Derived.Deep.AppendSrc
import Derived.Lib.ConvBytes
import Derived.Deep.DeepCutAuto
import Derived.Laws.Bits64b
namespace Go.Proofs.YtmajfcdfafhkfaaGreatDoor.H
open Go.RowKit Go.Proofs.YtmajfcdfafhkfaaGreatDoorW.PrintWords Go.Proofs.YtmajfcdfafhkfaaGreatDoorW.PrintLast Go.Proofs.YtmajfcdfafhkfaaGreatDoor.Leaf Go.Proofs.YtmajfcdfafhkfaaGreatDoor.P
set_option linter.unusedVariables false
set_option linter.unusedSimpArgs false
set_option maxHeartbeats 1000000
set_option maxRecDepth 100000
theorem Sf.lt {w : World} {s : Nat} {S : List Int} (h : Sf w s S) : s < w.heap.size := by
  obtain ⟨_, c, h2, _⟩ := h
  exact (Array.getElem?_eq_some_iff.1 h2).1
theorem Sf.kept {w w' : World} {s : Nat} {S : List Int} (h : Sf w s S) (hb : Below w.heap.size w w') : Sf w' s S := h.below h.lt hb
/-- A disk of eight sectors, nothing pending. -/
def Dk (w : World) (g s : Nat) (S : List Int) : Prop := w.cell? ⟨g, 0, none⟩ = some (.slice (some ⟨s, 0, none⟩) 512 512) ∧ w.cell? ⟨g, 1, none⟩ = some (.slice none 0 0) ∧ Sf w s S
theorem Dk.kept {w w' : World} {g s : Nat} {S : List Int} (h : Dk w g s S) (hb : Below w.heap.size w w') : Dk w' g s S := ⟨pw_cell_below hb h.1, pw_cell_below hb h.2.1, h.2.2.kept hb⟩
theorem gets_of {w : World} {x g s : Nat} {S : List Int} (hx : w.cell? ⟨x, 0, none⟩ = some (.pointer (some ⟨g, 0, none⟩))) (h : Dk w g s S) : Gets w x (sec S) := fun W hW i hi =>
  journal_get W x g s S i hi (pw_cell_below hW hx) (h.kept hW).1 (h.kept hW).2.1 (h.kept hW).2.2
/-- A journal's block. -/
def Jn (w : World) (h g : Nat) (v : Value) (end_ gen : Int) : Prop := w.cell? ⟨h, 0, none⟩ = some (.pointer (some ⟨g, 0, none⟩)) ∧ w.cell? ⟨h, 1, none⟩ = some v ∧ w.cell? ⟨h, 2, none⟩ = some (.int .i64 end_) ∧ w.cell? ⟨h, 3, none⟩ = some (.int .i64 gen)
theorem Jn.kept {w w' : World} {h g : Nat} {v : Value} {a b : Int} (H : Jn w h g v a b) (hb : Below w.heap.size w w') : Jn w' h g v a b := ⟨pw_cell_below hb H.1, pw_cell_below hb H.2.1, pw_cell_below hb H.2.2.1, pw_cell_below hb H.2.2.2⟩
theorem Jn.new (w : World) (g : Nat) (v : Value) (a b : Int) : Jn (w.alloc (.cells #[.pointer (some ⟨g, 0, none⟩), v, .int .i64 a, .int .i64 b] 114)) w.heap.size g v a b := ⟨cell_top _ _ _ 0, cell_top _ _ _ 1, cell_top _ _ _ 2, cell_top _ _ _ 3⟩
theorem frozen_top (W : World) (cells : Array Value) (t k : Nat) : (W.alloc (.cells cells t (0, 0))).frozen? ⟨W.heap.size, k, none⟩ = false := by
  unfold World.frozen?
  rw [show (⟨W.heap.size, k, none⟩ : Addr).block = W.heap.size from rfl, heap_top]
  simp
theorem journal_Open_none_ (W : World) (g s : Nat) (S : List Int) (hD : Dk W g s S) (hN : ∀ i, i < 8 → sum_Strip.f (sec S i) = some ([], false)) :
    Calls Tryz.prog 41 #[.pointer (some ⟨g, 0, none⟩)] W fun e w' => ∃ h, e = .returned (.tuple #[.pointer (some ⟨h, 0, none⟩), .int .i64 0]) ∧ W.heap.size ≤ h ∧ h < w'.heap.size ∧ Below W.heap.size W w' ∧ Jn w' h g (.slice none 0 0) 0 1 ∧ (∀ k, w'.frozen? ⟨h, k, none⟩ = false) := by
  have HB1 : Aside0 (Below W.heap.size W (W.alloc (.cells #[.pointer (some ⟨g, 0, none⟩)] 47))) := ⟨below_alloc (Below.refl _ _) _⟩
  have hx := cell_top W #[.pointer (some ⟨g, 0, none⟩)] 47 0
  have hx' : (W.alloc (.cells #[.pointer (some ⟨g, 0, none⟩)] 47)).cell? ⟨W.heap.size, 0, none⟩ = some (.pointer (some ⟨g, 0, none⟩)) := hx
  have HD := Aside0.mk (hD.kept HB1.out)
  have HS := Aside0.mk (disk_Size _ g _ 512 _ 8 (by decide +kernel) HD.out.1)
  have HR := Aside0.mk (records_none _ W.heap.size (sec S) (gets_of hx' HD.out) hN)
  have hmf : ∀ (fn : Fn) (first cap : Array Value) (w : World), (Instr.makeFunc fn first cap).run Tryz.prog w = .ok (.func fn first cap) w := fun _ _ _ _ => rfl
  clear hx hD hN hx'
  go_enter Tryz.func41, Tryz.ntmps41
  go_wp2_with (first | (go_at_call 63; refine HS.out.mono ?_; rintro e w' ⟨rfl, hw_⟩; obtain rfl := hw_.symm) | (go_at_call 64; refine HR.out.mono ?_; rintro e w3 ⟨rfl, hb⟩; have HB3 := Aside0.mk hb; have hx3 := pw_cell_below hb (cell_top W #[.pointer (some ⟨g, 0, none⟩)] 47 0); have hx4 : w3.cell? ⟨W.heap.size, 0, none⟩ = some (.pointer (some ⟨g, 0, none⟩)) := hx3; clear hb hx3))
  go_ret2
  have hb : Below W.heap.size W w3 := below_step HB1.out HB3.out
  exact ⟨w3.heap.size, rfl, hb.size, by rw [World.size_alloc]; omega, below_alloc hb _, Jn.new _ _ _ _ _, fun k => frozen_top _ _ _ _⟩
theorem journal_Open_one (W : World) (g s : Nat) (S r : List Int) (hr : r.length = 6) (hD : Dk W g s S) (h0 : Says (sec S 0) 0 true 6 r) (hN : ∀ i, 1 ≤ i → i < 8 → sum_Strip.f (sec S i) = some ([], false)) :
    Calls Tryz.prog 41 #[.pointer (some ⟨g, 0, none⟩)] W fun e w' => ∃ h v, e = .returned (.tuple #[.pointer (some ⟨h, 0, none⟩), .int .i64 0]) ∧ Below W.heap.size W w' ∧ Jn w' h g v 1 2 ∧ One w' v r ∧ W.heap.size ≤ h ∧ h < w'.heap.size := by
  have HB1 : Aside0 (Below W.heap.size W (W.alloc (.cells #[.pointer (some ⟨g, 0, none⟩)] 47))) := ⟨below_alloc (Below.refl _ _) _⟩
  have hx := cell_top W #[.pointer (some ⟨g, 0, none⟩)] 47 0
  have hx' : (W.alloc (.cells #[.pointer (some ⟨g, 0, none⟩)] 47)).cell? ⟨W.heap.size, 0, none⟩ = some (.pointer (some ⟨g, 0, none⟩)) := hx
  have HD := Aside0.mk (hD.kept HB1.out)
  have HS := Aside0.mk (disk_Size _ g _ 512 _ 8 (by decide +kernel) HD.out.1)
  have HR := Aside0.mk (records_one _ W.heap.size (sec S) r hr (gets_of hx' HD.out) h0 hN)
  have hmf : ∀ (fn : Fn) (first cap : Array Value) (w : World), (Instr.makeFunc fn first cap).run Tryz.prog w = .ok (.func fn first cap) w := fun _ _ _ _ => rfl
  clear hx hD hN hx' h0
  go_enter Tryz.func41, Tryz.ntmps41
  go_wp2_with (first | (go_at_call 63; refine HS.out.mono ?_; rintro e w' ⟨rfl, hw_⟩; obtain rfl := hw_.symm) | (go_at_call 64; refine HR.out.mono ?_; rintro e w3 ⟨v, rfl, hO, hb⟩; have HB3 := Aside0.mk hb; obtain ⟨lb, cl, A_, cA_, hv_, hO_⟩ := id hO; subst hv_; have HO := Aside0.mk hO; clear hO_; have hx3 := pw_cell_below hb (cell_top W #[.pointer (some ⟨g, 0, none⟩)] 47 0); have hx4 : w3.cell? ⟨W.heap.size, 0, none⟩ = some (.pointer (some ⟨g, 0, none⟩)) := hx3; clear hb hx3 hO))
  go_ret2
  have hb : Below W.heap.size W w3 := below_step HB1.out HB3.out
  exact ⟨w3.heap.size, _, rfl, below_alloc hb _, Jn.new _ _ _ _ _, One.below HO.out (below_alloc (Below.refl _ _) _), hb.size, by rw [World.size_alloc]; omega⟩
theorem journal_Len (W : World) (h g : Nat) (A : Option Addr) (n c : Nat) (a b : Int) (H : Jn W h g (.slice A n c) a b) : Calls Tryz.prog 42 #[.pointer (some ⟨h, 0, none⟩)] W fun e w' => e = .returned (.int .i64 n) ∧ w' = W := by
  have hs := journal_is W h _ H.1
  have h1 := H.2.1
  clear H
  go_enter Tryz.func42, Tryz.ntmps42
  go_wp2_with fail
  refine hs.mono ?_
  rintro e w' ⟨rfl, hw_⟩
  obtain rfl := hw_.symm
  go_wp2_with fail
  go_ret
  exact ⟨rfl, rfl⟩
theorem journal_Get (W : World) (h g : Nat) (v : Value) (a b : Int) (r : List Int) (hr : r.length < 140737488355328) (H : Jn W h g v a b) (hO : One W v r) : Calls Tryz.prog 43 #[.pointer (some ⟨h, 0, none⟩), .int .i64 0] W fun e w' => ∃ u c, e = .returned (.tuple #[.slice u r.length c, .bool true]) ∧ Kd.C (Kd.int .u8) w' u r.length r ∧ r.length ≤ c ∧ Below W.heap.size W w' := by
  obtain ⟨lb, c, A, cA, rfl, h1c, hlb, hcell, hle, hC⟩ := hO
  have hs := journal_Len W h g _ _ _ _ _ H
  have h1 := H.2.1
  have HCL := Aside0.mk (slices_Clone_byte_byte.calls A cA r r W hC hle (by unfold slices_Clone_byte_byte.f; rw [if_pos hr]))
  clear H hC
  go_enter Tryz.func43, Tryz.ntmps43
  go_wp2_with (first | (go_at_call 42; refine hs.mono ?_; rintro e w' ⟨rfl, hw_⟩; obtain rfl := hw_.symm) | (go_at_call 46; refine HCL.out.mono ?_; rintro e w' ⟨v, rfl, hR, hb⟩; obtain ⟨u, cu, rfl⟩ := Kd.R_slice hR; have HB := Aside0.mk hb; have HK := Aside0.mk (Kd.R_reads' hR); clear hb hR))
  go_ret2
  exact ⟨u, cu, rfl, HK.out.2.2, HK.out.2.1, HB.out⟩
end Go.Proofs.YtmajfcdfafhkfaaGreatDoor.H
namespace Go.Proofs.YtmajfcdfafhkfaaGreatDoor.H
open Go.RowKit Go.Proofs.YtmajfcdfafhkfaaGreatDoorW.PrintWords Go.Proofs.YtmajfcdfafhkfaaGreatDoorW.PrintLast Go.Proofs.YtmajfcdfafhkfaaGreatDoor.Leaf Go.Proofs.YtmajfcdfafhkfaaGreatDoor.P
set_option linter.unusedVariables false
set_option linter.unusedSimpArgs false
set_option maxHeartbeats 1000000
set_option maxRecDepth 100000
abbrev KW : Kd (Int × List Int) := Kd.pair (Kd.int .i64) (Kd.slice 5 (Kd.int .u8))
theorem info93 : (Tryz.prog.info? 93).map (fun i => (i.zero, i.size, i.bytes)) = some (some (.agg #[.int .i64 0, .slice none 0 0]), 2, 32) := by kernel_rfl
theorem lit2 {w : World} {p : Nat} {x y : Value} (h : w.heap[p]? = some (.cells #[x, y] 93 (0, 0))) (pr : Int × List Int) : ReadsRow (fun (q : Int × List Int) cs => q = pr ∧ cs = [x, y]) 2 w (some ⟨p, 0, none⟩) 1 [pr] := by
  refine ⟨rfl, by decide, fun _ => ⟨_, rfl, fun j q hj => ?_⟩⟩
  cases j with
  | zero =>
    cases hj
    refine ⟨[x, y], rfl, ⟨rfl, rfl⟩, fun i u hu => ?_⟩
    rw [addr_add]
    refine cell_of_block h ?_
    rw [show 0 + (0 * 2 + i) = i by omega, ← Array.getElem?_toList]
    exact hu
  | succ j => simp at hj
theorem disk_Write (W : World) (B g : Nat) (A : Option Addr) (c : Nat) (i : Nat) (hi : i < 8) (pv : Value) (ws : List (Int × List Int)) (ok : Nat → Prop) (Ab : Option Addr) (cb : Nat) (b : List Int) (hb64 : b.length = 64) (hws : ws.length ≤ 8)
    (h0 : W.cell? ⟨g, 0, none⟩ = some (.slice A 512 c)) (h1 : W.cell? ⟨g, 1, none⟩ = some pv) (hf : W.frozen? ⟨g, 1, none⟩ = false) (hg : g < W.heap.size) (hBg : B ≤ g) (hP : Kd.R KW 93 W B ok pv ws) (hpg : some g ≠ pv.ownBlock) (hpl : ∀ k, pv.ownBlock = some k → k < W.heap.size)
    (hok : ∀ k, W.heap.size ≤ k → ok k) (hokg : ∀ k, ok k → k ≠ g) (hC : Kd.C (Kd.int .u8) W Ab b.length b) (hcb : b.length ≤ cb) :
    Calls Tryz.prog 70 #[.pointer (some ⟨g, 0, none⟩), .int .i64 (i : Int), .slice Ab b.length cb] W fun e w' => ∃ v, e = .returned (.int .i64 0) ∧ w'.cell? ⟨g, 1, none⟩ = some v ∧ Kd.R KW 93 w' B ok v (ws ++ [((i : Int), b)]) ∧ Below B W w' ∧ (∀ k, k < W.heap.size → k ≠ g → some k ≠ pv.ownBlock → w'.heap[k]? = W.heap[k]?) ∧ w'.cell? ⟨g, 0, none⟩ = some (.slice A 512 c) ∧ w'.frozen? ⟨g, 1, none⟩ = false ∧ W.heap.size ≤ w'.heap.size := by
  have hh := disk_has W g A c i hi h0
  have HCL : Aside0 (∀ W', Below W.heap.size W W' → Calls Tryz.prog 46 #[.slice Ab b.length cb] W' fun e w' => ∃ v0_ : Value, e = .returned (v0_) ∧ Kd.R (Kd.int .u8) 5 w' W'.heap.size (fun _ => True) v0_ b ∧ Below W'.heap.size W' w') := ⟨fun W' hW => slices_Clone_byte_byte.calls Ab cb b b W' (Kd.C_below hC hW) hcb (by unfold slices_Clone_byte_byte.f; rw [if_pos (by rw [hb64]; decide)])⟩
  rw [hb64] at HCL ⊢
  have HP := Aside0.mk hP
  have HH := Aside0.mk (And.intro hpg (And.intro hpl (And.intro hok (And.intro hokg (And.intro hBg (And.intro hg hws))))))
  have HBL : Aside0 (B ≤ W.heap.size) := ⟨by omega⟩
  clear hC hP hpl hok hokg hBg hws
  go_enter Tryz.func70, Tryz.ntmps70
  go_wp2_with (first | (go_at_call 82; refine hh.mono ?_; rintro e w' ⟨rfl, hw_⟩; obtain rfl := hw_.symm))
  go_region_law (first | (go_simp; go_at_call 46; refine (HCL.out _ (by first | exact Below.refl _ _ | exact below_drew (Below.refl _ _))).mono ?_; rintro e w1 ⟨v, rfl, hR, hb⟩; obtain ⟨Ac, cc, hv⟩ := Kd.R_slice hR; rw [hb64] at hv; subst hv; have HR1 : Aside0 (Kd.R (Kd.int .u8) 5 w1 B (fun k => W.heap.size ≤ k) (.slice Ac 64 cc) b) := ⟨Kd.R_lower (Kd.R_mono (Kd.R_bound hR) (fun k h => h.2.1)) HBL.out⟩; have k1 := pw_cell_below hb h1; have k2 : ∀ o, (w1.alloc o).cell? ⟨g, 1, none⟩ = some pv := fun o => pw_cell_below (below_alloc (Below.refl _ _) o) k1; have HB1 : Aside0 (Below W.heap.size W w1) := ⟨by first | exact hb | exact below_step (below_drew (Below.refl _ _)) hb⟩; clear hR hb) | (refine Kd.R_append_rows_step KW (Rr := fun (q : Int × List Int) cs => q = ((i : Int), b) ∧ cs = [.int .i64 (i : Int), .slice Ac 64 cc]) (w0 := W) B rfl (.tmp 20) (.tmp 25) 88 93 (.agg #[.int .i64 0, .slice none 0 0]) 32 rfl Tryz.underlying88 info93 rfl (by decide) (by decide) pv ws [((i : Int), b)] _ 1 1 ok (fun k => W.heap.size ≤ k) rfl rfl ?aO ?aR ?aK ?aP ?aF ?aB ?aS ?aL ?_; (case aO => exact Kd.R_alloc (Kd.R_below HP.out HB1.out) _); (case aR => exact lit2 (heap_top _ _) _); (case aK => exact fun x cs h => by obtain ⟨rfl, rfl⟩ := h; exact ⟨[.int .i64 (i : Int)], [.slice Ac 64 cc], rfl, rfl, _, rfl, Kd.R_alloc HR1.out _⟩); (case aP => exact fun k hk => ⟨HH.out.2.2.1 k hk, fun e => absurd (HH.out.2.1 k e.symm) (by omega)⟩); (case aF => exact fun k hk => HH.out.2.2.1 k (by rw [World.size_alloc] at hk; have := HB1.out.size; omega)); (case aB => exact (below_alloc HB1.out _).mono HBL.out); (case aS => rw [World.size_alloc]; have := HB1.out.size; have := HBL.out; omega); (case aL => have := HH.out.2.2.2.2.2.2; omega); intro v1 w2 ho hb2 hgr hat; obtain ⟨Av, cv, hv1⟩ := Kd.R_slice ho; rw [show (ws ++ [((i : Int), b)]).length = ws.length + 1 by simp] at hv1; subst hv1; have q1 := cell_grown hgr (k2 _) HH.out.1; have q0 := cell_grown hgr (pw_cell_below (below_alloc HB1.out _) h0) HH.out.1; have qf : w2.frozen? ⟨g, 1, none⟩ = false := (hgr.frozen_far ⟨g, 1, none⟩ (Nat.lt_of_lt_of_le hg (below_alloc HB1.out _).size) HH.out.1).trans (((below_alloc HB1.out _).frozen (p := ⟨g, 1, none⟩) hg).trans hf); have HO := Aside0.mk ho; have HB2 := Aside0.mk hb2; have HGR := Aside0.mk (show ∀ k, k < W.heap.size → some k ≠ pv.ownBlock → w2.heap[k]? = W.heap[k]? from fun k hk hn => (hgr.block k (Nat.lt_of_lt_of_le hk (below_alloc HB1.out _).size) hn).trans ((below_alloc HB1.out _).block k hk)); have HSZ := Aside0.mk (show W.heap.size ≤ w2.heap.size from Nat.le_trans (below_alloc HB1.out _).size hgr.size); clear ho hb2 hgr hat))
  all_goals
    go_wp2_with fail
    go_ret
    exact ⟨_, rfl, World.cell?_setCell_same' _ _ _ (by rw [q1]; rfl), Kd.R_step HO.out (fun k hk _ => Below.heap_setCell _ _ _ _ (HH.out.2.2.2.1 k hk)), HB2.out.setCell HH.out.2.2.2.2.1 _, fun k hk hne hn => (Below.heap_setCell _ _ _ _ hne).trans (HGR.out k hk hn), (World.cell?_setCell_other _ _ _ _ (by intro h; cases h)).trans q0, by rw [World.frozen?_setCell]; exact qf, by rw [World.size_setCell]; exact HSZ.out⟩
end Go.Proofs.YtmajfcdfafhkfaaGreatDoor.H
namespace Go.Proofs.YtmajfcdfafhkfaaGreatDoor.P
open Go.Proofs.YtmajfcdfafhkfaaGreatDoor.Leaf
open Go.RowKit Go.Proofs.YtmajfcdfafhkfaaGreatDoorW.PrintWords Go.Proofs.YtmajfcdfafhkfaaGreatDoorW.PrintLast Go.Proofs.YtmajfcdfafhkfaaGreatDoorW.PrintMore
attribute [local go_sem] max2_int min2_int max_two min_two max_three min_three max_four min_four   -- for this text's walks alone
set_option linter.unusedVariables false
set_option linter.unusedSimpArgs false
def bits_Mul64.f (a0 : Int) (a1 : Int) : Option (Int × Int) := some (IntKind.u64.wrap ((IntKind.u64.wrap ((IntKind.u64.wrap ((a0 / 4294967296) * (a1 / 4294967296))) + ((IntKind.u64.wrap ((IntKind.u64.wrap ((a0 / 4294967296) * (Go.bits .and .u64 a1 4294967295))) + ((IntKind.u64.wrap ((Go.bits .and .u64 a0 4294967295) * (Go.bits .and .u64 a1 4294967295))) / 4294967296))) / 4294967296))) + ((IntKind.u64.wrap ((Go.bits .and .u64 (IntKind.u64.wrap ((IntKind.u64.wrap ((a0 / 4294967296) * (Go.bits .and .u64 a1 4294967295))) + ((IntKind.u64.wrap ((Go.bits .and .u64 a0 4294967295) * (Go.bits .and .u64 a1 4294967295))) / 4294967296))) 4294967295) + (IntKind.u64.wrap ((Go.bits .and .u64 a0 4294967295) * (a1 / 4294967296))))) / 4294967296)), IntKind.u64.wrap (a0 * a1))
set_option maxHeartbeats 8000000 in
set_option maxRecDepth 100000 in
theorem bits_Mul64.calls (a0 : Int) (a1 : Int) (r1 : Int) (r2 : Int) (w : World) (h : bits_Mul64.f a0 a1 = some (r1, r2)) :
  Calls Tryz.prog 113 #[.int .u64 a0, .int .u64 a1] w fun e w' => e = .returned (.tuple #[.int .u64 r1, .int .u64 r2]) ∧ Drawn0 w w' := by
 have H : (some (IntKind.u64.wrap ((IntKind.u64.wrap ((IntKind.u64.wrap ((a0 / 4294967296) * (a1 / 4294967296))) + ((IntKind.u64.wrap ((IntKind.u64.wrap ((a0 / 4294967296) * (Go.bits .and .u64 a1 4294967295))) + ((IntKind.u64.wrap ((Go.bits .and .u64 a0 4294967295) * (Go.bits .and .u64 a1 4294967295))) / 4294967296))) / 4294967296))) + ((IntKind.u64.wrap ((Go.bits .and .u64 (IntKind.u64.wrap ((IntKind.u64.wrap ((a0 / 4294967296) * (Go.bits .and .u64 a1 4294967295))) + ((IntKind.u64.wrap ((Go.bits .and .u64 a0 4294967295) * (Go.bits .and .u64 a1 4294967295))) / 4294967296))) 4294967295) + (IntKind.u64.wrap ((Go.bits .and .u64 a0 4294967295) * (a1 / 4294967296))))) / 4294967296)), IntKind.u64.wrap (a0 * a1))) = some (r1, r2) := h
 clear h
 simp only [Option.some.injEq, Prod.mk.injEq] at H
 obtain ⟨rfl, rfl⟩ := H
 go_enter Tryz.func113, Tryz.ntmps113
 go_wp2
 go_ret2
 exact ⟨by first | rfl | (simp; done) | (simp [*]; done), by repeat (first | exact Drawn0.refl _ | apply Drawn0.step)⟩
end Go.Proofs.YtmajfcdfafhkfaaGreatDoor.P
namespace Go.Proofs.YtmajfcdfafhkfaaGreatDoor.P
open Go.Proofs.YtmajfcdfafhkfaaGreatDoor.Leaf
open Go.RowKit Go.Proofs.YtmajfcdfafhkfaaGreatDoorW.PrintWords Go.Proofs.YtmajfcdfafhkfaaGreatDoorW.PrintLast Go.Proofs.YtmajfcdfafhkfaaGreatDoorW.PrintMore
attribute [local go_sem] max2_int min2_int max_two min_two max_three min_three max_four min_four   -- for this text's walks alone
set_option linter.unusedVariables false
set_option linter.unusedSimpArgs false
def bits_Mul.f (a0 : Int) (a1 : Int) : Option (Int × Int) := (bits_Mul64.f a0 a1).bind fun bt101 => (some (bt101.1, bt101.2))
set_option maxHeartbeats 8000000 in
set_option maxRecDepth 100000 in
theorem bits_Mul.calls (a0 : Int) (a1 : Int) (r1 : Int) (r2 : Int) (w : World) (h : bits_Mul.f a0 a1 = some (r1, r2)) :
  Calls Tryz.prog 92 #[.int .u64 a0, .int .u64 a1] w fun e w' => e = .returned (.tuple #[.int .u64 r1, .int .u64 r2]) ∧ Drawn0 w w' := by
 have H : ((bits_Mul64.f a0 a1).bind fun bt101 => (some (bt101.1, bt101.2))) = some (r1, r2) := h
 clear h
 replace H := Option.bind_eq_some_iff.mp H
 obtain ⟨⟨t101, t102⟩, A30, H⟩ := H
 replace H : (some (t101, t102)) = some (r1, r2) := H
 have A3 := Aside0.mk A30
 clear A30
 simp only [Option.some.injEq, Prod.mk.injEq] at H
 obtain ⟨rfl, rfl⟩ := H
 go_enter Tryz.func92, Tryz.ntmps92
 go_wp2_with (first | ((with_reducible refine gate_callee (f := 113) rfl ?_); refine goesL_ (some 25) rfl rfl Tryz.func113 (by kernel_rfl) rfl #[.int .u64 a0, .int .u64 a1] rfl (by (try simp only [List.map_toArray, List.map_cons, List.map_nil]); first | done | rfl | (simp only [List.length_drop, List.length_take]; rfl)) ?_; (with_reducible refine (bits_Mul64.calls a0 a1 t101 t102 _ A3.out).mono ?_); rintro e w' ⟨rfl, ⟨nd, rfl⟩⟩; refine ⟨_, rfl, ?_⟩))
 go_ret2
 exact ⟨by first | rfl | (simp; done) | (simp [*]; done), by repeat (first | exact Drawn0.refl _ | apply Drawn0.step)⟩
end Go.Proofs.YtmajfcdfafhkfaaGreatDoor.P
namespace Go.Proofs.YtmajfcdfafhkfaaGreatDoor.H
open Go.RowKit Go.Proofs.YtmajfcdfafhkfaaGreatDoorW.PrintWords Go.Proofs.YtmajfcdfafhkfaaGreatDoorW.PrintLast Go.Proofs.YtmajfcdfafhkfaaGreatDoor.Leaf Go.Proofs.YtmajfcdfafhkfaaGreatDoor.P
set_option linter.unusedVariables false
set_option linter.unusedSimpArgs false
set_option maxHeartbeats 1000000
set_option maxRecDepth 100000
theorem one_src {w : World} {x k : Nat} {v : Value} (h : w.cell? ⟨x, k, none⟩ = some v) (j : Nat) (u : Value) (hj : [v][j]? = some u) : w.cell? ((⟨x, k, none⟩ : Addr).add j) = some u := by
  cases j with
  | zero =>
    cases hj
    rw [addr_add]
    exact h
  | succ j => simp at hj
theorem one_bool {b : Bool} (v : Value) (hv : v ∈ [Value.bool b]) : v.oneCell' = true := by
  rw [List.mem_singleton.1 hv]
  rfl
theorem repeat_one (W : World) (x : Nat) (hx : W.cell? ⟨x, 0, none⟩ = some (.bool true)) :
    Calls Tryz.prog 85 #[.slice (some ⟨x, 0, none⟩) 1 1, .int .i64 1] W fun e w' => ∃ r, e = .returned (.slice (some ⟨r, 0, none⟩) 1 1) ∧ W.heap.size ≤ r ∧ w'.heap[r]? = some (.cells #[.bool true] 4 (0, 0)) ∧ Below W.heap.size W w' := by
  have hm : bits_Mul.f 1 1 = some (0, 1) := by decide +kernel
  have info4 : (Tryz.prog.info? 4).map (fun i => (i.zero, i.size, i.bytes)) = some (some (.bool false), 1, 1) := by kernel_rfl
  have hmk : ∀ W : World, (Instr.makeSlice 91 (.int .i64 1) (.int .i64 1)).run Tryz.prog W = .ok (.slice (some ⟨W.heap.size, 0, none⟩) 1 1) (W.alloc (.cells #[.bool false] 4)) := by
    have h0 := print_make_of (P := Tryz.prog) 91 4 (.bool false) 1 Tryz.underlying91 info4 rfl (by decide) 1 (by decide)
    have hmc : madeCells #[Value.bool false] 1 = #[.bool false] := by
      apply Array.ext
      · simp [madeCells]
      · intro i h1 h2
        have h3 : i < 1 := h2
        obtain rfl : i = 0 := by omega
        simp [madeCells, Nat.mod_one]
    simp only [hmc] at h0
    exact h0
  obtain ⟨i0, hi, hz⟩ := Option.map_eq_some_iff.1 info4
  simp only [Prod.mk.injEq] at hz
  have hsz : (Tryz.prog.info? 4).map (·.size) = some 1 := by rw [hi]; exact congrArg some hz.2.1
  have HSZ := Aside0.mk hsz
  clear info4 hi hz hsz
  go_enter Tryz.func85, Tryz.ntmps85
  go_upto_region 7 with (first | (go_at_call 92; refine (bits_Mul.calls 1 1 0 1 _ hm).mono ?_; rintro e w' ⟨rfl, ⟨nd, rfl⟩⟩))
  have HRB : Aside0 (((W.drewN nd).alloc (Obj.cells #[Value.bool false] 4)).heap[W.heap.size]? = some (.cells #[.bool false] 4 (0, 0))) := ⟨heap_top (W.drewN nd) _⟩
  have HB : Aside0 (Below W.heap.size W ((W.drewN nd).alloc (Obj.cells #[Value.bool false] 4))) := ⟨below_alloc (pw_below_drewN (Below.refl _ _) nd) _⟩
  have HX := Aside0.mk (pw_cell_below HB.out hx)
  clear hx
  generalize (W.drewN nd).alloc (Obj.cells #[Value.bool false] 4) = W1 at *
  go_wp2_with (first | ((with_reducible refine gate_builtin (b := .copy) (xs := #[.tmp 31, .tmp 32]) rfl ?_);  refine wpList_copy_own rfl (.tmp 31) (.tmp 32) 91 91 rfl 4 Tryz.underlying91 HSZ.out W.heap.size 0 1 1 ⟨x, 0, none⟩ 1 1 rfl rfl #[.bool false] 4 HRB.out [.bool true] rfl (one_src HX.out) (by decide) one_bool ?_; have HRB2 : Aside0 ((W1.setRow W.heap.size #[.bool true]).heap[W.heap.size]? = some (.cells #[.bool true] 4 (0, 0))) := ⟨setRow_heap _ _ _ _ _ _ HRB.out⟩; have HB2 : Aside0 (Below W.heap.size W (W1.setRow W.heap.size #[.bool true])) := ⟨below_setRow HB.out (Nat.le_refl _) _⟩; change wpList _ _ _ _ _ (W1.setRow W.heap.size #[.bool true]); generalize W1.setRow W.heap.size #[.bool true] = W2 at *; clear HX HRB HB))
  go_loopg [8] 1 (fun gg s8 wr => s8 = .int .i64 1 ∧ Aside0 (wr.heap[W.heap.size]? = some (.cells #[.bool true] 4 (0, 0))) ∧ Aside0 (Below W.heap.size W wr))
  case atStart => exact ⟨rfl, HRB2, HB2⟩
  case round =>
    obtain ⟨rfl, HRB, HB⟩ := hrel
    go_wp2_with fail
    go_ret
    exact ⟨_, rfl, Nat.le_refl _, HRB.out, HB.out⟩
end Go.Proofs.YtmajfcdfafhkfaaGreatDoor.H
namespace Go.Proofs.YtmajfcdfafhkfaaGreatDoor.H
open Go.RowKit Go.Proofs.YtmajfcdfafhkfaaGreatDoorW.PrintWords Go.Proofs.YtmajfcdfafhkfaaGreatDoorW.PrintLast Go.Proofs.YtmajfcdfafhkfaaGreatDoor.Leaf Go.Proofs.YtmajfcdfafhkfaaGreatDoor.P
set_option linter.unusedVariables false
set_option linter.unusedSimpArgs false
set_option maxHeartbeats 1000000
set_option maxRecDepth 100000
/-- A sector put into a disk's bytes. -/
def putS (S : List Int) (a : Nat) (b : List Int) : List Int := S.take (a * 64) ++ (b ++ S.drop (a * 64 + b.length))
theorem putS_length {S : List Int} (h : S.length = 512) {a : Nat} (ha : a < 8) {b : List Int} (hb : b.length = 64) : (putS S a b).length = 512 := by
  unfold putS
  rw [List.length_append, List.length_append, List.length_take, List.length_drop, h, hb]; omega
theorem Sf.put {w : World} {s : Nat} {S b : List Int} {cells : Array Value} {a : Nat} (hS : S.length = 512) (h : w.heap[s]? = some (.cells cells 5 (0, 0))) (hc : cells.toList = nums .u8 S) (hb : b.length = 64) (ha : a < 8) :
    Sf (w.setRow s (cells.toList.take (a * 64) ++ (nums .u8 b ++ cells.toList.drop (a * 64 + (nums .u8 b).length))).toArray) s (putS S a b) := by
  refine ⟨putS_length hS ha hb, _, setRow_heap _ _ _ _ _ _ h, ?_⟩
  rw [hc]
  simp [nums, putS, List.map_take, List.map_drop]
theorem bytes_src {w : World} {A : Addr} {n : Nat} {b : List Int} (h : Kd.C (Kd.int .u8) w (some A) n b) (j : Nat) (v : Value) (hj : (nums .u8 b)[j]? = some v) : w.cell? (A.add j) = some v := by
  unfold nums at hj
  rw [List.getElem?_map] at hj
  obtain ⟨x, hx, rfl⟩ := Option.map_eq_some_iff.1 hj
  have hlt := (List.getElem?_eq_some_iff.1 hx).1
  have hn := h.1
  obtain ⟨ad, e, hc⟩ := h.2.2 (by omega)
  obtain ⟨c, hs, rfl, hcell⟩ := hc j x hx
  have h0 := hcell 0 _ rfl
  cases e
  rw [show j * (Kd.int .u8).sz + 0 = j from by show j * 1 + 0 = j; omega] at h0
  exact h0
theorem nums_one {b : List Int} (v : Value) (hv : v ∈ nums .u8 b) : v.oneCell' = true := by
  unfold nums at hv
  obtain ⟨x, _, rfl⟩ := List.mem_map.1 hv
  rfl
/-- What a crash finds: one write pending, kept. -/
structure Cr (W : World) (g s pb cp r q0 c0 a0 : Nat) (S b0 : List Int) : Prop where
  d0 : W.cell? ⟨g, 0, none⟩ = some (.slice (some ⟨s, 0, none⟩) 512 512)
  d1 : W.cell? ⟨g, 1, none⟩ = some (.slice (some ⟨pb, 0, none⟩) 1 cp)
  df : W.frozen? ⟨g, 1, none⟩ = false
  sf : Sf W s S
  p0 : W.cell? ⟨pb, 0, none⟩ = some (.int .i64 (a0 : Int))
  p1 : W.cell? ⟨pb, 1, none⟩ = some (.slice (some ⟨q0, 0, none⟩) 64 c0)
  r0 : W.cell? ⟨r, 0, none⟩ = some (.bool true)
  C0 : Kd.C (Kd.int .u8) W (some ⟨q0, 0, none⟩) 64 b0
  ha0 : a0 < 8
  ns : g ≠ s ∧ pb ≠ s ∧ r ≠ s ∧ q0 ≠ s
  nl : g < W.heap.size ∧ pb < W.heap.size ∧ r < W.heap.size ∧ q0 < W.heap.size
theorem Cr.step {W wr : World} {g s pb cp r q0 c0 a0 : Nat} {S b0 T : List Int} (h : Cr W g s pb cp r q0 c0 a0 S b0) (hk : ∀ k, k < W.heap.size → k ≠ s → wr.heap[k]? = W.heap[k]?) (hz : W.heap.size ≤ wr.heap.size) (hT : Sf wr s T) : Cr wr g s pb cp r q0 c0 a0 T b0 where
  d0 := (World.cell?_of_block (a := ⟨g, 0, none⟩) (hk g h.nl.1 h.ns.1)).trans h.d0
  d1 := (World.cell?_of_block (a := ⟨g, 1, none⟩) (hk g h.nl.1 h.ns.1)).trans h.d1
  df := (World.frozen?_of_block (a := ⟨g, 1, none⟩) (hk g h.nl.1 h.ns.1)).trans h.df
  sf := hT
  p0 := (World.cell?_of_block (a := ⟨pb, 0, none⟩) (hk pb h.nl.2.1 h.ns.2.1)).trans h.p0
  p1 := (World.cell?_of_block (a := ⟨pb, 1, none⟩) (hk pb h.nl.2.1 h.ns.2.1)).trans h.p1
  r0 := (World.cell?_of_block (a := ⟨r, 0, none⟩) (hk r h.nl.2.2.1 h.ns.2.2.1)).trans h.r0
  C0 := C_block h.C0 (hk q0 h.nl.2.2.2 h.ns.2.2.2)
  ha0 := h.ha0
  ns := h.ns
  nl := by have := h.nl; omega
/-- What stands while a crash goes on. -/
def Kp (W wr : World) (g s : Nat) : Prop := W.heap.size ≤ wr.heap.size ∧ (∀ B, B ≤ g → B ≤ s → B ≤ W.heap.size → Below B W wr) ∧ ∀ k, k < W.heap.size → k ≠ g → k ≠ s → wr.heap[k]? = W.heap[k]?
theorem Kp.refl (W : World) (g s : Nat) : Kp W W g s := ⟨Nat.le_refl _, fun B _ _ _ => Below.refl _ _, fun _ _ _ _ => rfl⟩
theorem Kp.alloc {W wr : World} {g s : Nat} (h : Kp W wr g s) (o : Obj) : Kp W (wr.alloc o) g s :=
  ⟨Nat.le_trans h.1 (by rw [World.size_alloc]; omega), fun B h1 h2 h3 => (h.2.1 B h1 h2 h3).alloc (Nat.le_trans h3 h.1) _, fun k hk h1 h2 => (Below.heap_alloc _ _ _ (Nat.lt_of_lt_of_le hk h.1)).trans (h.2.2 k hk h1 h2)⟩
theorem Kp.drew {W wr : World} {g s : Nat} (h : Kp W wr g s) : Kp W wr.drew g s := ⟨h.1, fun B h1 h2 h3 => (h.2.1 B h1 h2 h3).drew, h.2.2⟩
theorem Kp.put {W wr : World} {g s : Nat} (h : Kp W wr g s) (cs : Array Value) : Kp W (wr.setRow s cs) g s :=
  ⟨Nat.le_trans h.1 (below_setRow (Below.refl 0 wr) (Nat.zero_le _) _).size, fun B h1 h2 h3 => below_setRow (h.2.1 B h1 h2 h3) h2 _, fun k hk h1 h2 => (setRow_other wr s k _ h2).trans (h.2.2 k hk h1 h2)⟩
theorem Kp.set {W wr : World} {g s : Nat} (h : Kp W wr g s) (c : Nat) (u : Value) : Kp W (wr.setCell ⟨g, c, none⟩ u) g s :=
  ⟨by rw [World.size_setCell]; exact h.1, fun B h1 h2 h3 => (h.2.1 B h1 h2 h3).setCell h1 _, fun k hk h1 h2 => (Below.heap_setCell _ _ _ _ h1).trans (h.2.2 k hk h1 h2)⟩
theorem disk_Crash_none (W : World) (g s : Nat) (S : List Int) (hD : Dk W g s S) (hf : W.frozen? ⟨g, 1, none⟩ = false) (hgs : g ≠ s) :
    Calls Tryz.prog 20 #[.pointer (some ⟨g, 0, none⟩), .slice none 0 0] W fun e w' => e = .returned (.tuple #[]) ∧ Dk w' g s S ∧ Kp W w' g s := by
  have HD := Aside0.mk hD
  have d1 := hD.2.1
  go_enter Tryz.func20, Tryz.ntmps20
  go_wp2_with fail
  go_loopg [13] 1 (fun gg s13 wr => s13 = .int .i64 0 ∧ wr = W)
  case atStart => exact ⟨rfl, rfl⟩
  case round =>
    obtain ⟨rfl, rfl⟩ := hrel
    go_wp2_with fail
    go_end0
    exact ⟨rfl, ⟨(World.cell?_setCell_other _ _ _ _ (by intro h; cases h)).trans HD.out.1, World.cell?_setCell_same' _ _ _ (by rw [d1]; rfl), ⟨HD.out.2.2.1, by
      obtain ⟨cells, h1, h2⟩ := HD.out.2.2.2
      exact ⟨cells, by rw [Below.heap_setCell _ _ _ _ (by intro e; exact hgs e.symm)]; exact h1, h2⟩⟩⟩, (Kp.refl _ _ _).set _ _⟩
theorem disk_Crash (W : World) (g s pb cp r q0 c0 a0 : Nat) (S b0 : List Int) (h : Cr W g s pb cp r q0 c0 a0 S b0) :
    Calls Tryz.prog 20 #[.pointer (some ⟨g, 0, none⟩), .slice (some ⟨r, 0, none⟩) 1 1] W fun e w' => e = .returned (.tuple #[]) ∧ Dk w' g s (putS S a0 b0) ∧ w'.frozen? ⟨g, 1, none⟩ = false ∧ Kp W w' g s := by
  have d0 := h.d0
  have d1 := h.d1
  have HH := Aside0.mk h
  have hsz : (Tryz.prog.info? 5).map (·.size) = some 1 := by
    obtain ⟨i0, hi, hz⟩ := Option.map_eq_some_iff.1 P.info5
    simp only [Prod.mk.injEq] at hz
    rw [hi]
    exact congrArg some hz.2.1
  have HSZ := Aside0.mk hsz
  clear h hsz
  go_enter Tryz.func20, Tryz.ntmps20
  go_wp2_with fail
  go_loopg [13] 2 (fun gg s13 wr => ∃ (i : Nat) (T : List Int), s13 = .int .i64 (i : Int) ∧ 1 - i ≤ gg ∧ Aside0 (Cr wr g s pb cp r q0 c0 a0 T b0) ∧ Aside0 (Kp W wr g s) ∧ ((i = 0 ∧ T = S) ∨ (i = 1 ∧ T = putS S a0 b0)))
  case atStart => exact ⟨0, S, rfl, by omega, HH, ⟨Kp.refl _ _ _⟩, Or.inl ⟨rfl, rfl⟩⟩
  case round =>
    obtain ⟨i, T, rfl, hg, HC, HB, hst⟩ := hrel
    clear d0 d1
    rcases hst with ⟨rfl, hT_⟩ | ⟨rfl, hT_⟩ <;> (rw [hT_] at HC; clear hT_)
    · have p0 := HC.out.p0
      have p1 := HC.out.p1
      have HCA : Aside0 (∀ o, Cr (wr.alloc o) g s pb cp r q0 c0 a0 S b0) := ⟨fun o => Cr.step HC.out (fun k hk _ => Below.heap_alloc _ _ _ hk) (by rw [World.size_alloc]; omega) (HC.out.sf.kept (below_alloc (Below.refl _ _) _))⟩
      have rr : ∀ o, (wr.alloc o).cell? ⟨r, 0, none⟩ = some (.bool true) := fun o => (HCA.out o).r0
      have HBA : Aside0 (∀ o, Kp W (wr.alloc o) g s) := ⟨fun o => HB.out.alloc o⟩
      go_upto_region 5 with (fail)
      have t0 := cell_top wr #[.int .i64 (a0 : Int), .slice (some ⟨q0, 0, none⟩) 64 c0] 93 0
      have t1 := cell_top wr #[.int .i64 (a0 : Int), .slice (some ⟨q0, 0, none⟩) 64 c0] 93 1
      have t0' : (wr.alloc (.cells #[.int .i64 (a0 : Int), .slice (some ⟨q0, 0, none⟩) 64 c0] 93)).drew.cell? ⟨wr.heap.size, 0, none⟩ = some (.int .i64 (a0 : Int)) := t0
      have t1' : (wr.alloc (.cells #[.int .i64 (a0 : Int), .slice (some ⟨q0, 0, none⟩) 64 c0] 93)).drew.cell? ⟨wr.heap.size, 1, none⟩ = some (.slice (some ⟨q0, 0, none⟩) 64 c0) := t1
      have HC2 : Aside0 (Cr (wr.alloc (.cells #[.int .i64 (a0 : Int), .slice (some ⟨q0, 0, none⟩) 64 c0] 93)).drew g s pb cp r q0 c0 a0 S b0) := ⟨Cr.step (HCA.out _) (fun _ _ _ => rfl) (Nat.le_refl _) ((HCA.out _).sf)⟩
      have HB2 : Aside0 (Kp W (wr.alloc (.cells #[.int .i64 (a0 : Int), .slice (some ⟨q0, 0, none⟩) 64 c0] 93)).drew g s) := ⟨(HBA.out _).drew⟩
      clear HCA HBA rr t0 t1 p0 p1 HC HB
      generalize hw3 : (wr.alloc (.cells #[.int .i64 (a0 : Int), .slice (some ⟨q0, 0, none⟩) 64 c0] 93)) = w0 at *
      have t0 : w0.cell? ⟨wr.heap.size, 0, none⟩ = some (.int .i64 (a0 : Int)) := t0'
      have t1 : w0.cell? ⟨wr.heap.size, 1, none⟩ = some (.slice (some ⟨q0, 0, none⟩) 64 c0) := t1'
      obtain ⟨hT, cells, hcells, hlist⟩ := HC2.out.sf
      have hsec := disk_sector w0.drew g s 512 (by decide) a0 HC2.out.ha0 HC2.out.d0
      have hb64 : b0.length = 64 := HC2.out.C0.1
      have hn64 : (nums .u8 b0).length = 64 := by rw [nums_length]; exact hb64
      have hcs : cells.size = 512 := by rw [← Array.length_toList, hlist, nums_length, hT]
      have HS4 := Aside0.mk (Sf.put hT hcells hlist hb64 HC2.out.ha0)
      have HB4 : Aside0 (Kp W (w0.drew.setRow s (cells.toList.take (a0 * 64) ++ (nums .u8 b0 ++ cells.toList.drop (a0 * 64 + (nums .u8 b0).length))).toArray) g s) := ⟨HB2.out.put _⟩
      have HZ4 : Aside0 (w0.drew.heap.size ≤ (w0.drew.setRow s (cells.toList.take (a0 * 64) ++ (nums .u8 b0 ++ cells.toList.drop (a0 * 64 + (nums .u8 b0).length))).toArray).heap.size) := ⟨(below_setRow (Below.refl 0 w0.drew) (Nat.zero_le _) _).size⟩
      have HC4 := Aside0.mk (Cr.step HC2.out (fun k _ hk => setRow_other w0.drew s k _ hk) HZ4.out HS4.out)
      have hcp : (Builtin.copy_ #[23, 23] 3 #[.slice (some ⟨s, a0 * 64, none⟩) 64 (512 - a0 * 64), .slice (some ⟨q0, 0, none⟩) 64 c0]).run Tryz.prog w0.drew = .ok (goInt (nums .u8 b0).length) (w0.drew.setRow s (cells.toList.take (a0 * 64) ++ (nums .u8 b0 ++ cells.toList.drop (a0 * 64 + (nums .u8 b0).length))).toArray) := by
        rw [← List.append_assoc]
        exact run_copy_row (P := Tryz.prog) w0.drew 23 23 3 5 s (a0 * 64) 64 (512 - a0 * 64) ⟨q0, 0, none⟩ 64 c0 cells 5 (nums .u8 b0) Tryz.underlying23 HSZ.out hcells (by rw [hn64]; rfl) (bytes_src HC2.out.C0) (by rw [hn64, hcs]; have := HC2.out.ha0; omega) nums_one
      clear HZ4 HS4
      generalize w0.drew.setRow s (cells.toList.take (a0 * 64) ++ (nums .u8 b0 ++ cells.toList.drop (a0 * 64 + (nums .u8 b0).length))).toArray = w4 at *
      have HSE := Aside0.mk hsec
      clear hT hcells hlist hb64 hcs HC2 HB2 hsec t0' t1'
      go_region_with (first | (go_at_call 49; refine HSE.out.mono ?_; rintro e w' ⟨rfl, hw_⟩; obtain rfl := hw_.symm))
      all_goals
        go_wp2_with fail
        go_roundg 0
        case measure => omega
        case rel => exact ⟨1, _, by go_num, by omega, HC4, HB4, Or.inr ⟨rfl, rfl⟩⟩
    · have d1 := HC.out.d1
      have df := HC.out.df
      go_wp2_with fail
      go_end0
      exact ⟨rfl, ⟨(World.cell?_setCell_other _ _ _ _ (by intro h; cases h)).trans HC.out.d0, World.cell?_setCell_same' _ _ _ (by rw [d1]; rfl), ⟨HC.out.sf.1, by
        obtain ⟨cells, h1, h2⟩ := HC.out.sf.2
        exact ⟨cells, by rw [Below.heap_setCell _ _ _ _ (by intro e; exact HC.out.ns.1 e.symm)]; exact h1, h2⟩⟩⟩, by rw [World.frozen?_setCell]; exact df, HB.out.set _ _⟩
end Go.Proofs.YtmajfcdfafhkfaaGreatDoor.H
namespace Go.Proofs.YtmajfcdfafhkfaaGreatDoor.Wr
set_option linter.unusedVariables false
set_option linter.unusedSimpArgs false
/-- A number's bytes. -/
def uv (n : Nat) : List Int := if h : n < 128 then [(n : Int)] else ((n % 128 + 128 : Nat) : Int) :: uv (n / 128)
  termination_by n
  decreasing_by omega
/-- The next number of bytes, k of whose bytes are read. -/
def peekN : List Int → Nat → Option (Nat × Nat)
  | [], _ => none
  | c :: t, k => if (k = 9 ∧ 1 < c) ∨ (c = 0 ∧ 0 < k) then none else if c < 128 then some (c.toNat, 1) else (peekN t (k + 1)).map fun p => (c.toNat - 128 + 128 * p.1, p.2 + 1)
def Byte (l : List Int) : Prop := ∀ c ∈ l, 0 ≤ c ∧ c < 256
theorem Byte.app {a b : List Int} (ha : Byte a) (hb : Byte b) : Byte (a ++ b) := fun c hc => (List.mem_append.1 hc).elim (ha c) (hb c)
theorem Byte.drop {a : List Int} (h : Byte a) (n : Nat) : Byte (a.drop n) := fun c hc => h c (List.mem_of_mem_drop hc)
theorem Byte.take {a : List Int} (h : Byte a) (n : Nat) : Byte (a.take n) := fun c hc => h c (List.mem_of_mem_take hc)
theorem uv_byte (n : Nat) : Byte (uv n) := by
  induction n using Nat.strongRecOn with
  | ind n ih =>
    unfold uv
    split
    · intro c hc; simp only [List.mem_singleton] at hc; omega
    · intro c hc
      rcases List.mem_cons.1 hc with rfl | h
      · omega
      · exact ih _ (by omega) c h
theorem peekN_le : ∀ (l : List Int) (k n j : Nat), peekN l k = some (n, j) → j ≤ l.length ∧ 0 < j
  | [], k, n, j, h => by simp [peekN] at h
  | c :: t, k, n, j, h => by
    simp only [peekN] at h
    split at h
    · cases h
    · split at h
      · cases h; simp
      · cases e : peekN t (k + 1) with
        | none => rw [e] at h; cases h
        | some p =>
          rw [e] at h
          cases h
          have := peekN_le t (k + 1) p.1 p.2 e
          simp only [List.length_cons]; omega
/-- What is read is written so. -/
theorem peekN_uv : ∀ (l : List Int) (k n j : Nat), Byte l → peekN l k = some (n, j) → l.take j = uv n ∧ (0 < k → 0 < n)
  | [], k, n, j, hl, h => by simp [peekN] at h
  | c :: t, k, n, j, hl, h => by
    have hc := hl c (List.mem_cons_self ..)
    simp only [peekN] at h
    split at h
    · cases h
    · rename_i hz
      split at h
      · rename_i h1
        cases h
        refine ⟨?_, fun hk => ?_⟩
        · unfold uv
          rw [dif_pos (by omega), Int.toNat_of_nonneg hc.1]; rfl
        · rcases Nat.eq_zero_or_pos c.toNat with e | e
          · exact absurd (Or.inr ⟨by omega, hk⟩) hz
          · exact e
      · rename_i h1
        cases e : peekN t (k + 1) with
        | none => rw [e] at h; cases h
        | some p =>
          rw [e] at h
          cases h
          obtain ⟨i1, i2⟩ := peekN_uv t (k + 1) p.1 p.2 (fun x hx => hl x (List.mem_cons_of_mem _ hx)) e
          have i3 := i2 (by omega)
          refine ⟨?_, fun _ => by omega⟩
          unfold uv
          rw [dif_neg (by omega), List.take_succ_cons, i1]
          have e1 : (c.toNat - 128 + 128 * p.1) / 128 = p.1 := by omega
          have e2 : (c.toNat - 128 + 128 * p.1) % 128 = c.toNat - 128 := by omega
          rw [e1, e2]
          congr 1
          omega
/-- What is written is read again. -/
theorem peekN_of_uv (n : Nat) : ∀ (k : Nat) (rest : List Int), (0 < k → 0 < n) → k ≤ 8 → n * 128 ^ k < 2 ^ 63 → peekN (uv n ++ rest) k = some (n, (uv n).length) := by
  induction n using Nat.strongRecOn with
  | ind n ih =>
    intro k rest hk h8 hn
    unfold uv
    by_cases h : n < 128
    · rw [dif_pos h]
      simp only [List.singleton_append, peekN, List.length_singleton]
      rw [if_neg (by omega), if_pos (by omega)]
      simp
    · rw [dif_neg h]
      have hk7 : k ≤ 7 := by
        rcases (by omega : k ≤ 7 ∨ k = 8) with h | rfl
        · exact h
        · omega
      have := ih (n / 128) (by omega) (k + 1) rest (fun _ => by omega) (by omega) (by
        rw [Nat.pow_succ, Nat.mul_comm (128 ^ k), ← Nat.mul_assoc]
        exact Nat.lt_of_le_of_lt (Nat.mul_le_mul_right _ (Nat.div_mul_le_self _ _)) hn)
      simp only [List.cons_append, peekN, List.length_cons]
      rw [if_neg (by omega), if_neg (by omega), this]
      simp only [Option.map_some, Option.some.injEq, Prod.mk.injEq, and_true]
      omega
/-- An act: its key's bytes, whether it sets, its data. -/
abbrev Act := List Int × Bool × List Int
def may (a : Act) : Prop := 1 ≤ a.1.length ∧ a.1.length ≤ 64 ∧ a.2.2.length ≤ 4096 ∧ (a.2.1 = true ∨ a.2.2.length = 0)
instance (a : Act) : Decidable (may a) := inferInstanceAs (Decidable (_ ∧ _))
/-- An act's bytes. -/
def enc1 (a : Act) : List Int := uv a.1.length ++ (a.1 ++ if a.2.1 then 1 :: (uv a.2.2.length ++ a.2.2) else [0])
def encs (l : List Act) : List Int := uv l.length ++ l.flatMap enc1
/-- A number of at most so much, and what is left. -/
def num (m : Nat) (b : List Int) : Option (Nat × List Int) := (peekN b 0).bind fun p => if p.1 ≤ m then some (p.1, b.drop p.2) else none
def bts (m : Nat) (b : List Int) : Option (List Int × List Int) := (num m b).bind fun p => if p.1 ≤ p.2.length then some (p.2.take p.1, p.2.drop p.1) else none
def dec1 (b : List Int) : Option (Act × List Int) :=
  (bts 64 b).bind fun k => (num 1 k.2).bind fun s => if s.1 = 1 then (bts 4096 s.2).bind fun d => some ((k.1, true, d.1), d.2) else some ((k.1, false, []), s.2)
def decL : Nat → List Int → Option (List Act × List Int)
  | 0, b => some ([], b)
  | n + 1, b => (dec1 b).bind fun a => if may a.1 then (decL n a.2).map fun r => (a.1 :: r.1, r.2) else none
def dec (b : List Int) : Option (List Act) := (num 256 b).bind fun p => (decL p.1 p.2).bind fun r => if r.2 = [] then some r.1 else none
theorem num_some {m : Nat} {b : List Int} {n : Nat} {r : List Int} (hb : Byte b) (h : num m b = some (n, r)) : n ≤ m ∧ b = uv n ++ r ∧ Byte r := by
  unfold num at h
  cases e : peekN b 0 with
  | none => rw [e] at h; cases h
  | some p =>
    rw [e] at h
    simp only [Option.bind_some] at h
    split at h
    · rename_i hm
      cases h
      exact ⟨hm, by rw [← (peekN_uv b 0 p.1 p.2 hb e).1, List.take_append_drop], hb.drop _⟩
    · cases h
theorem num_uv (m n : Nat) (r : List Int) (hn : n ≤ m) (hm : m < 2 ^ 63) : num m (uv n ++ r) = some (n, r) := by
  unfold num
  rw [peekN_of_uv n 0 r (by omega) (by omega) (by omega)]
  simp only [Option.bind_some]
  rw [if_pos hn, List.drop_left]
theorem bts_some {m : Nat} {b k r : List Int} (hb : Byte b) (h : bts m b = some (k, r)) : k.length ≤ m ∧ b = uv k.length ++ (k ++ r) ∧ Byte k ∧ Byte r := by
  unfold bts at h
  cases e : num m b with
  | none => rw [e] at h; cases h
  | some p =>
    rw [e] at h
    simp only [Option.bind_some] at h
    split at h
    · rename_i hm
      cases h
      obtain ⟨h1, h2, h3⟩ := num_some hb e
      rw [List.length_take, Nat.min_eq_left hm]
      exact ⟨h1, by rw [List.take_append_drop]; exact h2, h3.take _, h3.drop _⟩
    · cases h
theorem bts_uv (m : Nat) (k r : List Int) (hn : k.length ≤ m) (hm : m < 2 ^ 63) : bts m (uv k.length ++ (k ++ r)) = some (k, r) := by
  unfold bts
  rw [num_uv m k.length (k ++ r) hn hm]
  simp
theorem uv_0 : uv 0 = [0] := by unfold uv; rfl
theorem uv_1 : uv 1 = [1] := by unfold uv; rfl
theorem dec1_some {b : List Int} {a : Act} {r : List Int} (hb : Byte b) (h : dec1 b = some (a, r)) : b = enc1 a ++ r ∧ Byte r ∧ (a.2.1 = true ∨ a.2.2.length = 0) := by
  unfold dec1 at h
  cases e : bts 64 b with
  | none => rw [e] at h; cases h
  | some k =>
    rw [e] at h
    simp only [Option.bind_some] at h
    obtain ⟨_, k2, _, k4⟩ := bts_some hb e
    cases e2 : num 1 k.2 with
    | none => rw [e2] at h; cases h
    | some s =>
      rw [e2] at h
      simp only [Option.bind_some] at h
      obtain ⟨s1, s2, s3⟩ := num_some k4 e2
      split at h
      · rename_i hs
        cases e3 : bts 4096 s.2 with
        | none => rw [e3] at h; cases h
        | some d =>
          rw [e3] at h
          cases h
          obtain ⟨_, d2, _, d4⟩ := bts_some s3 e3
          refine ⟨?_, d4, Or.inl rfl⟩
          rw [k2, s2, hs, uv_1, d2]
          simp [enc1]
      · rename_i hs
        cases h
        refine ⟨?_, s3, Or.inr rfl⟩
        rw [k2, s2, show s.1 = 0 by omega, uv_0]
        simp [enc1]
theorem dec1_enc (a : Act) (r : List Int) (h : may a) : dec1 (enc1 a ++ r) = some (a, r) := by
  obtain ⟨k, s, d⟩ := a
  obtain ⟨h1, h2, h3, h4⟩ := h
  unfold dec1 enc1
  simp only at *
  rw [List.append_assoc, List.append_assoc, bts_uv 64 k _ h2 (by omega)]
  simp only [Option.bind_some]
  cases s with
  | true =>
    have e := num_uv 1 1 (uv d.length ++ (d ++ r)) (by omega) (by omega)
    rw [uv_1] at e
    simp only [if_pos, List.cons_append, List.append_assoc]
    rw [show (1 : Int) :: (uv d.length ++ (d ++ r)) = [1] ++ (uv d.length ++ (d ++ r)) from rfl, e]
    simp only [Option.bind_some, if_pos, bts_uv 4096 d r h3 (by omega)]
  | false =>
    have hd : d = [] := by simpa using h4
    subst hd
    have e := num_uv 1 0 r (by omega) (by omega)
    rw [uv_0] at e
    simp only [Bool.false_eq_true, if_false]
    rw [e]
    rfl
theorem decL_some : ∀ (n : Nat) (b : List Int) (l : List Act) (r : List Int), Byte b → decL n b = some (l, r) → b = l.flatMap enc1 ++ r ∧ l.length = n ∧ (∀ a ∈ l, may a)
  | 0, b, l, r, hb, h => by cases h; exact ⟨rfl, rfl, fun a h => by cases h⟩
  | n + 1, b, l, r, hb, h => by
    simp only [decL] at h
    cases e : dec1 b with
    | none => rw [e] at h; cases h
    | some a =>
      rw [e] at h
      simp only [Option.bind_some] at h
      split at h
      · rename_i hm
        cases e2 : decL n a.2 with
        | none => rw [e2] at h; cases h
        | some q =>
          rw [e2] at h
          cases h
          obtain ⟨a1, a2, _⟩ := dec1_some hb e
          obtain ⟨i1, i2, i3⟩ := decL_some n a.2 q.1 q.2 a2 e2
          refine ⟨?_, by simp [i2], fun x hx => ?_⟩
          · rw [a1, i1]; simp
          · rcases List.mem_cons.1 hx with rfl | h
            · exact hm
            · exact i3 x h
      · cases h
theorem decL_enc : ∀ (l : List Act) (r : List Int), (∀ a ∈ l, may a) → decL l.length (l.flatMap enc1 ++ r) = some (l, r)
  | [], r, h => rfl
  | a :: l, r, h => by
    have e := dec1_enc a (l.flatMap enc1 ++ r) (h a (List.mem_cons_self ..))
    simp only [List.length_cons, decL, List.flatMap_cons, List.append_assoc, e, Option.bind_some, if_pos (h a (List.mem_cons_self ..)), decL_enc l r (fun x hx => h x (List.mem_cons_of_mem _ hx)), Option.map_some]
theorem dec_some {b : List Int} {l : List Act} (hb : Byte b) (h : dec b = some l) : b = encs l ∧ l.length ≤ 256 ∧ ∀ a ∈ l, may a := by
  unfold dec at h
  cases e : num 256 b with
  | none => rw [e] at h; cases h
  | some p =>
    rw [e] at h
    simp only [Option.bind_some] at h
    obtain ⟨p1, p2, p3⟩ := num_some hb e
    cases e2 : decL p.1 p.2 with
    | none => rw [e2] at h; cases h
    | some q =>
      rw [e2] at h
      simp only [Option.bind_some] at h
      split at h
      · rename_i hq
        cases h
        obtain ⟨i1, i2, i3⟩ := decL_some _ _ _ _ p3 e2
        refine ⟨?_, by omega, i3⟩
        unfold encs
        rw [p2, i1, hq, i2, List.append_nil]
      · cases h
theorem dec_enc (l : List Act) (hl : l.length ≤ 256) (h : ∀ a ∈ l, may a) : dec (encs l) = some l := by
  unfold dec encs
  rw [num_uv 256 l.length _ hl (by omega)]
  simp only [Option.bind_some]
  have := decL_enc l [] h
  rw [List.append_nil] at this
  rw [this]
  simp
end Go.Proofs.YtmajfcdfafhkfaaGreatDoor.Wr
namespace Go.Proofs.YtmajfcdfafhkfaaGreatDoor.H
open Go.RowKit Go.Proofs.YtmajfcdfafhkfaaGreatDoorW.PrintWords Go.Proofs.YtmajfcdfafhkfaaGreatDoorW.PrintLast Go.Proofs.YtmajfcdfafhkfaaGreatDoor.Leaf Go.Proofs.YtmajfcdfafhkfaaGreatDoor.P
set_option linter.unusedVariables false
set_option linter.unusedSimpArgs false
set_option maxHeartbeats 1000000
set_option maxRecDepth 100000
theorem nums_encs (b : List Int) : nums .u8 b = encs (fun x => Value.int .u8 x) b := by
  unfold nums encs
  induction b with
  | nil => rfl
  | cons x t ih => simp_all
theorem append_full (w : World) (A : Option Addr) (n : Nat) (b : List Int) (hC : Kd.C (Kd.int .u8) w A n b) (X : Addr) (m c : Nat) (xs : List Int) (hX : Kd.C (Kd.int .u8) w (some X) m xs) (hm : 0 < m) (hl : n + m < 140737488355328) :
    ∃ v1 w1, (Builtin.append_ #[23, 23] 23 #[.slice A n n, .slice (some X) m c]).run Tryz.prog w = .ok v1 w1 ∧ Kd.R (Kd.int .u8) 5 w1 w.heap.size (fun k => w.heap.size ≤ k) v1 (b ++ xs) ∧ Below w.heap.size w w1 := by
  obtain ⟨i0, hi, hz⟩ := Option.map_eq_some_iff.1 P.info5
  simp only [Prod.mk.injEq] at hz
  obtain ⟨hz0, hz1, hz2⟩ := hz
  have hbl : b.length = n := hC.1
  have hxl : xs.length = m := hX.1
  have hold : (Builtin.firstCells i0.size n (.slice A n n)).run Tryz.prog w.drew = .ok (nums .u8 b).toArray w.drew := by
    rw [hz1]
    cases A with
    | some ad => exact run_firstCells_some w.drew 1 n ad n n (nums .u8 b) (by rw [nums_length, hbl]; omega) (bytes_src (w := w.drew) (Kd.C_drewN hC 1))
    | none =>
      have hn : b = [] := by
        rcases Nat.eq_zero_or_pos b.length with h | h
        · exact List.eq_nil_of_length_eq_zero h
        · obtain ⟨ad, e, _⟩ := hC.2.2 (by omega)
          cases e
      subst hn
      have : n = 0 := by simpa using hbl.symm
      subst this
      exact run_firstCells_none w.drew 1 0 0 0
  have hs : Src Tryz.prog i0.size 23 (.slice (some X) m c) m (nums .u8 xs) w := by
    rw [hz1]
    exact Src.ofSlice w Tryz.underlying23 _ _ _ _ (by rw [nums_length, hxl]; omega) (bytes_src hX) nums_one
  have hr := run_append_grow_src w 23 23 23 5 i0 _ Tryz.underlying23 hi hz0 A n n (nums .u8 b) hold (.slice (some X) m c) m (nums .u8 xs) hs (by omega) (by omega) (growslice_fits (by omega) (by rw [hz2]; omega))
  refine ⟨_, _, hr, ?_, ?_⟩
  · have hge := grownCap_ge w (n + m) n 5
    have hcm : grownCap w (n + m) n 5 ≤ maxLen := grownCap_le_maxLen w (n + m) n 5 (by simp only [maxLen]; omega)
    have hlen : (nums .u8 b ++ nums .u8 xs).length = n + m := by rw [List.length_append, nums_length, nums_length, hbl, hxl]
    have hown : World.ownsRow (w.drew.alloc (.cells ((nums .u8 b ++ nums .u8 xs).toArray ++ Builtin.zeroCells (Value.int .u8 0).cells (grownCap w (n + m) n 5 - (n + m))) 5)) w.heap.size 5 1 (.slice (some ⟨w.heap.size, 0, none⟩) (n + m) (grownCap w (n + m) n 5)) (b ++ xs).length (encs (fun x => Value.int .u8 x) (b ++ xs)) := by
      refine And.intro (by rw [← nums_encs, nums_length, Nat.mul_one]) (Or.inr ⟨w.heap.size, _, _, by rw [List.length_append, hbl, hxl], Nat.le_refl _, heap_alloc_new w.drew _, by rw [List.length_append, hbl, hxl]; exact hge, hcm, ?_, ?_⟩)
      · simp only [Array.size_append, List.size_toArray, size_zeroCells, hlen]
        show n + m + (grownCap w (n + m) n 5 - (n + m)) * 1 = _
        omega
      · simp only [Array.toList_append]
        rw [← nums_encs, nums_append, show (b ++ xs).length * 1 = (nums .u8 b ++ nums .u8 xs).length by rw [hlen, List.length_append, hbl, hxl]; omega]
        exact List.take_left
    exact Kd.R_of_own hown (fun k hk => by cases hk; exact Nat.le_refl _)
  · exact below_alloc (Below.drew (Below.refl _ _)) _
theorem wpList_append_full {ops : Array Oper} {rest : List Oper} {o : Oper} {a : Act} {w : World} {Q : Exit → Act → World → Prop} (hgd : o.guard = none) (s x : Operand)
    (ho : o.op = .call { callee := .builtin .append, args := #[s, x], argTypes := #[23, 23] }) (hty : o.type = 23)
    (A : Option Addr) (n : Nat) (b : List Int) (hC : Kd.C (Kd.int .u8) w A n b) (X : Addr) (m c : Nat) (xs : List Int) (hX : Kd.C (Kd.int .u8) w (some X) m xs) (hm : 0 < m) (hl : n + m < 140737488355328)
    (hs : a.eval s = .slice A n n) (hx : a.eval x = .slice (some X) m c)
    (h : ∀ v1 w1, Kd.R (Kd.int .u8) 5 w1 w.heap.size (fun k => w.heap.size ≤ k) v1 (b ++ xs) → Below w.heap.size w w1 → wpList Tryz.prog ops Q rest (a.put o.dst v1) w1) : wpList Tryz.prog ops Q (o :: rest) a w := by
  obtain ⟨v', w', hr, h2, h3⟩ := append_full w A n b hC X m c xs hX hm hl
  refine wpList_plain hgd fun _ hK => ?_
  unfold Oper.wp execOp
  simp only [ho, hty, resolve, invoke, builtin, Sem.run_bind, Sem.run_pure, Result.andThen_ok, List.map_toArray, List.map_cons, List.map_nil, hs, hx, hr]
  exact hK _ _ (h v' w' h2 h3)
theorem own_none (W : World) : Calls Tryz.prog 52 #[.slice none 0 0] W fun e w' => e = .returned (.slice none 0 0) ∧ w' = W := by
  go_enter Tryz.func52, Tryz.ntmps52
  go_wp2_with fail
  go_ret
  exact ⟨rfl, rfl⟩
theorem own_some (W : World) (ad : Addr) (n c : Nat) (hc : n ≤ c) (hn : n < 140737488355328) : Calls Tryz.prog 52 #[.slice (some ad) n c] W fun e w' => e = .returned (.slice (some ad) n n) ∧ w' = W := by
  go_enter Tryz.func52, Tryz.ntmps52
  go_wp2_with fail
  go_ret
  exact ⟨rfl, rfl⟩
theorem wire_own (W : World) (A : Option Addr) (n c : Nat) (hA : A = none → n = 0 ∧ c = 0) (hc : n ≤ c) (hn : n < 140737488355328) : Calls Tryz.prog 52 #[.slice A n c] W fun e w' => e = .returned (.slice A n n) ∧ w' = W := by
  cases A with
  | none =>
    obtain ⟨rfl, rfl⟩ := hA rfl
    exact own_none W
  | some ad => exact own_some W ad n c hc hn
theorem lit1 {w : World} {p : Nat} {x : Int} (h : w.heap[p]? = some (.cells #[.int .u8 x] 5 (0, 0))) : Kd.C (Kd.int .u8) w (some ⟨p, 0, none⟩) 1 [x] := by
  refine ⟨rfl, by decide, fun _ => ⟨_, rfl, fun j q hj => ?_⟩⟩
  cases j with
  | zero =>
    cases hj
    refine ⟨[.int .u8 x], rfl, rfl, fun i u hu => ?_⟩
    rw [addr_add]
    refine cell_of_block h ?_
    rw [show 0 + (0 * (Kd.int .u8).sz + i) = i by omega, ← Array.getElem?_toList]
    exact hu
  | succ j => simp at hj
theorem or128 : ∀ x : Fin 256, bits BinOp.or IntKind.u8 ((x.1 : Nat) : Int) 128 = ((x.1 % 128 + 128 : Nat) : Int) := by decide +kernel
theorem or128' (m : Nat) : bits BinOp.or IntKind.u8 ((m : Int) % 256) 128 = ((m % 128 + 128 : Nat) : Int) := by
  have h := or128 ⟨m % 256, Nat.mod_lt _ (by decide)⟩
  rw [show ((m : Int) % 256) = ((m % 256 : Nat) : Int) from by omega, h]
  congr 1
  show m % 256 % 128 + 128 = _
  omega
theorem uv_step {m : Nat} (h : 128 ≤ m) : Wr.uv m = ((m % 128 + 128 : Nat) : Int) :: Wr.uv (m / 128) := by
  conv => lhs; unfold Wr.uv
  rw [dif_neg (by omega)]
theorem uv_len (x : Nat) (hx : x < 18446744073709551616) : (Wr.uv x).length ≤ 10 := by
  have h : ∀ (d m : Nat), m < 128 ^ d → 0 < d → (Wr.uv m).length ≤ d := by
    intro d
    induction d with
    | zero => intro m _ h; omega
    | succ d ih =>
      intro m hm _
      unfold Wr.uv
      split
      · simp
      · rw [List.length_cons]
        have h1 : m / 128 < 128 ^ d := by rw [Nat.pow_succ] at hm; omega
        rcases Nat.eq_zero_or_pos d with rfl | h0
        · simp at h1; omega
        · have := ih (m / 128) h1 h0; omega
  exact h 10 x (Nat.lt_of_lt_of_le hx (by decide)) (by decide)
theorem uv_last {m : Nat} (h : m < 128) : Wr.uv m = [(m : Int)] := by
  unfold Wr.uv
  rw [dif_pos h]
theorem wire_Uvarint (W : World) (A : Option Addr) (n c x : Nat) (b : List Int) (hA : A = none → n = 0 ∧ c = 0) (hc : n ≤ c) (hn : n < 70000000000000) (hx : x < 18446744073709551616) (hC : Kd.C (Kd.int .u8) W A n b) :
    Calls Tryz.prog 28 #[.slice A n c, .int .u64 (x : Int)] W fun e w' => ∃ v, e = .returned v ∧ Kd.R (Kd.int .u8) 5 w' W.heap.size (fun k => W.heap.size ≤ k) v (b ++ Wr.uv x) ∧ Below W.heap.size W w' := by
  have HO := Aside0.mk (wire_own W A n c hA hc (by omega))
  have HC := Aside0.mk hC
  have HN := Aside0.mk hC.1
  clear hC
  go_enter Tryz.func28, Tryz.ntmps28
  go_wp2_with (first | (go_at_call 52; refine HO.out.mono ?_; rintro e w' ⟨rfl, hw_⟩; obtain rfl := hw_.symm))
  go_loopg [0, 1] x (fun gg s0 s1 wr => ∃ (m : Nat) (pre : List Int), s1 = .int .u64 (m : Int) ∧ m ≤ gg ∧ m ≤ x ∧ Wr.uv x = pre ++ Wr.uv m ∧ Aside0 (Below W.heap.size W wr) ∧ ((pre = [] ∧ s0 = .slice A n n) ∨ Aside0 (Kd.R (Kd.int .u8) 5 wr W.heap.size (fun k => W.heap.size ≤ k) s0 (b ++ pre) ∧ pre ≠ [])))
  case atStart => exact ⟨x, [], rfl, Nat.le_refl _, Nat.le_refl _, rfl, ⟨Below.refl _ _⟩, Or.inl ⟨rfl, rfl⟩⟩
  case round =>
    obtain ⟨m, pre, rfl, hg, hmx, hpre, HB, hst⟩ := hrel
    have HLU : Aside0 ((b ++ pre).length < 70000000000100) := ⟨by
      have h1 := congrArg List.length hpre
      have h2 := uv_len x hx
      rw [List.length_append] at h1 ⊢
      have := HN.out
      omega⟩
    by_cases hge : 128 ≤ m
    · have hgez : ((m : Int) ≥ 128) := by omega
      have HU : Aside0 (Wr.uv m = [bits BinOp.or IntKind.u8 ((m : Int) % 256) 128] ++ Wr.uv (m / 128)) := ⟨by rw [or128']; exact uv_step hge⟩
      rcases hst with ⟨rfl, rfl⟩ | HR
      · have HCW := Aside0.mk (Kd.C_below HC.out HB.out)
        go_wp2_with (first | ((with_reducible refine gate_builtin (b := .append) (xs := #[.tmp 11, .tmp 15]) rfl ?_); at_builtin; refine wpList_append_full rfl (.tmp 11) (.tmp 15) rfl rfl A n b ?hC _ 1 1 [bits BinOp.or IntKind.u8 ((m : Int) % 256) 128] ?hX (by decide) (by omega) rfl rfl ?_; (case hC => exact Kd.C_alloc HCW.out _); (case hX => exact lit1 (heap_top _ _)); intro v1 w1 ho hb; have HO1 := Aside0.mk (Kd.R_mono (Kd.R_lower ho (below_step HB.out (below_alloc (Below.refl _ _) _)).size) (fun k hk => Nat.le_trans (below_step HB.out (below_alloc (Below.refl _ _) _)).size hk)); have HB1 := Aside0.mk (below_step HB.out (below_step (below_alloc (Below.refl _ _) _) hb)); clear ho hb))
        go_roundg (m / 128)
        case measure => omega
        case rel => exact ⟨m / 128, [bits BinOp.or IntKind.u8 ((m : Int) % 256) 128], by go_num, by omega, by omega, hpre.trans HU.out, HB1, Or.inr ⟨HO1.out, by simp⟩⟩
      · obtain ⟨g1, c1, rfl, hg1, hg2, hg3⟩ := Kd.R_form HR.out.1 (by have h := List.length_pos_iff.2 HR.out.2; rw [List.length_append]; omega)
        go_wp2_with (first | ((with_reducible refine gate_builtin (b := .append) (xs := #[.tmp 11, .tmp 15]) rfl ?_); at_builtin; refine Kd.R_append_rows (Kd.int .u8) (Rr := fun (x : Int) cs => cs = [Value.int .u8 x]) (w0 := W) W.heap.size rfl (.tmp 11) (.tmp 15) 23 5 (.int .u8 0) 1 rfl Tryz.underlying23 P.info5 rfl (by decide) (by decide) (.slice (some ⟨g1, 0, none⟩) (b ++ pre).length c1) (b ++ pre) [bits BinOp.or IntKind.u8 ((m : Int) % 256) 128] _ 1 1 (fun k => W.heap.size ≤ k) (fun _ => False) rfl rfl ?aO ?aR (fun _ _ h => h) (fun _ h => h.elim) ?aF ?aB ?aS ?aL ?_; (case aO => exact Kd.R_alloc HR.out.1 _); (case aR => exact lit1 (heap_top _ _)); (case aF => exact fun k hk => Nat.le_trans (below_step HB.out (below_alloc (Below.refl _ _) _)).size hk); (case aB => exact below_alloc HB.out _); (case aS => exact (below_step HB.out (below_alloc (Below.refl _ _) _)).size); (case aL => have := HLU.out; show ((b ++ pre).length + 1) * 1 ≤ _; omega); intro v1 w1 ho hb hgr hat; have HO1 := Aside0.mk ho; have HB1 := Aside0.mk hb; clear ho hb hgr hat))
        go_roundg (m / 128)
        case measure => omega
        case rel => exact ⟨m / 128, pre ++ [bits BinOp.or IntKind.u8 ((m : Int) % 256) 128], by go_num, by omega, by omega, by rw [hpre, HU.out, List.append_assoc], HB1, Or.inr ⟨by rw [← List.append_assoc]; exact HO1.out, by simp⟩⟩
    · have hgez : ¬ ((m : Int) ≥ 128) := by omega
      have HU : Aside0 (Wr.uv x = pre ++ [(m : Int)]) := ⟨by rw [hpre, uv_last (by omega)]⟩
      rcases hst with ⟨rfl, rfl⟩ | HR
      · have HCW := Aside0.mk (Kd.C_below HC.out HB.out)
        go_wp2_with (first | ((with_reducible refine gate_builtin (b := .append) (xs := #[.tmp 17, .tmp 20]) rfl ?_); at_builtin; refine wpList_append_full rfl (.tmp 17) (.tmp 20) rfl rfl A n b ?hC _ 1 1 [(m : Int)] ?hX (by decide) (by omega) rfl rfl ?_; (case hC => exact Kd.C_alloc HCW.out _); (case hX => exact lit1 (heap_top _ _)); intro v1 w1 ho hb; have HO1 := Aside0.mk (Kd.R_mono (Kd.R_lower ho (below_step HB.out (below_alloc (Below.refl _ _) _)).size) (fun k hk => Nat.le_trans (below_step HB.out (below_alloc (Below.refl _ _) _)).size hk)); have HB1 := Aside0.mk (below_step HB.out (below_step (below_alloc (Below.refl _ _) _) hb)); clear ho hb))
        go_ret
        exact ⟨_, rfl, by rw [uv_last (by omega)]; exact HO1.out, HB1.out⟩
      · obtain ⟨g1, c1, rfl, hg1, hg2, hg3⟩ := Kd.R_form HR.out.1 (by have h := List.length_pos_iff.2 HR.out.2; rw [List.length_append]; omega)
        go_wp2_with (first | ((with_reducible refine gate_builtin (b := .append) (xs := #[.tmp 17, .tmp 20]) rfl ?_); at_builtin; refine Kd.R_append_rows (Kd.int .u8) (Rr := fun (x : Int) cs => cs = [Value.int .u8 x]) (w0 := W) W.heap.size rfl (.tmp 17) (.tmp 20) 23 5 (.int .u8 0) 1 rfl Tryz.underlying23 P.info5 rfl (by decide) (by decide) (.slice (some ⟨g1, 0, none⟩) (b ++ pre).length c1) (b ++ pre) [(m : Int)] _ 1 1 (fun k => W.heap.size ≤ k) (fun _ => False) rfl rfl ?aO ?aR (fun _ _ h => h) (fun _ h => h.elim) ?aF ?aB ?aS ?aL ?_; (case aO => exact Kd.R_alloc HR.out.1 _); (case aR => exact lit1 (heap_top _ _)); (case aF => exact fun k hk => Nat.le_trans (below_step HB.out (below_alloc (Below.refl _ _) _)).size hk); (case aB => exact below_alloc HB.out _); (case aS => exact (below_step HB.out (below_alloc (Below.refl _ _) _)).size); (case aL => have := HLU.out; show ((b ++ pre).length + 1) * 1 ≤ _; omega); intro v1 w1 ho hb hgr hat; have HO1 := Aside0.mk ho; have HB1 := Aside0.mk hb; clear ho hb hgr hat))
        go_ret
        exact ⟨_, rfl, by rw [uv_last (by omega), ← List.append_assoc]; exact HO1.out, HB1.out⟩
end Go.Proofs.YtmajfcdfafhkfaaGreatDoor.H
namespace Go.Proofs.YtmajfcdfafhkfaaGreatDoor.H
open Go.RowKit Go.Proofs.YtmajfcdfafhkfaaGreatDoorW.PrintWords Go.Proofs.YtmajfcdfafhkfaaGreatDoorW.PrintLast Go.Proofs.YtmajfcdfafhkfaaGreatDoor.Leaf Go.Proofs.YtmajfcdfafhkfaaGreatDoor.P
set_option linter.unusedVariables false
set_option linter.unusedSimpArgs false
set_option maxHeartbeats 1000000
set_option maxRecDepth 100000
theorem wire_Bytes (W : World) (A : Option Addr) (n c : Nat) (b : List Int) (X : Option Addr) (m cx : Nat) (s : List Int) (hA : A = none → n = 0 ∧ c = 0) (hc : n ≤ c) (hn : n < 60000000000000) (hC : Kd.C (Kd.int .u8) W A n b) (hm : m < 9000000000000) (hX : Kd.C (Kd.int .u8) W X m s) :
    Calls Tryz.prog 29 #[.slice A n c, .slice X m cx] W fun e w' => ∃ v, e = .returned v ∧ Kd.R (Kd.int .u8) 5 w' W.heap.size (fun k => W.heap.size ≤ k) v (b ++ (Wr.uv m ++ s)) ∧ Below W.heap.size W w' := by
  have HU := Aside0.mk (wire_Uvarint W A n c m b hA hc (by omega) (by omega) hC)
  have HX := Aside0.mk hX
  have hw : IntKind.u64.wrap (m : Int) = (m : Int) := by show (m : Int) % 18446744073709551616 = _; omega
  have HL : Aside0 ((b ++ Wr.uv m).length + m < 140000000000000) := ⟨by
    rw [List.length_append]
    have := uv_len m (by omega)
    have := hX.1
    have := hC.1
    omega⟩
  clear hC hX
  go_enter Tryz.func29, Tryz.ntmps29
  go_wp2_with (first | (go_at_call 28; refine HU.out.mono ?_; rintro e w1 ⟨v, rfl, hR, hb⟩; have HR := Aside0.mk hR; have HB := Aside0.mk hb; have HX1 := Aside0.mk (Kd.C_below HX.out hb); clear hR hb) | ((with_reducible refine gate_builtin (b := .append) (xs := #[.tmp 9, .tmp 10]) rfl ?_); at_builtin; refine Kd.R_append_rows (Kd.int .u8) (Rr := fun (x : Int) cs => cs = [Value.int .u8 x]) (w0 := W) W.heap.size rfl (.tmp 9) (.tmp 10) 23 5 (.int .u8 0) 1 rfl Tryz.underlying23 P.info5 rfl (by decide) (by decide) v (b ++ Wr.uv m) s X m cx (fun k => W.heap.size ≤ k) (fun _ => False) rfl rfl ?aO ?aR (fun _ _ h => h) (fun _ h => h.elim) ?aF ?aB ?aS ?aL ?_; (case aO => exact HR.out); (case aR => exact HX1.out); (case aF => exact fun k hk => Nat.le_trans HB.out.size hk); (case aB => exact HB.out); (case aS => exact HB.out.size); (case aL => have := HL.out; show ((b ++ Wr.uv m).length + m) * 1 ≤ _; omega); intro v1 w2 ho hb hgr hat; have HO1 := Aside0.mk ho; have HB1 := Aside0.mk hb; clear ho hb hgr hat))
  go_ret
  exact ⟨_, rfl, by rw [← List.append_assoc]; exact HO1.out, HB1.out⟩
/-- A string's bytes, as numbers. -/
def kb (s : ByteArray) : List Int := s.data.toList.map fun b => ((b.toNat : Nat) : Int)
theorem kb_length (s : ByteArray) : (kb s).length = s.size := by
  unfold kb
  rw [List.length_map, Array.length_toList]
  rfl
theorem kb_byte (s : ByteArray) : Wr.Byte (kb s) := by
  intro c hc
  obtain ⟨b, _, rfl⟩ := List.mem_map.1 hc
  have := b.toNat_lt
  omega
theorem str_bytes (W : World) (s : ByteArray) : (Go.convert 9 23 (.string s)).run Tryz.prog W = .ok (.slice (some ⟨W.heap.size, 0, none⟩) s.size (grownCap W s.size 0 5)) (Lib.bytesWorld W 5 s) :=
  Lib.run_convert_string_bytes W 9 23 5 s Tryz.underlying9 Tryz.underlying23 Tryz.underlying5
theorem C_bytesWorld (W : World) (s : ByteArray) (hs : s.size < 140737488355328) : Kd.C (Kd.int .u8) (Lib.bytesWorld W 5 s) (some ⟨W.heap.size, 0, none⟩) s.size (kb s) := by
  refine ⟨kb_length s, by have := kb_length s; first | exact this | omega, fun _ => ⟨_, rfl, fun j q hj => ?_⟩⟩
  refine ⟨[.int .u8 q], rfl, rfl, fun i u hu => ?_⟩
  have hjl := (List.getElem?_eq_some_iff.1 hj).1
  rw [kb_length] at hjl
  have hi : i = 0 := by have := (List.getElem?_eq_some_iff.1 hu).1; simpa using this
  subst hi
  cases hu
  rw [addr_add, show 0 + (j * (Kd.int .u8).sz + 0) = j by show 0 + (j * 1 + 0) = j; omega, Lib.bytesWorld_cell W 5 s j hjl]
  unfold kb at hj
  rw [List.getElem?_map] at hj
  obtain ⟨x, hx, rfl⟩ := Option.map_eq_some_iff.1 hj
  rw [List.getD_eq_getElem?_getD, hx]
  rfl
end Go.Proofs.YtmajfcdfafhkfaaGreatDoor.H
namespace Go.Proofs.YtmajfcdfafhkfaaGreatDoor.P
open Go.Proofs.YtmajfcdfafhkfaaGreatDoor.Leaf
open Go.RowKit Go.Proofs.YtmajfcdfafhkfaaGreatDoorW.PrintWords Go.Proofs.YtmajfcdfafhkfaaGreatDoorW.PrintLast Go.Proofs.YtmajfcdfafhkfaaGreatDoorW.PrintMore
attribute [local go_sem] max2_int min2_int max_two min_two max_three min_three max_four min_four   -- for this text's walks alone
set_option linter.unusedVariables false
set_option linter.unusedSimpArgs false
def store_may.f (a0_0 : ByteArray) (a0_1 : Bool) (l0_2 : List Int) : Option (Bool) := if (a0_0.size : Int) ≥ 1 then (if (a0_0.size : Int) ≤ 64 then (if (l0_2.length : Int) ≤ 4096 then (if a0_1 = true then (some true) else (some ((l0_2.length : Int) == 0))) else (some false)) else (some false)) else (some false)
set_option maxHeartbeats 8000000 in
set_option maxRecDepth 100000 in
theorem store_may.calls (a0_0 : ByteArray) (a0_1 : Bool) (A0_2 : Option Addr) (c0_2 : Nat) (l0_2 : List Int) (r : Bool) (w : World) (hr0_2 : Kd.C (Kd.int .u8) w A0_2 l0_2.length l0_2) (hc0_2 : l0_2.length ≤ c0_2) (h : store_may.f a0_0 a0_1 l0_2 = some r) :
  Calls Tryz.prog 27 #[.agg #[.string a0_0, .bool a0_1, .slice A0_2 l0_2.length c0_2]] w fun e w' => e = .returned (.bool r) ∧ Below w.heap.size w w' := by
 have hu62 := Tryz.underlying62
 have HR0_2 := Aside0.mk hr0_2
 have HC0_2 := Aside0.mk hc0_2
 clear hr0_2 hc0_2
 have HB := Aside0.mk (Below.refl w.heap.size w)
 have H : (if (a0_0.size : Int) ≥ 1 then (if (a0_0.size : Int) ≤ 64 then (if (l0_2.length : Int) ≤ 4096 then (if a0_1 = true then (some true) else (some ((l0_2.length : Int) == 0))) else (some false)) else (some false)) else (some false)) = some r := h
 clear h
 by_cases c2 : (a0_0.size : Int) ≥ 1
 ·rw [if_pos c2] at H
  have c2b0 : decide (1 ≤ (a0_0.size : Int)) = true := decide_eq_true c2
  have c2b1 : decide (1 ≤ a0_0.size) = true := decide_eq_true (by omega)
  clear c2
  by_cases c3 : (a0_0.size : Int) ≤ 64
  ·rw [if_pos c3] at H
   have c3b0 : decide ((a0_0.size : Int) ≤ 64) = true := decide_eq_true c3
   have c3b1 : decide (a0_0.size ≤ 64) = true := decide_eq_true (by omega)
   clear c3
   by_cases c4 : (l0_2.length : Int) ≤ 4096
   ·rw [if_pos c4] at H
    have c4b0 : decide ((l0_2.length : Int) ≤ 4096) = true := decide_eq_true c4
    have c4b1 : decide (l0_2.length ≤ 4096) = true := decide_eq_true (by omega)
    clear c4
    by_cases c5 : a0_1 = true
    ·subst c5
     have H1 : (some true) = some r := by rw [if_pos rfl] at H; exact H
     clear H
     have H := H1
     clear H1
     obtain rfl := Option.some.inj H
     go_enter Tryz.func27, Tryz.ntmps27
     go_wp2_with (first | ((with_reducible refine gate_dst (N := 1) rfl ?_); (try (refine gate_guard (by rfl) ?_; dsimp only)); refine box_event ?hg (N := 1) ?hd (cs := #[.string a0_0, .bool true, .slice A0_2 l0_2.length c0_2]) (t := 62) ?hr ?_; (case hd => rfl); (case hg => rfl); (case hr => first | (go_simp; done) | (go_simp; rfl)); intro gb101 hg w6 hbox hb; have n0_ := Aside0.mk (below_step (by repeat (first | (with_reducible first | exact HB.out | apply below_alloc | apply pw_below_drewN | apply below_drew1) | exact HB.out)) hb); have n1_ := Aside0.mk (hbox); have n2_ := Aside0.mk ((by rw [hg]; exact (below_size (by repeat (first | (with_reducible first | exact HB.out | apply below_alloc | apply pw_below_drewN | apply below_drew1) | exact HB.out))) : w.heap.size ≤ gb101)); have n3_ := Aside0.mk ((by rw [hg]; exact (below_size (by repeat (first | (with_reducible first | exact HB.out | apply below_alloc | apply pw_below_drewN | apply below_drew1) | exact HB.out))) : w.heap.size ≤ gb101)); clear HB; have HB := n0_; have BK101 := n1_; have GW101 := n2_; have GE101 := n3_; clear n0_ n1_ n2_ n3_; clear hb hbox hg; have hcz7_0 : w6.cell? ⟨gb101, 0, none⟩ = some (.string a0_0) := (blk_cell BK101.out 0).trans rfl; have hcz7_1 : w6.cell? ⟨gb101, 1, none⟩ = some (.bool true) := (blk_cell BK101.out 1).trans rfl; have hcz7_2 : w6.cell? ⟨gb101, 2, none⟩ = some (.slice A0_2 l0_2.length c0_2) := (blk_cell BK101.out 2).trans rfl; have hfz7_0 := blk_frozen BK101.out 0; have hfz7_1 := blk_frozen BK101.out 1; have hfz7_2 := blk_frozen BK101.out 2))
     go_ret
     exact ⟨by first | rfl | (simp [errW_none, errW_some] <;> rfl) | (simp [*, errW_none, errW_some] <;> rfl), by repeat (first | (with_reducible first | exact HB.out | apply below_alloc | apply pw_below_drewN | apply below_drew1 | refine below_set ?_ GE101.out) | exact HB.out)⟩
    ·replace c5 := Bool.eq_false_iff.mpr c5
     subst c5
     have H1 : (some ((l0_2.length : Int) == 0)) = some r := by rw [if_neg (show ¬ (false = true) by decide)] at H; exact H
     clear H
     have H := H1
     clear H1
     obtain rfl := Option.some.inj H
     go_enter Tryz.func27, Tryz.ntmps27
     go_wp2_with (first | ((with_reducible refine gate_dst (N := 1) rfl ?_); (try (refine gate_guard (by rfl) ?_; dsimp only)); refine box_event ?hg (N := 1) ?hd (cs := #[.string a0_0, .bool false, .slice A0_2 l0_2.length c0_2]) (t := 62) ?hr ?_; (case hd => rfl); (case hg => rfl); (case hr => first | (go_simp; done) | (go_simp; rfl)); intro gb101 hg w8 hbox hb; have n0_ := Aside0.mk (below_step (by repeat (first | (with_reducible first | exact HB.out | apply below_alloc | apply pw_below_drewN | apply below_drew1) | exact HB.out)) hb); have n1_ := Aside0.mk (hbox); have n2_ := Aside0.mk ((by rw [hg]; exact (below_size (by repeat (first | (with_reducible first | exact HB.out | apply below_alloc | apply pw_below_drewN | apply below_drew1) | exact HB.out))) : w.heap.size ≤ gb101)); have n3_ := Aside0.mk ((by rw [hg]; exact (below_size (by repeat (first | (with_reducible first | exact HB.out | apply below_alloc | apply pw_below_drewN | apply below_drew1) | exact HB.out))) : w.heap.size ≤ gb101)); clear HB; have HB := n0_; have BK101 := n1_; have GW101 := n2_; have GE101 := n3_; clear n0_ n1_ n2_ n3_; clear hb hbox hg; have hcz9_0 : w8.cell? ⟨gb101, 0, none⟩ = some (.string a0_0) := (blk_cell BK101.out 0).trans rfl; have hcz9_1 : w8.cell? ⟨gb101, 1, none⟩ = some (.bool false) := (blk_cell BK101.out 1).trans rfl; have hcz9_2 : w8.cell? ⟨gb101, 2, none⟩ = some (.slice A0_2 l0_2.length c0_2) := (blk_cell BK101.out 2).trans rfl; have hfz9_0 := blk_frozen BK101.out 0; have hfz9_1 := blk_frozen BK101.out 1; have hfz9_2 := blk_frozen BK101.out 2))
     go_ret
     exact ⟨by first | rfl | (simp [errW_none, errW_some] <;> rfl) | (simp [*, errW_none, errW_some] <;> rfl), by repeat (first | (with_reducible first | exact HB.out | apply below_alloc | apply pw_below_drewN | apply below_drew1 | refine below_set ?_ GE101.out) | exact HB.out)⟩
   ·rw [if_neg c4] at H
    have c4b0 : decide ((l0_2.length : Int) ≤ 4096) = false := decide_eq_false c4
    have c4b1 : decide (l0_2.length ≤ 4096) = false := decide_eq_false (by omega)
    clear c4
    obtain rfl := Option.some.inj H
    go_enter Tryz.func27, Tryz.ntmps27
    go_wp2_with (first | ((with_reducible refine gate_dst (N := 1) rfl ?_); (try (refine gate_guard (by rfl) ?_; dsimp only)); refine box_event ?hg (N := 1) ?hd (cs := #[.string a0_0, .bool a0_1, .slice A0_2 l0_2.length c0_2]) (t := 62) ?hr ?_; (case hd => rfl); (case hg => rfl); (case hr => first | (go_simp; done) | (go_simp; rfl)); intro gb101 hg w10 hbox hb; have n0_ := Aside0.mk (below_step (by repeat (first | (with_reducible first | exact HB.out | apply below_alloc | apply pw_below_drewN | apply below_drew1) | exact HB.out)) hb); have n1_ := Aside0.mk (hbox); have n2_ := Aside0.mk ((by rw [hg]; exact (below_size (by repeat (first | (with_reducible first | exact HB.out | apply below_alloc | apply pw_below_drewN | apply below_drew1) | exact HB.out))) : w.heap.size ≤ gb101)); have n3_ := Aside0.mk ((by rw [hg]; exact (below_size (by repeat (first | (with_reducible first | exact HB.out | apply below_alloc | apply pw_below_drewN | apply below_drew1) | exact HB.out))) : w.heap.size ≤ gb101)); clear HB; have HB := n0_; have BK101 := n1_; have GW101 := n2_; have GE101 := n3_; clear n0_ n1_ n2_ n3_; clear hb hbox hg; have hcz11_0 : w10.cell? ⟨gb101, 0, none⟩ = some (.string a0_0) := (blk_cell BK101.out 0).trans rfl; have hcz11_1 : w10.cell? ⟨gb101, 1, none⟩ = some (.bool a0_1) := (blk_cell BK101.out 1).trans rfl; have hcz11_2 : w10.cell? ⟨gb101, 2, none⟩ = some (.slice A0_2 l0_2.length c0_2) := (blk_cell BK101.out 2).trans rfl; have hfz11_0 := blk_frozen BK101.out 0; have hfz11_1 := blk_frozen BK101.out 1; have hfz11_2 := blk_frozen BK101.out 2))
    go_ret
    exact ⟨by first | rfl | (simp [errW_none, errW_some] <;> rfl) | (simp [*, errW_none, errW_some] <;> rfl), by repeat (first | (with_reducible first | exact HB.out | apply below_alloc | apply pw_below_drewN | apply below_drew1 | refine below_set ?_ GE101.out) | exact HB.out)⟩
  ·rw [if_neg c3] at H
   have c3b0 : decide ((a0_0.size : Int) ≤ 64) = false := decide_eq_false c3
   have c3b1 : decide (a0_0.size ≤ 64) = false := decide_eq_false (by omega)
   clear c3
   obtain rfl := Option.some.inj H
   go_enter Tryz.func27, Tryz.ntmps27
   go_wp2_with (first | ((with_reducible refine gate_dst (N := 1) rfl ?_); (try (refine gate_guard (by rfl) ?_; dsimp only)); refine box_event ?hg (N := 1) ?hd (cs := #[.string a0_0, .bool a0_1, .slice A0_2 l0_2.length c0_2]) (t := 62) ?hr ?_; (case hd => rfl); (case hg => rfl); (case hr => first | (go_simp; done) | (go_simp; rfl)); intro gb101 hg w12 hbox hb; have n0_ := Aside0.mk (below_step (by repeat (first | (with_reducible first | exact HB.out | apply below_alloc | apply pw_below_drewN | apply below_drew1) | exact HB.out)) hb); have n1_ := Aside0.mk (hbox); have n2_ := Aside0.mk ((by rw [hg]; exact (below_size (by repeat (first | (with_reducible first | exact HB.out | apply below_alloc | apply pw_below_drewN | apply below_drew1) | exact HB.out))) : w.heap.size ≤ gb101)); have n3_ := Aside0.mk ((by rw [hg]; exact (below_size (by repeat (first | (with_reducible first | exact HB.out | apply below_alloc | apply pw_below_drewN | apply below_drew1) | exact HB.out))) : w.heap.size ≤ gb101)); clear HB; have HB := n0_; have BK101 := n1_; have GW101 := n2_; have GE101 := n3_; clear n0_ n1_ n2_ n3_; clear hb hbox hg; have hcz13_0 : w12.cell? ⟨gb101, 0, none⟩ = some (.string a0_0) := (blk_cell BK101.out 0).trans rfl; have hcz13_1 : w12.cell? ⟨gb101, 1, none⟩ = some (.bool a0_1) := (blk_cell BK101.out 1).trans rfl; have hcz13_2 : w12.cell? ⟨gb101, 2, none⟩ = some (.slice A0_2 l0_2.length c0_2) := (blk_cell BK101.out 2).trans rfl; have hfz13_0 := blk_frozen BK101.out 0; have hfz13_1 := blk_frozen BK101.out 1; have hfz13_2 := blk_frozen BK101.out 2))
   go_ret
   exact ⟨by first | rfl | (simp [errW_none, errW_some] <;> rfl) | (simp [*, errW_none, errW_some] <;> rfl), by repeat (first | (with_reducible first | exact HB.out | apply below_alloc | apply pw_below_drewN | apply below_drew1 | refine below_set ?_ GE101.out) | exact HB.out)⟩
 ·rw [if_neg c2] at H
  have c2b0 : decide (1 ≤ (a0_0.size : Int)) = false := decide_eq_false c2
  have c2b1 : decide (1 ≤ a0_0.size) = false := decide_eq_false (by omega)
  clear c2
  obtain rfl := Option.some.inj H
  go_enter Tryz.func27, Tryz.ntmps27
  go_wp2_with (first | ((with_reducible refine gate_dst (N := 1) rfl ?_); (try (refine gate_guard (by rfl) ?_; dsimp only)); refine box_event ?hg (N := 1) ?hd (cs := #[.string a0_0, .bool a0_1, .slice A0_2 l0_2.length c0_2]) (t := 62) ?hr ?_; (case hd => rfl); (case hg => rfl); (case hr => first | (go_simp; done) | (go_simp; rfl)); intro gb101 hg w14 hbox hb; have n0_ := Aside0.mk (below_step (by repeat (first | (with_reducible first | exact HB.out | apply below_alloc | apply pw_below_drewN | apply below_drew1) | exact HB.out)) hb); have n1_ := Aside0.mk (hbox); have n2_ := Aside0.mk ((by rw [hg]; exact (below_size (by repeat (first | (with_reducible first | exact HB.out | apply below_alloc | apply pw_below_drewN | apply below_drew1) | exact HB.out))) : w.heap.size ≤ gb101)); have n3_ := Aside0.mk ((by rw [hg]; exact (below_size (by repeat (first | (with_reducible first | exact HB.out | apply below_alloc | apply pw_below_drewN | apply below_drew1) | exact HB.out))) : w.heap.size ≤ gb101)); clear HB; have HB := n0_; have BK101 := n1_; have GW101 := n2_; have GE101 := n3_; clear n0_ n1_ n2_ n3_; clear hb hbox hg; have hcz15_0 : w14.cell? ⟨gb101, 0, none⟩ = some (.string a0_0) := (blk_cell BK101.out 0).trans rfl; have hcz15_1 : w14.cell? ⟨gb101, 1, none⟩ = some (.bool a0_1) := (blk_cell BK101.out 1).trans rfl; have hcz15_2 : w14.cell? ⟨gb101, 2, none⟩ = some (.slice A0_2 l0_2.length c0_2) := (blk_cell BK101.out 2).trans rfl; have hfz15_0 := blk_frozen BK101.out 0; have hfz15_1 := blk_frozen BK101.out 1; have hfz15_2 := blk_frozen BK101.out 2))
  go_ret
  exact ⟨by first | rfl | (simp [errW_none, errW_some] <;> rfl) | (simp [*, errW_none, errW_some] <;> rfl), by repeat (first | (with_reducible first | exact HB.out | apply below_alloc | apply pw_below_drewN | apply below_drew1 | refine below_set ?_ GE101.out) | exact HB.out)⟩
end Go.Proofs.YtmajfcdfafhkfaaGreatDoor.P
namespace Go.Proofs.YtmajfcdfafhkfaaGreatDoor.H
open Go.RowKit Go.Proofs.YtmajfcdfafhkfaaGreatDoorW.PrintWords Go.Proofs.YtmajfcdfafhkfaaGreatDoorW.PrintLast Go.Proofs.YtmajfcdfafhkfaaGreatDoor.Leaf Go.Proofs.YtmajfcdfafhkfaaGreatDoor.P
set_option linter.unusedVariables false
set_option linter.unusedSimpArgs false
set_option maxHeartbeats 2000000
set_option maxRecDepth 100000
/-- An act, as plain lists. -/
def toA (a : S62) : Wr.Act := (kb a.f0, a.f1, a.f2)
theorem may_f (a : S62) : store_may.f a.f0 a.f1 a.f2 = some (decide (Wr.may (toA a))) := by
  unfold store_may.f Wr.may toA
  simp only [kb_length]
  by_cases h1 : 1 ≤ a.f0.size
  · by_cases h2 : a.f0.size ≤ 64
    · by_cases h3 : a.f2.length ≤ 4096
      · rw [if_pos (by omega), if_pos (by omega), if_pos (by omega)]
        cases h4 : a.f1 with
        | true => simp [h1, h2, h3]
        | false =>
          simp only [Bool.false_eq_true, if_false, false_or, h1, h2, h3, true_and]
          by_cases h5 : a.f2.length = 0
          · simp [h5]
          · have : ((a.f2.length : Int) == 0) = false := by rw [beq_eq_false_iff_ne]; omega
            simp [this, h5]
      · rw [if_pos (by omega), if_pos (by omega), if_neg (by omega)]; simp [h3]
    · rw [if_pos (by omega), if_neg (by omega)]; simp [h2]
  · rw [if_neg (by omega)]; simp [h1]
theorem not_may (a : S62) (A : Option Addr) (c : Nat) (w : World) (hC : Kd.C (Kd.int .u8) w A a.f2.length a.f2) (hc : a.f2.length ≤ c) :
    Calls Tryz.prog 26 #[.agg #[.string a.f0, .bool a.f1, .slice A a.f2.length c]] w fun e w' => e = .returned (.bool (!decide (Wr.may (toA a)))) ∧ Below w.heap.size w w' := by
  have HM : Aside0 (∀ o, Calls Tryz.prog 27 #[.agg #[.string a.f0, .bool a.f1, .slice A a.f2.length c]] (w.alloc o) fun e w' => e = .returned (.bool (decide (Wr.may (toA a)))) ∧ Below (w.alloc o).heap.size (w.alloc o) w') := ⟨fun o => store_may.calls a.f0 a.f1 A c a.f2 _ (w.alloc o) (Kd.C_alloc hC o) hc (may_f a)⟩
  clear hC
  go_enter Tryz.func26, Tryz.ntmps26
  go_wp2_with (first | (go_at_call 27; refine (HM.out _).mono ?_; rintro e w' ⟨rfl, hb⟩; have HB := Aside0.mk (below_step (below_alloc (Below.refl w.heap.size w) _) hb); clear hb))
  go_ret
  exact ⟨rfl, HB.out⟩
theorem at_act {w : World} {A : Option Addr} {n : Nat} {l : List S62} (h : Kd.C k62 w A n l) (i : Nat) (hi : i < n) : ∃ ad A2 c2, A = some ad ∧ w.cell? (ad.add (i * 3)) = some (.string (rd_T62 l i).f0) ∧ w.cell? ⟨(ad.add (i * 3)).block, (ad.add (i * 3)).off + 1, none⟩ = some (.bool (rd_T62 l i).f1) ∧ w.cell? ⟨(ad.add (i * 3)).block, (ad.add (i * 3)).off + 2, none⟩ = some (.slice A2 (rd_T62 l i).f2.length c2) ∧ (rd_T62 l i).f2.length ≤ c2 ∧ (Kd.int .u8).C w A2 (rd_T62 l i).f2.length (rd_T62 l i).f2 := by
  have := at_T62 h (i : Int) (by omega) (by omega)
  simpa using this
theorem rd_get (l : List S62) (j : Nat) (hj : j < l.length) : rd_T62 l j = l[j] := by
  unfold rd_T62
  rw [Int.toNat_natCast, List.getD_eq_getElem?_getD, List.getElem?_eq_getElem hj]
  rfl
theorem rd_mem (l : List S62) (j : Nat) (hj : j < l.length) : rd_T62 l j ∈ l := by
  rw [rd_get l j hj]
  exact List.getElem_mem hj
theorem index_may (w : World) (A : Option Addr) (n c : Nat) (l : List S62) (hC : Kd.C k62 w A n l) (hn : n ≤ 9223372036854775807) :
    Calls Tryz.prog 51 #[.slice A n c, .func (.func 26) #[] #[]] w fun e w' => ∃ r : Int, e = .returned (.int .i64 r) ∧ (0 ≤ r ↔ ∃ a ∈ l, ¬ Wr.may (toA a)) ∧ Below w.heap.size w w' := by
  have HC := Aside0.mk hC
  have HL := Aside0.mk hC.1
  clear hC
  go_enter Tryz.func51, Tryz.ntmps51
  go_wp2_with fail
  go_loopg [5, 8] n (fun gg _ s8 wr => ∃ kk : Nat, kk ≤ n ∧ n - kk ≤ gg ∧ s8 = .int .i64 kk ∧ Aside0 (Below w.heap.size w wr) ∧ Aside0 (∀ j, j < kk → Wr.may (toA (rd_T62 l j))))
  case atStart => exact ⟨0, Nat.zero_le _, by omega, rfl, ⟨Below.refl _ w⟩, ⟨fun j hj => absurd hj (Nat.not_lt_zero _)⟩⟩
  case round =>
    obtain ⟨kk, hkk, hg, rfl, BW, A0⟩ := hrel
    by_cases hlt : kk < n
    · have hltz : (kk : Int) < (n : Int) := by omega
      have hw1 : IntKind.i64.wrap ((kk : Int) + 1) = (kk : Int) + 1 := IntWalk.i64_in _ (by omega)
      obtain ⟨ad, A2, c2, rfl, hx0, hx1, hx2, hl2, hC2⟩ := at_act (Kd.C_below HC.out BW.out) kk hlt
      have hmem : rd_T62 l kk ∈ l := rd_mem l kk (by have := HL.out; omega)
      by_cases hm : Wr.may (toA (rd_T62 l kk))
      · have HM : Aside0 (Calls Tryz.prog 26 #[.agg #[.string (rd_T62 l kk).f0, .bool (rd_T62 l kk).f1, .slice A2 (rd_T62 l kk).f2.length c2]] wr fun e w' => e = .returned (.bool false) ∧ Below wr.heap.size wr w') := ⟨by
          have := not_may (rd_T62 l kk) A2 c2 wr hC2 hl2
          rwa [decide_eq_true hm] at this⟩
        have HMM := Aside0.mk hm
        clear hC2 hl2 hm hmem
        go_wp2_with (first | (go_at_call 26; refine HM.out.mono ?_; rintro e w' ⟨rfl, hb⟩; have HB := Aside0.mk (below_step BW.out hb); clear hb))
        go_roundg (n - (kk + 1))
        case measure => omega
        case rel =>
          refine ⟨kk + 1, by omega, by omega, by go_num, HB, ⟨fun j hj => ?_⟩⟩
          by_cases e : j = kk
          · subst e
            exact HMM.out
          · exact A0.out j (by omega)
      · have HM : Aside0 (Calls Tryz.prog 26 #[.agg #[.string (rd_T62 l kk).f0, .bool (rd_T62 l kk).f1, .slice A2 (rd_T62 l kk).f2.length c2]] wr fun e w' => e = .returned (.bool true) ∧ Below wr.heap.size wr w') := ⟨by
          have := not_may (rd_T62 l kk) A2 c2 wr hC2 hl2
          rwa [decide_eq_false hm] at this⟩
        have HMM := Aside0.mk (And.intro hm hmem)
        clear hC2 hl2 hm hmem
        go_wp2_with (first | (go_at_call 26; refine HM.out.mono ?_; rintro e w' ⟨rfl, hb⟩; have HB := Aside0.mk (below_step BW.out hb); clear hb))
        go_ret
        exact ⟨_, rfl, ⟨fun _ => ⟨_, HMM.out.2, HMM.out.1⟩, fun _ => by omega⟩, HB.out⟩
    · have hltz : ¬ (kk : Int) < (n : Int) := by omega
      go_wp2_with fail
      go_ret
      refine ⟨_, rfl, ⟨fun h => absurd h (by decide), fun ⟨a, ha, hna⟩ => ?_⟩, BW.out⟩
      obtain ⟨j, hj, hja⟩ := List.getElem_of_mem ha
      have hjm := A0.out j (by have := HL.out; omega)
      rw [rd_get l j hj, hja] at hjm
      exact absurd hjm hna
theorem contains_may (w : World) (A : Option Addr) (n c : Nat) (l : List S62) (hC : Kd.C k62 w A n l) (hn : n ≤ 9223372036854775807) :
    Calls Tryz.prog 25 #[.slice A n c, .func (.func 26) #[] #[]] w fun e w' => e = .returned (.bool (decide (∃ a ∈ l, ¬ Wr.may (toA a)))) ∧ Below w.heap.size w w' := by
  have HI := Aside0.mk (index_may w A n c l hC hn)
  clear hC
  go_enter Tryz.func25, Tryz.ntmps25
  go_wp2_with (first | (go_at_call 51; refine HI.out.mono ?_; rintro e w' ⟨r, rfl, hr, hb⟩; have HR := Aside0.mk hr; have HB := Aside0.mk hb; clear hr hb))
  go_ret
  exact ⟨by
    by_cases h : 0 ≤ r
    · rw [decide_eq_true (HR.out.1 h)]; simp [h]
    · rw [decide_eq_false (fun h2 => h (HR.out.2 h2))]; simp [h], HB.out⟩
end Go.Proofs.YtmajfcdfafhkfaaGreatDoor.H
namespace Go.Proofs.YtmajfcdfafhkfaaGreatDoor.H
open Go.RowKit Go.Proofs.YtmajfcdfafhkfaaGreatDoorW.PrintWords Go.Proofs.YtmajfcdfafhkfaaGreatDoorW.PrintLast Go.Proofs.YtmajfcdfafhkfaaGreatDoor.Leaf Go.Proofs.YtmajfcdfafhkfaaGreatDoor.P
set_option linter.unusedVariables false
set_option linter.unusedSimpArgs false
set_option maxHeartbeats 4000000
set_option maxRecDepth 100000
theorem R_own {w : World} {B : Nat} {ok : Nat → Prop} {v : Value} {b : List Int} (h : Kd.R (Kd.int .u8) 5 w B ok v b) :
    ∃ A c, v = .slice A b.length c ∧ (A = none → b.length = 0 ∧ c = 0) ∧ b.length ≤ c ∧ Kd.C (Kd.int .u8) w A b.length b := by
  obtain ⟨A, c, hv, hle, hC⟩ := Kd.R_reads h
  obtain ⟨inner, ho, hr⟩ := h.2
  refine ⟨A, c, hv, fun hA => ?_, hle, hC⟩
  subst hA
  rcases ho.2 with ⟨h1, hn⟩ | ⟨q, cap, cur, hv2, _⟩
  · rw [hv] at h1
    injection h1 with _ e2 e3
    exact ⟨e2, e3⟩
  · rw [hv] at hv2
    injection hv2 with e1
    cases e1
theorem Uvarint_R (W : World) (B : Nat) (ok : Nat → Prop) (v : Value) (x : Nat) (b : List Int) (hR : Kd.R (Kd.int .u8) 5 W B ok v b) (hn : b.length < 60000000000000) (hx : x < 18446744073709551616) :
    Calls Tryz.prog 28 #[v, .int .u64 (x : Int)] W fun e w' => ∃ v, e = .returned v ∧ Kd.R (Kd.int .u8) 5 w' W.heap.size (fun k => W.heap.size ≤ k) v (b ++ Wr.uv x) ∧ Below W.heap.size W w' := by
  obtain ⟨A, c, rfl, hA, hc, hC⟩ := R_own hR
  exact wire_Uvarint W A b.length c x b hA hc (by omega) hx hC
theorem Bytes_R (W : World) (B : Nat) (ok : Nat → Prop) (v : Value) (b : List Int) (X : Option Addr) (m cx : Nat) (s : List Int) (hR : Kd.R (Kd.int .u8) 5 W B ok v b) (hn : b.length < 60000000000000) (hm : m < 9000000000000) (hX : Kd.C (Kd.int .u8) W X m s) :
    Calls Tryz.prog 29 #[v, .slice X m cx] W fun e w' => ∃ v, e = .returned v ∧ Kd.R (Kd.int .u8) 5 w' W.heap.size (fun k => W.heap.size ≤ k) v (b ++ (Wr.uv m ++ s)) ∧ Below W.heap.size W w' := by
  obtain ⟨A, c, rfl, hA, hc, hC⟩ := R_own hR
  exact wire_Bytes W A b.length c b X m cx s hA hc hn hC hm hX
theorem take_acts (l : List S62) (i : Nat) (hi : i < l.length) : (l.map toA).take (i + 1) = (l.map toA).take i ++ [toA (rd_T62 l i)] := by
  rw [rd_get l i hi, List.take_succ_eq_append_getElem (by rw [List.length_map]; exact hi), List.getElem_map]
/-- What Encode answers. -/
def EncR (W w' : World) (e : Ending) (l : List S62) : Prop :=
  (l.length ≤ 256 ∧ (∀ a ∈ l, Wr.may (toA a)) ∧ (Wr.encs (l.map toA)).length ≤ 13005 ∧ ∃ v, e = .returned (.tuple #[v, .int .i64 0]) ∧ Kd.R (Kd.int .u8) 5 w' W.heap.size (fun k => W.heap.size ≤ k) v (Wr.encs (l.map toA))) ∨
  (¬ (l.length ≤ 256 ∧ ∀ a ∈ l, Wr.may (toA a)) ∧ e = .returned (.tuple #[.slice none 0 0, .int .i64 1])) ∨
  (l.length ≤ 256 ∧ (∀ a ∈ l, Wr.may (toA a)) ∧ 13005 < (Wr.encs (l.map toA)).length ∧ e = .returned (.tuple #[.slice none 0 0, .int .i64 3]))
theorem store_Encode (W : World) (A : Option Addr) (n c : Nat) (l : List S62) (hC : Kd.C k62 W A n l) (hn : n ≤ 9223372036854775807) :
    Calls Tryz.prog 7 #[.slice A n c] W fun e w' => EncR W w' e l ∧ Below W.heap.size W w' := by
  have HC := Aside0.mk hC
  have HL := Aside0.mk hC.1
  have HCO := Aside0.mk (contains_may W A n c l hC hn)
  clear hC
  by_cases h256 : n ≤ 256
  · have h256z : ¬ (n : Int) > 256 := by omega
    by_cases hm : ∀ a ∈ l, Wr.may (toA a)
    · have HM := Aside0.mk hm
      have HCO2 : Aside0 (Calls Tryz.prog 25 #[.slice A n c, .func (.func 26) #[] #[]] W fun e w' => e = .returned (.bool false) ∧ Below W.heap.size W w') := ⟨by
        have := HCO.out
        rwa [decide_eq_false (by rintro ⟨a, ha, hna⟩; exact hna (hm a ha))] at this⟩
      have hw : IntKind.u64.wrap (n : Int) = (n : Int) := by show (n : Int) % 18446744073709551616 = _; omega
      clear HCO hm
      go_enter Tryz.func7, Tryz.ntmps7
      go_wp2_with (first | (go_at_call 25; refine HCO2.out.mono ?_; rintro e w1 ⟨rfl, hb⟩; have HB1 := Aside0.mk hb; clear hb) | (go_at_call 28; refine (wire_Uvarint w1 none 0 0 n [] (fun _ => ⟨rfl, rfl⟩) (by omega) (by omega) (by omega) (Kd.C_nil _ _)).mono ?_; rintro e w2 ⟨v, rfl, hR, hb⟩; have HB2 := Aside0.mk (below_step HB1.out hb); have HR2 := Aside0.mk (Kd.R_mono (Kd.R_lower hR HB1.out.size) (fun k hk => Nat.le_trans HB1.out.size hk)); clear hR hb))
      go_loopg [4, 6, 20] n (fun gg s4 _ s20 wr => ∃ i : Nat, i ≤ n ∧ n - i ≤ gg ∧ s20 = .int .i64 (i : Int) ∧ Aside0 (Below W.heap.size W wr) ∧ Aside0 (Kd.R (Kd.int .u8) 5 wr W.heap.size (fun k => W.heap.size ≤ k) s4 (Wr.uv n ++ ((l.map toA).take i).flatMap Wr.enc1)) ∧ Aside0 ((Wr.uv n ++ ((l.map toA).take i).flatMap Wr.enc1).length ≤ 10 + i * 5000))
      case atStart => exact ⟨0, Nat.zero_le _, by omega, rfl, HB2, ⟨by simpa using HR2.out⟩, ⟨by have := uv_len n (by omega); simpa using this⟩⟩
      case round =>
        clear HB1 HB2 HR2 HCO2
        obtain ⟨i, hi, hg, rfl, HB, HR, HZ⟩ := hrel
        by_cases hlt : i < n
        · have hltz : (i : Int) < (n : Int) := by omega
          have hw1 : IntKind.i64.wrap ((i : Int) + 1) = (i : Int) + 1 := IntWalk.i64_in _ (by omega)
          obtain ⟨ad, A2, c2, rfl, hx0, hx1, hx2, hl2, hC2⟩ := at_act (Kd.C_below HC.out HB.out) i hlt
          have HTK := Aside0.mk (take_acts l i (by have := HL.out; omega))
          have HMA := Aside0.mk (HM.out _ (rd_mem l i (by have := HL.out; omega)))
          go_upto_region 7 with (fail)
          generalize rd_T62 l i = a at *
          have t0 := cell_top wr #[.string a.f0, .bool a.f1, .slice A2 a.f2.length c2] 62 0
          have t1 := cell_top wr #[.string a.f0, .bool a.f1, .slice A2 a.f2.length c2] 62 1
          have t2 := cell_top wr #[.string a.f0, .bool a.f1, .slice A2 a.f2.length c2] 62 2
          have HC2 := Aside0.mk (Kd.C_alloc hC2 (.cells #[.string a.f0, .bool a.f1, .slice A2 a.f2.length c2] 62))
          have HB0 := Aside0.mk (below_alloc HB.out (.cells #[.string a.f0, .bool a.f1, .slice A2 a.f2.length c2] 62))
          have HR0 := Aside0.mk (Kd.R_alloc HR.out (.cells #[.string a.f0, .bool a.f1, .slice A2 a.f2.length c2] 62))
          have HT0 : Aside0 (wr.heap.size < (wr.alloc (.cells #[.string a.f0, .bool a.f1, .slice A2 a.f2.length c2] 62)).heap.size) := ⟨by rw [World.size_alloc]; omega⟩
          clear hC2 HB HR hx0 hx1 hx2
          generalize wr.alloc (.cells #[.string a.f0, .bool a.f1, .slice A2 a.f2.length c2] 62) = w0 at *
          generalize wr.heap.size = q at *
          have hcv := fun W => str_bytes W a.f0
          have HBB := Aside0.mk (bytes_below (Below.refl w0.heap.size w0) (Nat.le_refl _) 5 a.f0)
          have HBW := Aside0.mk (below_step HB0.out HBB.out)
          have HBS : Aside0 (W.heap.size ≤ (Lib.bytesWorld w0 5 a.f0).heap.size) := ⟨HBW.out.size⟩
          have HKL : Aside0 (a.f0.size ≤ 64) := ⟨by have := HMA.out.2.1; rwa [show (toA a).1 = kb a.f0 from rfl, kb_length] at this⟩
          have HDL : Aside0 (a.f2.length ≤ 4096) := ⟨HMA.out.2.2.1⟩
          have HBY := Aside0.mk (Bytes_R (Lib.bytesWorld w0 5 a.f0) W.heap.size _ u4 _ (some ⟨w0.heap.size, 0, none⟩) a.f0.size (grownCap w0 a.f0.size 0 5) (kb a.f0) (Kd.R_below HR0.out HBB.out) (by have := HZ.out; omega) (by have := HKL.out; omega) (C_bytesWorld w0 a.f0 (by have := HKL.out; omega)))
          generalize hpre : Wr.uv n ++ ((l.map toA).take i).flatMap Wr.enc1 = pre at *
          have HPR := Aside0.mk hpre
          have HLen2 : Aside0 ((pre ++ (Wr.uv a.f0.size ++ kb a.f0)).length ≤ 10 + i * 5000 + 80) := ⟨by
            have h1 := HZ.out
            have h2 := uv_len a.f0.size (by have := HKL.out; omega)
            have h3 := HKL.out
            rw [List.length_append, List.length_append, kb_length]; omega⟩
          clear HR0 hpre
          by_cases hs : a.f1 = true
          · rw [hs] at t1
            have HS := Aside0.mk hs
            clear hs
            go_upto_region 9 with (first | (go_at_call 29; refine HBY.out.mono ?_; rintro e w2 ⟨v2, rfl, hR, hb⟩; have HB2 := Aside0.mk (HBW.out.trans (hb.mono HBS.out)); have HR2 := Aside0.mk (Kd.R_mono (Kd.R_lower hR HBS.out) (fun k hk => Nat.le_trans HBS.out hk)); have hbt := below_step HBB.out hb; have HC3 := Aside0.mk (Kd.C_below HC2.out hbt); have k1 := pw_cell_below hbt t1; have k2 := pw_cell_below hbt t2; clear hR hb hbt))
            have HLen3 : Aside0 ((pre ++ (Wr.uv a.f0.size ++ kb a.f0) ++ Wr.uv 1).length ≤ 10 + i * 5000 + 90) := ⟨by
              have h1 := HLen2.out
              have h2 := uv_len 1 (by decide)
              rw [List.length_append]; omega⟩
            have HU : Aside0 (∀ w', Below w2.heap.size w2 w' → Calls Tryz.prog 28 #[v2, .int .u64 1] w' fun e w'' => ∃ v, e = .returned v ∧ Kd.R (Kd.int .u8) 5 w'' w'.heap.size (fun k => w'.heap.size ≤ k) v (pre ++ (Wr.uv a.f0.size ++ kb a.f0) ++ Wr.uv 1) ∧ Below w'.heap.size w' w'') := ⟨fun w' hb => Uvarint_R w' W.heap.size _ v2 1 _ (Kd.R_below HR2.out hb) (by have := HLen2.out; omega) (by decide)⟩
            go_region_with (first | (go_at_call 28; refine (HU.out _ (by first | exact Below.refl _ _ | exact below_drew (Below.refl _ _))).mono ?_; rintro e w3 ⟨v3, rfl, hR, hb⟩; have HB3b : Aside0 (Below w2.heap.size w2 w3) := ⟨by first | exact hb | exact below_step (below_drew (Below.refl _ _)) hb⟩; have HR3 : Aside0 (Kd.R (Kd.int .u8) 5 w3 W.heap.size (fun k => W.heap.size ≤ k) v3 (pre ++ (Wr.uv a.f0.size ++ kb a.f0) ++ Wr.uv 1)) := ⟨Kd.R_mono (Kd.R_lower hR HB2.out.size) (fun k hk => Nat.le_trans HB2.out.size hk)⟩; have HC4 := Aside0.mk (Kd.C_below HC3.out HB3b.out); have m2 := pw_cell_below HB3b.out k2; clear hR hb) | (go_at_call 29; refine (Bytes_R w3 W.heap.size _ v3 _ A2 a.f2.length c2 a.f2 HR3.out (by have := HLen3.out; omega) (by have := HDL.out; omega) HC4.out).mono ?_; rintro e w4 ⟨v4, rfl, hR, hb⟩; have HB4 := Aside0.mk (below_step (below_step HB2.out HB3b.out) hb); have HR4 : Aside0 (Kd.R (Kd.int .u8) 5 w4 W.heap.size (fun k => W.heap.size ≤ k) v4 (pre ++ (Wr.uv a.f0.size ++ kb a.f0) ++ Wr.uv 1 ++ (Wr.uv a.f2.length ++ a.f2))) := ⟨Kd.R_mono (Kd.R_lower hR (below_step HB2.out HB3b.out).size) (fun k hk => Nat.le_trans (below_step HB2.out HB3b.out).size hk)⟩; clear hR hb))
            all_goals
              go_wp2_with fail
              go_roundg (n - (i + 1))
              case measure => omega
              case rel =>
                have e1 : Wr.uv n ++ ((l.map toA).take (i + 1)).flatMap Wr.enc1 = pre ++ (Wr.uv a.f0.size ++ kb a.f0) ++ Wr.uv 1 ++ (Wr.uv a.f2.length ++ a.f2) := by
                  rw [HTK.out, List.flatMap_append, ← List.append_assoc, HPR.out]
                  simp [Wr.enc1, toA, HS.out, kb_length, Wr.uv_1]
                exact ⟨i + 1, by omega, by omega, by go_num, HB4, ⟨by rw [e1]; exact HR4.out⟩, ⟨by
                  rw [e1, List.length_append, show (Wr.uv a.f2.length ++ a.f2).length = (Wr.uv a.f2.length).length + a.f2.length from List.length_append]
                  have := HLen3.out
                  have := uv_len a.f2.length (by have := HDL.out; omega)
                  have := HDL.out
                  omega⟩⟩
          · have hs' : a.f1 = false := by cases h : a.f1 <;> simp_all
            rw [hs'] at t1
            have HS := Aside0.mk hs'
            clear hs hs'
            go_wp2_with (first | (go_at_call 29; refine HBY.out.mono ?_; rintro e w2 ⟨v2, rfl, hR, hb⟩; have HB2 := Aside0.mk (HBW.out.trans (hb.mono HBS.out)); have HR2 := Aside0.mk (Kd.R_mono (Kd.R_lower hR HBS.out) (fun k hk => Nat.le_trans HBS.out hk)); have hbt := below_step HBB.out hb; have HC3 := Aside0.mk (Kd.C_below HC2.out hbt); have k1 := pw_cell_below hbt t1; have k2 := pw_cell_below hbt t2; clear hR hb hbt) | (go_at_call 28; refine (Uvarint_R w2 W.heap.size _ v2 0 _ HR2.out (by have := HLen2.out; omega) (by decide)).mono ?_; rintro e w3 ⟨v3, rfl, hR, hb⟩; have HB3 := Aside0.mk (below_step HB2.out hb); have HR3 := Aside0.mk (Kd.R_mono (Kd.R_lower hR HB2.out.size) (fun k hk => Nat.le_trans HB2.out.size hk)); clear hR hb))
            go_roundg (n - (i + 1))
            case measure => omega
            case rel =>
              have e1 : Wr.uv n ++ ((l.map toA).take (i + 1)).flatMap Wr.enc1 = pre ++ (Wr.uv a.f0.size ++ kb a.f0) ++ Wr.uv 0 := by
                rw [HTK.out, List.flatMap_append, ← List.append_assoc, HPR.out, List.append_assoc, List.append_assoc]
                congr 1
                simp [Wr.enc1, toA, HS.out, kb_length, Wr.uv_0]
              exact ⟨i + 1, by omega, by omega, by go_num, HB3, ⟨by rw [e1]; exact HR3.out⟩, ⟨by rw [e1, List.length_append]; have := HLen2.out; have := uv_len 0 (by decide); omega⟩⟩
        · have hltz : ¬ (i : Int) < (n : Int) := by omega
          obtain rfl : i = n := by omega
          have HE : Aside0 (Wr.uv i ++ ((l.map toA).take i).flatMap Wr.enc1 = Wr.encs (l.map toA)) := ⟨by
            unfold Wr.encs
            rw [List.take_of_length_le (by rw [List.length_map]; have := HL.out; omega), List.length_map, HL.out]⟩
          rw [HE.out] at HR
          have HE2 := Aside0.mk (And.intro (show l.length ≤ 256 by have := HL.out; omega) HM.out)
          clear HZ HE
          obtain ⟨A', c', hv', _, _, _⟩ := R_own HR.out
          generalize hb : Wr.encs (l.map toA) = b at *
          have HEB := Aside0.mk hb
          clear hb
          by_cases hbig : 13005 < b.length
          · have hbz : ((b.length : Nat) : Int) > 13005 := by omega
            subst hv'
            go_wp2_with fail
            go_ret2
            exact ⟨Or.inr (Or.inr ⟨HE2.out.1, HE2.out.2, by rw [HEB.out]; exact hbig, rfl⟩), HB.out⟩
          · have hbz : ¬ ((b.length : Nat) : Int) > 13005 := by omega
            subst hv'
            go_wp2_with fail
            go_ret2
            exact ⟨Or.inl ⟨HE2.out.1, HE2.out.2, by rw [HEB.out]; omega, _, rfl, by rw [HEB.out]; exact HR.out⟩, HB.out⟩
    · have HNM := Aside0.mk hm
      have HCO2 : Aside0 (Calls Tryz.prog 25 #[.slice A n c, .func (.func 26) #[] #[]] W fun e w' => e = .returned (.bool true) ∧ Below W.heap.size W w') := ⟨by
        have := HCO.out
        rwa [decide_eq_true (by
          by_cases h : ∃ a ∈ l, ¬ Wr.may (toA a)
          · exact h
          · exact absurd (fun a ha => Decidable.byContradiction fun hn => h ⟨a, ha, hn⟩) hm)] at this⟩
      clear HCO hm
      go_enter Tryz.func7, Tryz.ntmps7
      go_wp2_with (first | (go_at_call 25; refine HCO2.out.mono ?_; rintro e w1 ⟨rfl, hb⟩; have HB1 := Aside0.mk hb; clear hb))
      go_ret2
      exact ⟨Or.inr (Or.inl ⟨fun h => HNM.out h.2, rfl⟩), HB1.out⟩
  · have h256z : (n : Int) > 256 := by omega
    clear HCO
    go_enter Tryz.func7, Tryz.ntmps7
    go_wp2_with fail
    go_ret2
    exact ⟨Or.inr (Or.inl ⟨fun h => h256 (by have := HL.out; have := h.1; omega), rfl⟩), Below.refl _ _⟩
end Go.Proofs.YtmajfcdfafhkfaaGreatDoor.H
namespace Go.Proofs.YtmajfcdfafhkfaaGreatDoor.P
open Go.Proofs.YtmajfcdfafhkfaaGreatDoor.Leaf
open Go.RowKit Go.Proofs.YtmajfcdfafhkfaaGreatDoorW.PrintWords Go.Proofs.YtmajfcdfafhkfaaGreatDoorW.PrintLast Go.Proofs.YtmajfcdfafhkfaaGreatDoorW.PrintMore
attribute [local go_sem] max2_int min2_int max_two min_two max_three min_three max_four min_four   -- for this text's walks alone
set_option linter.unusedVariables false
set_option linter.unusedSimpArgs false
/-- A state of type 104 at block g of W; what its slices lead to came in by w0. -/
def IsS104 (w0 W : World) (g : Nat) (f0 : List Int) (f1 : Int) (f2 : Int) : Prop := ∃ A0 c0, W.heap[g]? = some (.cells #[.slice A0 f0.length c0, .int .i64 f1, .int .i64 f2] 104 (0, 0)) ∧ w0.heap.size ≤ g ∧ Kd.C (Kd.int .u8) w0 A0 f0.length f0
theorem IsS104.grown {w0 W : World} {g : Nat} {f0 : List Int} {f1 : Int} {f2 : Int} {W1 : World} {row : Option Nat} (h : IsS104 w0 W g f0 f1 f2) (hw : W.grownBy W1 row) (hne : some g ≠ row) : IsS104 w0 W1 g f0 f1 f2 := by
 obtain ⟨A0, c0, hb, hg, hr0⟩ := h
 exact ⟨A0, c0, blk_grown hb hw hne, hg, hr0⟩
theorem IsS104.kept {w0 W : World} {g : Nat} {f0 : List Int} {f1 : Int} {f2 : Int} {W1 : World} {S : Nat → Prop} (h : IsS104 w0 W g f0 f1 f2) (hk : Kept W W1 S) (hne : ¬ S g) : IsS104 w0 W1 g f0 f1 f2 := by
 obtain ⟨A0, c0, hb, hg, hr0⟩ := h
 exact ⟨A0, c0, blk_kept hb hk hne, hg, hr0⟩
theorem IsS104.below {w0 W : World} {g : Nat} {f0 : List Int} {f1 : Int} {f2 : Int} {W1 : World} (h : IsS104 w0 W g f0 f1 f2) (hw : Below W.heap.size W W1) : IsS104 w0 W1 g f0 f1 f2 := h.grown (grown_of_below hw none) (by simp)
theorem IsS104.alloc {w0 W : World} {g : Nat} {f0 : List Int} {f1 : Int} {f2 : Int} (h : IsS104 w0 W g f0 f1 f2) (o : Obj) : IsS104 w0 (W.alloc o) g f0 f1 f2 := h.below (below_alloc (Below.refl _ _) o)
theorem IsS104.drewN {w0 W : World} {g : Nat} {f0 : List Int} {f1 : Int} {f2 : Int} (h : IsS104 w0 W g f0 f1 f2) (m : Nat) : IsS104 w0 (W.drewN m) g f0 f1 f2 := h
theorem IsS104.drew {w0 W : World} {g : Nat} {f0 : List Int} {f1 : Int} {f2 : Int} (h : IsS104 w0 W g f0 f1 f2) : IsS104 w0 W.drew g f0 f1 f2 := h
theorem IsS104.at_ {w0 W : World} {g : Nat} {f0 : List Int} {f1 : Int} {f2 : Int} {w' : World} {m : Nat} (hq : W.drewN m = w') (h : IsS104 w0 W g f0 f1 f2) : IsS104 w0 w' g f0 f1 f2 := by subst hq; exact IsS104.drewN h m
theorem IsS104.apart {w0 W : World} {g : Nat} {f0 : List Int} {f1 : Int} {f2 : Int} {α : Type} {d : Kd α} {e : Nat} {base : Nat} {ok : Nat → Prop} {v : Value} {xs : List α} (h : IsS104 w0 W g f0 f1 f2) (ho : d.R e W base ok v xs) (ht : ∀ q, q ∈ e :: d.E → q ≠ 104) : d.R e W base (fun k => ok k ∧ k ≠ g) v xs := by
 obtain ⟨A0, c0, hb, hg, hr0⟩ := h
 exact Kd.R_types ho hb ht
theorem IsS104.own_ne {w0 W : World} {g : Nat} {f0 : List Int} {f1 : Int} {f2 : Int} {α : Type} {d : Kd α} {e : Nat} {base : Nat} {ok : Nat → Prop} {v : Value} {xs : List α} (h : IsS104 w0 W g f0 f1 f2) (ho : d.R e W base ok v xs) (ht : e ≠ 104) : some g ≠ v.ownBlock := by
 obtain ⟨A0, c0, hb, hg, hr0⟩ := h
 exact Kd.R_ne ho hb ht
theorem IsS104.lt {w0 W : World} {g : Nat} {f0 : List Int} {f1 : Int} {f2 : Int} (h : IsS104 w0 W g f0 f1 f2) : g < W.heap.size := by
 obtain ⟨A0, c0, hb, hg, hr0⟩ := h
 exact blk_lt hb
theorem IsS104.set_1 {w0 W : World} {g : Nat} {f0 : List Int} {f1 : Int} {f2 : Int} (h : IsS104 w0 W g f0 f1 f2) (x : Int) : IsS104 w0 (W.setCell ⟨g, 1, none⟩ (.int .i64 x)) g f0 x f2 := by
 obtain ⟨A0, c0, hb, hg, hr0⟩ := h
 exact ⟨A0, c0, by simpa using blk_set hb 1 (.int .i64 x), hg, hr0⟩
def wire_Reader_fail.f (s0_0 : List Int) (s0_1 : Int) (s0_2 : Int) (a1 : Int) : Option (Int × Int) := if s0_2 = 0 then (some (s0_1, a1)) else (some (s0_1, s0_2))
end Go.Proofs.YtmajfcdfafhkfaaGreatDoor.P
namespace Go.Proofs.YtmajfcdfafhkfaaGreatDoor.H
open Go.RowKit Go.Proofs.YtmajfcdfafhkfaaGreatDoorW.PrintWords Go.Proofs.YtmajfcdfafhkfaaGreatDoorW.PrintLast Go.Proofs.YtmajfcdfafhkfaaGreatDoor.Leaf Go.Proofs.YtmajfcdfafhkfaaGreatDoor.P
set_option linter.unusedVariables false
set_option linter.unusedSimpArgs false
set_option maxHeartbeats 4000000
set_option maxRecDepth 100000
/-- A reader's block: its bytes (A, c), how far it is, what was wrong. -/
structure Rd (w : World) (g : Nat) (A : Option Addr) (c : Nat) (b : List Int) (p : Nat) (e : Int) : Prop where
  blk : w.heap[g]? = some (.cells #[.slice A b.length c, .int .i64 (p : Int), .int .i64 e] 104 (0, 0))
  C : Kd.C (Kd.int .u8) w A b.length b
  hc : b.length ≤ c
  hp : p ≤ b.length
  hl : b.length < 1000000000
  by_ : Wr.Byte b
  nb : ∀ ad, A = some ad → ad.block < g
  al : ∀ ad, A = some ad → ad.block < w.heap.size
theorem Rd.lt {w : World} {g : Nat} {A : Option Addr} {c : Nat} {b : List Int} {p : Nat} {e : Int} (h : Rd w g A c b p e) : g < w.heap.size := (Array.getElem?_eq_some_iff.1 h.blk).1
theorem Rd.kept {w w' : World} {g : Nat} {A : Option Addr} {c : Nat} {b : List Int} {p : Nat} {e : Int} (h : Rd w g A c b p e) (hb : Below w.heap.size w w') : Rd w' g A c b p e :=
  ⟨(hb.block g h.lt).trans h.blk, Kd.C_below h.C hb, h.hc, h.hp, h.hl, h.by_, h.nb, fun ad ha => Nat.lt_of_lt_of_le (h.al ad ha) hb.size⟩
theorem C_far {w : World} {A : Option Addr} {n g k : Nat} {b : List Int} (h : Kd.C (Kd.int .u8) w A n b) (hn : ∀ ad, A = some ad → ad.block ≠ g) (u : Value) : Kd.C (Kd.int .u8) (w.setCell ⟨g, k, none⟩ u) A n b := by
  cases A with
  | none => exact ⟨h.1, h.2.1, fun h0 => by obtain ⟨ad, e, _⟩ := h.2.2 h0; cases e⟩
  | some ad => exact C_block h (Below.heap_setCell _ _ _ _ (hn ad rfl))
theorem Rd.at_ {w : World} {g : Nat} {A : Option Addr} {c : Nat} {b : List Int} {p : Nat} {e : Int} (h : Rd w g A c b p e) (p' : Nat) (hp' : p' ≤ b.length) : Rd (w.setCell ⟨g, 1, none⟩ (.int .i64 (p' : Int))) g A c b p' e :=
  ⟨by simpa using blk_set h.blk 1 (.int .i64 (p' : Int)), C_far h.C (fun ad h' => Nat.ne_of_lt (h.nb ad h')) _, h.hc, hp', h.hl, h.by_, h.nb, by rw [World.size_setCell]; exact h.al⟩
theorem Rd.err {w : World} {g : Nat} {A : Option Addr} {c : Nat} {b : List Int} {p : Nat} {e : Int} (h : Rd w g A c b p e) (e' : Int) : Rd (w.setCell ⟨g, 2, none⟩ (.int .i64 e')) g A c b p e' :=
  ⟨by simpa using blk_set h.blk 2 (.int .i64 e'), C_far h.C (fun ad h' => Nat.ne_of_lt (h.nb ad h')) _, h.hc, h.hp, h.hl, h.by_, h.nb, by rw [World.size_setCell]; exact h.al⟩
theorem Rd.far {w : World} {g : Nat} {A : Option Addr} {c : Nat} {b : List Int} {p : Nat} {e : Int} (h : Rd w g A c b p e) (q k : Nat) (hq : q ≠ g) (ha : ∀ ad, A = some ad → ad.block < q) (u : Value) : Rd (w.setCell ⟨q, k, none⟩ u) g A c b p e :=
  ⟨(Below.heap_setCell _ _ _ _ (fun h => hq h.symm)).trans h.blk, C_far h.C (fun ad h => Nat.ne_of_lt (ha ad h)) _, h.hc, h.hp, h.hl, h.by_, h.nb, by rw [World.size_setCell]; exact h.al⟩
theorem Rd.grown {w w' : World} {g : Nat} {A : Option Addr} {c : Nat} {b : List Int} {p : Nat} {e : Int} {row : Option Nat} (h : Rd w g A c b p e) (hg : w.grownBy w' row) (hn : ∀ k, row = some k → g < k) : Rd w' g A c b p e where
  blk := (hg.block g h.lt (fun he => Nat.lt_irrefl _ (hn g he.symm))).trans h.blk
  C := by
    have hC := h.C
    have hal := h.al
    have hnb := h.nb
    revert hC hal hnb
    cases A with
    | none => exact fun hC _ _ => ⟨hC.1, hC.2.1, fun h0 => by obtain ⟨ad, e, _⟩ := hC.2.2 h0; cases e⟩
    | some ad => exact fun hC hal hnb => C_block hC (hg.block ad.block (hal ad rfl) (fun he => by have := hn _ he.symm; have := hnb ad rfl; omega))
  hc := h.hc
  hp := h.hp
  hl := h.hl
  by_ := h.by_
  nb := h.nb
  al := fun ad ha => Nat.lt_of_lt_of_le (h.al ad ha) hg.size
theorem Kp.of_below {w w' : World} {g : Nat} (h : Below w.heap.size w w') : Kp w w' g g := ⟨h.size, fun B _ _ h3 => h.mono h3, fun k hk _ _ => h.block k hk⟩
theorem Kp.trans {w w1 w2 : World} {g s : Nat} (h : Kp w w1 g s) (h2 : Kp w1 w2 g s) : Kp w w2 g s :=
  ⟨Nat.le_trans h.1 h2.1, fun B a b c => (h.2.1 B a b c).trans (h2.2.1 B a b (Nat.le_trans c h.1)), fun k hk a b => (h2.2.2 k (Nat.lt_of_lt_of_le hk h.1) a b).trans (h.2.2 k hk a b)⟩
section
variable {w : World} {g : Nat} {A : Option Addr} {c : Nat} {b : List Int} {p : Nat} {e : Int}
theorem fine_ok (h : Rd w g A c b p 0) : Calls Tryz.prog 78 #[.pointer (some ⟨g, 0, none⟩)] w fun e w' => e = .returned (.bool true) ∧ w' = w := by
  have h2 := cell_of_block (k := 2) h.blk rfl
  clear h
  go_enter Tryz.func78, Tryz.ntmps78
  go_wp2_with fail
  go_ret
  exact ⟨rfl, rfl⟩
theorem fine_bad (h : Rd w g A c b p e) (he : e ≠ 0) : Calls Tryz.prog 78 #[.pointer (some ⟨g, 0, none⟩)] w fun e w' => e = .returned (.bool false) ∧ w' = w := by
  have h2 := cell_of_block (k := 2) h.blk rfl
  have he2 : (e == 0) = false := beq_eq_false_iff_ne.2 he
  clear h
  go_enter Tryz.func78, Tryz.ntmps78
  go_wp2_with fail
  go_ret
  exact ⟨rfl, rfl⟩
theorem fail_ (h : Rd w g A c b p 0) (x : Int) : Calls Tryz.prog 58 #[.pointer (some ⟨g, 0, none⟩), .int .i64 x] w fun e w' => e = .returned (.tuple #[]) ∧ w' = w.setCell ⟨g, 2, none⟩ (.int .i64 x) := by
  have h2 := cell_of_block (k := 2) h.blk rfl
  have hf := blk_frozen h.blk 2
  clear h
  go_enter Tryz.func58, Tryz.ntmps58
  go_wp2_with fail
  go_end0
  exact ⟨rfl, rfl⟩
theorem err_ (h : Rd w g A c b p e) : Calls Tryz.prog 37 #[.pointer (some ⟨g, 0, none⟩)] w fun r w' => r = .returned (.int .i64 e) ∧ w' = w := by
  have h2 := cell_of_block (k := 2) h.blk rfl
  clear h
  go_enter Tryz.func37, Tryz.ntmps37
  go_wp2_with fail
  go_ret
  exact ⟨rfl, rfl⟩
end
theorem and127 : ∀ x : Fin 256, bits BinOp.and IntKind.u8 ((x.1 : Nat) : Int) 127 = ((x.1 % 128 : Nat) : Int) := by decide +kernel
theorem and127' (m : Nat) (h : m < 256) : bits BinOp.and IntKind.u8 (m : Int) 127 = ((m % 128 : Nat) : Int) := and127 ⟨m, h⟩
/-- What peek answers. -/
def pk (l : List Int) : Nat × Nat := (Wr.peekN l 0).getD (0, 0)
theorem or_shl (a x k : Nat) (ha : a < 128 ^ k) (hx : a + x * 128 ^ k < 18446744073709551616) : bits BinOp.or IntKind.u64 (a : Int) ((x * 128 ^ k : Nat) : Int) = ((a + x * 128 ^ k : Nat) : Int) := by
  have e1 : a ||| (x * 128 ^ k) = a + x * 128 ^ k := by
    rw [show (128 : Nat) = 2 ^ 7 from rfl, ← Nat.pow_mul] at *
    rw [Nat.or_comm, Nat.mul_comm x, ← Nat.two_pow_add_eq_or_of_lt ha, Nat.add_comm]
  rw [← e1]
  exact bits_or_u64_nat a (x * 128 ^ k) (by omega) (by omega)
theorem peek_no {rest : List Int} {k acc cn : Nat} {t : List Int} (hI : Wr.peekN rest 0 = (Wr.peekN (rest.drop k) k).map fun q => (acc + q.1 * 128 ^ k, k + q.2)) (hd : rest.drop k = (cn : Int) :: t) (hb : (k = 9 ∧ 1 < cn) ∨ (cn = 0 ∧ 0 < k)) : pk rest = (0, 0) := by
  unfold pk
  rw [hI, hd]
  simp only [Wr.peekN]
  rw [if_pos (by omega)]
  rfl
theorem peek_yes {rest : List Int} {k acc cn : Nat} {t : List Int} (hI : Wr.peekN rest 0 = (Wr.peekN (rest.drop k) k).map fun q => (acc + q.1 * 128 ^ k, k + q.2)) (hd : rest.drop k = (cn : Int) :: t) (hb : ¬ ((k = 9 ∧ 1 < cn) ∨ (cn = 0 ∧ 0 < k))) (hc : cn < 128) : pk rest = (acc + cn % 128 * 128 ^ k, k + 1) := by
  unfold pk
  rw [hI, hd]
  simp only [Wr.peekN]
  rw [if_neg (by omega), if_pos (by omega), Int.toNat_natCast, Nat.mod_eq_of_lt hc]
  rfl
theorem peek_on {rest : List Int} {k acc cn : Nat} {t : List Int} (hI : Wr.peekN rest 0 = (Wr.peekN (rest.drop k) k).map fun q => (acc + q.1 * 128 ^ k, k + q.2)) (hd : rest.drop k = (cn : Int) :: t) (hb : ¬ ((k = 9 ∧ 1 < cn) ∨ (cn = 0 ∧ 0 < k))) (hc : ¬ cn < 128) (h256 : cn < 256) :
    Wr.peekN rest 0 = (Wr.peekN t (k + 1)).map fun q => (acc + cn % 128 * 128 ^ k + q.1 * 128 ^ (k + 1), k + 1 + q.2) := by
  rw [hI, hd]
  simp only [Wr.peekN]
  rw [if_neg (by omega), if_neg (by omega), Option.map_map]
  congr 1
  funext q
  simp only [Function.comp, Int.toNat_natCast, Prod.mk.injEq]
  have e : cn % 128 = cn - 128 := by omega
  refine ⟨?_, by omega⟩
  rw [e, Nat.pow_succ, Nat.add_mul]
  have : 128 * q.1 * 128 ^ k = q.1 * (128 ^ k * 128) := by
    rw [Nat.mul_comm 128 q.1, Nat.mul_assoc, Nat.mul_comm 128]
  omega
theorem peek_none {rest : List Int} {k acc : Nat} (hI : Wr.peekN rest 0 = (Wr.peekN (rest.drop k) k).map fun q => (acc + q.1 * 128 ^ k, k + q.2)) (hk : rest.length ≤ k) : pk rest = (0, 0) := by
  unfold pk
  rw [hI, List.drop_eq_nil_of_le hk]
  rfl
theorem peek_or {k acc cn : Nat} (ha : acc < 128 ^ k) (h9 : k ≤ 9) (hb : ¬ ((k = 9 ∧ 1 < cn) ∨ (cn = 0 ∧ 0 < k))) : bits BinOp.or IntKind.u64 (acc : Int) (IntKind.u64.wrap ((cn : Int) % 128 * 2 ^ (7 * k))) = ((acc + cn % 128 * 128 ^ k : Nat) : Int) := by
  have hlt : acc + cn % 128 * 128 ^ k < 18446744073709551616 := by
    rcases (by omega : k ≤ 8 ∨ k = 9) with h | rfl
    · have h1 : 128 ^ k ≤ 128 ^ 8 := Nat.pow_le_pow_right (by decide) h
      have h2 : cn % 128 * 128 ^ k ≤ 127 * 128 ^ k := Nat.mul_le_mul_right _ (by omega)
      have h3 : (128 : Nat) ^ 8 = 72057594037927936 := by decide
      omega
    · have h1 : cn ≤ 1 := by omega
      have h3 : (128 : Nat) ^ 9 = 9223372036854775808 := by decide
      have h2 : cn % 128 * 128 ^ 9 ≤ 1 * 128 ^ 9 := Nat.mul_le_mul_right _ (by omega)
      omega
  have e : (cn : Int) % 128 * 2 ^ (7 * k) = ((cn % 128 * 128 ^ k : Nat) : Int) := by
    rw [show (128 : Nat) ^ k = 2 ^ (7 * k) by rw [Nat.pow_mul, show (2 : Nat) ^ 7 = 128 from rfl]]
    push_cast
    rfl
  rw [e, show IntKind.u64.wrap ((cn % 128 * 128 ^ k : Nat) : Int) = ((cn % 128 * 128 ^ k : Nat) : Int) by show ((cn % 128 * 128 ^ k : Nat) : Int) % 18446744073709551616 = _; omega]
  exact or_shl acc (cn % 128) k ha hlt
theorem peek_ (w : World) (g : Nat) (A : Option Addr) (c : Nat) (b : List Int) (p : Nat) (e : Int) (h : Rd w g A c b p e) :
    Calls Tryz.prog 79 #[.pointer (some ⟨g, 0, none⟩)] w fun r w' => r = .returned (.tuple #[.int .u64 ((pk (b.drop p)).1 : Nat), .int .i64 ((pk (b.drop p)).2 : Nat)]) ∧ Drawn0 w w' := by
  obtain ⟨i0, hi, hz⟩ := Option.map_eq_some_iff.1 P.info5
  simp only [Prod.mk.injEq] at hz
  have h0 : w.cell? ⟨g, 0, none⟩ = some (.slice A b.length c) := cell_of_block (k := 0) h.blk rfl
  have h1 : w.cell? ⟨g, 1, none⟩ = some (.int .i64 (p : Int)) := cell_of_block (k := 1) h.blk rfl
  have hcut := cut_from (P := Tryz.prog) 23 5 .i64 Tryz.underlying23 hi 1 hz.2.1 A b.length c (p : Int) (by omega) (by have := h.hp; omega)
  have hCD : Kd.C (Kd.int .u8) w (if c = p then A else A.map (·.add (p * 1))) (b.drop p).length (b.drop p) := Kd.C_drop (c := c) (m := p) h.C h.hp h.hc
  have HB := Aside0.mk (And.intro (h.by_.drop p) (show (b.drop p).length < 1000000000 by rw [List.length_drop]; have := h.hl; omega))
  have hle : b.length - p = (b.drop p).length := by rw [List.length_drop]
  rw [Int.toNat_natCast, hle] at hcut
  generalize (if c = p then A else A.map (·.add (p * 1))) = A1 at hcut hCD
  have HLE : Aside0 ((p : Int) ≤ (b.length : Int)) := ⟨by have := h.hp; omega⟩
  generalize b.drop p = rest at *
  have HCD := Aside0.mk hCD
  clear h hi hz hle hCD
  go_enter Tryz.func79, Tryz.ntmps79
  go_upto_region 2 with (fail)
  go_region
  all_goals clear h0 h1 hcut
  go_wp2_with fail
  have HCD2 : Aside0 (Kd.C (Kd.int .u8) w.drew A1 rest.length rest) := ⟨Kd.C_drewN HCD.out 1⟩
  have HW : Aside0 (Drawn0 w w.drew) := ⟨⟨1, rfl⟩⟩
  clear HCD
  generalize w.drew = wd at *
  go_loopg [4, 5, 6, 17] rest.length (fun gg s4 s5 s6 s17 wr => ∃ (k acc : Nat), k ≤ rest.length ∧ rest.length - k ≤ gg ∧ s17 = .int .i64 (k : Int) ∧ s4 = .int .u64 (acc : Int) ∧ wr = wd ∧ k ≤ 9 ∧ Aside0 (acc < 128 ^ k ∧ Wr.peekN rest 0 = (Wr.peekN (rest.drop k) k).map fun q => (acc + q.1 * 128 ^ k, k + q.2)))
  case atStart => exact ⟨0, 0, Nat.zero_le _, by omega, rfl, rfl, rfl, by omega, ⟨by decide, by rw [List.drop_zero]; cases Wr.peekN rest 0 <;> simp⟩⟩
  case round =>
    obtain ⟨k, acc, hk, hg, rfl, rfl, rfl, h9, HI⟩ := hrel
    by_cases hlt : k < rest.length
    · have hltz : (k : Int) < (rest.length : Int) := by omega
      have hw1 : IntKind.i64.wrap ((k : Int) + 1) = (k : Int) + 1 := IntWalk.i64_in _ (by omega)
      obtain ⟨ad, e1, hcs⟩ := HCD2.out.2.2 (by omega)
      obtain ⟨cn, hcn⟩ : ∃ cn : Nat, rest[k] = (cn : Int) := ⟨rest[k].toNat, by have := HB.out.1 _ (List.getElem_mem hlt); omega⟩
      have hc256 : cn < 256 := by have := HB.out.1 _ (List.getElem_mem hlt); omega
      have hx : wr.cell? (ad.add k) = some (.int .u8 (cn : Int)) := by
        obtain ⟨cs, hl, hR, hc⟩ := hcs k rest[k] (List.getElem?_eq_getElem hlt)
        have hR' : cs = [.int .u8 rest[k]] := hR
        subst hR'
        have := hc 0 _ rfl
        rw [hcn] at this
        rwa [show k * (Kd.int .u8).sz + 0 = k by show k * 1 + 0 = k; omega] at this
      subst e1
      have HDR : Aside0 (rest.drop k = (cn : Int) :: rest.drop (k + 1)) := ⟨by rw [← hcn]; exact List.drop_eq_getElem_cons hlt⟩
      have hand := and127' cn hc256
      have h7 : IntKind.i64.wrap (7 * (k : Int)) = ((7 * k : Nat) : Int) := by rw [IntWalk.i64_in _ (by omega)]; omega
      clear hcs hcn
      have HOR := Aside0.mk (fun hb => peek_or (k := k) (acc := acc) (cn := cn) HI.out.1 h9 hb)
      by_cases a1 : k = 9 <;> by_cases a2 : 1 < cn <;> by_cases a3 : cn = 0 <;> by_cases a4 : 0 < k <;> by_cases a5 : cn < 128 <;> first | (exfalso; omega) | skip
      all_goals
        first
          | have f1 : ((k : Int) == 9) = true := by (rw [beq_iff_eq]; omega)
          | have f1 : ((k : Int) == 9) = false := by (rw [beq_eq_false_iff_ne]; omega)
        first
          | have f2 : (cn : Int) > 1 := by omega
          | have f2 : ¬ (cn : Int) > 1 := by omega
        first
          | have f3 : ((cn : Int) == 0) = true := by (rw [beq_iff_eq]; omega)
          | have f3 : ((cn : Int) == 0) = false := by (rw [beq_eq_false_iff_ne]; omega)
        first
          | have f4 : (k : Int) > 0 := by omega
          | have f4 : ¬ (k : Int) > 0 := by omega
        first
          | have f5 : (cn : Int) < 128 := by omega
          | have f5 : ¬ (cn : Int) < 128 := by omega
        (try have hor := HOR.out (by omega))
        have HA := Aside0.mk (And.intro a1 (And.intro a2 (And.intro a3 (And.intro a4 a5))))
        clear a1 a2 a3 a4 a5
        go_wp2_with fail
        obtain ⟨a1, a2, a3, a4, a5⟩ := HA.out
        first
          | (go_ret2; exact ⟨by rw [peek_no HI.out.2 HDR.out (by omega)]; rfl, HW.out⟩)
          | (go_ret2; exact ⟨by rw [peek_yes HI.out.2 HDR.out (by omega) (by omega)]; first | rfl | (push_cast; rfl), HW.out⟩)
          | (go_roundg (rest.length - (k + 1))
             case measure => omega
             case rel =>
               have h9' : k + 1 ≤ 9 := by omega
               refine ⟨k + 1, acc + cn % 128 * 128 ^ k, by omega, by omega, by go_num, rfl, rfl, by omega, ⟨?_, peek_on HI.out.2 HDR.out (by omega) (by omega) hc256⟩⟩
               have h1 := HI.out.1
               have h2 : cn % 128 * 128 ^ k ≤ 127 * 128 ^ k := Nat.mul_le_mul_right _ (by omega)
               rw [Nat.pow_succ]
               omega)
    · have hltz : ¬ (k : Int) < (rest.length : Int) := by omega
      go_wp2_with fail
      go_ret2
      exact ⟨by rw [peek_none HI.out.2 (by omega)]; rfl, HW.out⟩
end Go.Proofs.YtmajfcdfafhkfaaGreatDoor.H
namespace Go.Proofs.YtmajfcdfafhkfaaGreatDoor.H
open Go.RowKit Go.Proofs.YtmajfcdfafhkfaaGreatDoorW.PrintWords Go.Proofs.YtmajfcdfafhkfaaGreatDoorW.PrintLast Go.Proofs.YtmajfcdfafhkfaaGreatDoor.Leaf Go.Proofs.YtmajfcdfafhkfaaGreatDoor.P
set_option linter.unusedVariables false
set_option linter.unusedSimpArgs false
set_option maxHeartbeats 4000000
set_option maxRecDepth 100000
theorem Kp.drewN (w : World) (g n : Nat) : Kp w (w.drewN n) g g := Kp.of_below (pw_below_drewN (Below.refl _ _) n)
theorem Rd.drewN {w : World} {g : Nat} {A : Option Addr} {c : Nat} {b : List Int} {p : Nat} {e : Int} (h : Rd w g A c b p e) (n : Nat) : Rd (w.drewN n) g A c b p e := h.kept (pw_below_drewN (Below.refl _ _) n)
/-- What number answers where nothing was wrong. -/
def NumR (w w' : World) (g : Nat) (A : Option Addr) (c : Nat) (b : List Int) (p m : Nat) (r : Ending) : Prop :=
  (∃ n k, Wr.peekN (b.drop p) 0 = some (n, k) ∧ n ≤ m ∧ r = .returned (.tuple #[.int .i64 (n : Int), .int .i64 (k : Int)]) ∧ Rd w' g A c b p 0 ∧ Kp w w' g g) ∨
  (Wr.num m (b.drop p) = none ∧ r = .returned (.tuple #[.int .i64 0, .int .i64 0]) ∧ ∃ e', e' ≠ 0 ∧ Rd w' g A c b p e' ∧ Kp w w' g g)
section
variable {w : World} {g : Nat} {A : Option Addr} {c : Nat} {b : List Int} {p : Nat} {e : Int}
theorem number_ (h : Rd w g A c b p 0) (m : Nat) (hm : m < 2147483648) : Calls Tryz.prog 57 #[.pointer (some ⟨g, 0, none⟩), .int .i64 (m : Int)] w fun r w' => NumR w w' g A c b p m r := by
  have HF := Aside0.mk (fine_ok h)
  have HP := Aside0.mk (peek_ w g A c b p 0 h)
  have HH := Aside0.mk h
  clear h
  cases hpk : Wr.peekN (b.drop p) 0 with
  | none =>
    have HPK := Aside0.mk hpk
    have hp0 : pk (b.drop p) = (0, 0) := by unfold pk; rw [hpk]; rfl
    rw [hp0] at HP
    clear hpk hp0
    go_enter Tryz.func57, Tryz.ntmps57
    go_wp2_with (first | (go_at_call 78; refine HF.out.mono ?_; rintro e w' ⟨rfl, hw_⟩; obtain rfl := hw_.symm) | (go_at_call 79; refine HP.out.mono ?_; rintro e w' ⟨rfl, ⟨nd, rfl⟩⟩) | (go_at_call 58; refine (fail_ (HH.out.drewN nd) 5).mono ?_; rintro e w' ⟨rfl, hw_⟩; obtain rfl := hw_.symm))
    go_ret2
    exact Or.inr ⟨by unfold Wr.num; rw [HPK.out]; rfl, rfl, 5, by decide, (HH.out.drewN nd).err 5, (Kp.drewN w g nd).set 2 _⟩
  | some q =>
    obtain ⟨n, k⟩ := q
    have HPK := Aside0.mk hpk
    have hk := (Wr.peekN_le _ _ _ _ hpk).2
    have hp0 : pk (b.drop p) = (n, k) := by unfold pk; rw [hpk]; rfl
    rw [hp0] at HP
    have hkz : ((k : Int) == 0) = false := by rw [beq_eq_false_iff_ne]; omega
    have HKK := Aside0.mk hk
    clear hpk hp0 hk
    by_cases hle : n ≤ m
    · have h1 : ¬ (n : Int) > 9223372036854775807 := by omega
      have h2 : IntKind.i64.wrap (n : Int) = (n : Int) := IntWalk.i64_in _ (by omega)
      have h3 : ¬ (n : Int) > (m : Int) := by omega
      go_enter Tryz.func57, Tryz.ntmps57
      go_wp2_with (first | (go_at_call 78; refine HF.out.mono ?_; rintro e w' ⟨rfl, hw_⟩; obtain rfl := hw_.symm) | (go_at_call 79; refine HP.out.mono ?_; rintro e w' ⟨rfl, ⟨nd, rfl⟩⟩) | (go_at_call 58; refine (fail_ (HH.out.drewN nd) 3).mono ?_; rintro e w' ⟨rfl, hw_⟩; obtain rfl := hw_.symm))
      go_ret2
      exact Or.inl ⟨n, k, HPK.out, hle, rfl, HH.out.drewN nd, Kp.drewN w g nd⟩
    · have HNO : Aside0 (Wr.num m (b.drop p) = none) := ⟨by unfold Wr.num; rw [HPK.out]; simp only [Option.bind_some]; rw [if_neg hle]⟩
      by_cases hbig : 9223372036854775807 < n
      · have h1 : (n : Int) > 9223372036854775807 := by omega
        go_enter Tryz.func57, Tryz.ntmps57
        go_wp2_with (first | (go_at_call 78; refine HF.out.mono ?_; rintro e w' ⟨rfl, hw_⟩; obtain rfl := hw_.symm) | (go_at_call 79; refine HP.out.mono ?_; rintro e w' ⟨rfl, ⟨nd, rfl⟩⟩) | (go_at_call 58; refine (fail_ (HH.out.drewN nd) 3).mono ?_; rintro e w' ⟨rfl, hw_⟩; obtain rfl := hw_.symm))
        go_ret2
        exact Or.inr ⟨HNO.out, rfl, 3, by decide, (HH.out.drewN nd).err 3, (Kp.drewN w g nd).set 2 _⟩
      · have h1 : ¬ (n : Int) > 9223372036854775807 := by omega
        have h2 : IntKind.i64.wrap (n : Int) = (n : Int) := IntWalk.i64_in _ (by omega)
        have h3 : (n : Int) > (m : Int) := by omega
        go_enter Tryz.func57, Tryz.ntmps57
        go_wp2_with (first | (go_at_call 78; refine HF.out.mono ?_; rintro e w' ⟨rfl, hw_⟩; obtain rfl := hw_.symm) | (go_at_call 79; refine HP.out.mono ?_; rintro e w' ⟨rfl, ⟨nd, rfl⟩⟩) | (go_at_call 58; refine (fail_ (HH.out.drewN nd) 3).mono ?_; rintro e w' ⟨rfl, hw_⟩; obtain rfl := hw_.symm))
        go_ret2
        exact Or.inr ⟨HNO.out, rfl, 3, by decide, (HH.out.drewN nd).err 3, (Kp.drewN w g nd).set 2 _⟩
theorem number_bad (h : Rd w g A c b p e) (he : e ≠ 0) (m : Value) : Calls Tryz.prog 57 #[.pointer (some ⟨g, 0, none⟩), m] w fun r w' => r = .returned (.tuple #[.int .i64 0, .int .i64 0]) ∧ w' = w := by
  have HF := Aside0.mk (fine_bad h he)
  clear h he
  go_enter Tryz.func57, Tryz.ntmps57
  go_wp2_with (first | (go_at_call 78; refine HF.out.mono ?_; rintro e w' ⟨rfl, hw_⟩; obtain rfl := hw_.symm))
  go_ret2
  exact ⟨rfl, rfl⟩
theorem Number_bad (h : Rd w g A c b p e) (he : e ≠ 0) (m : Value) : Calls Tryz.prog 35 #[.pointer (some ⟨g, 0, none⟩), m] w fun r w' => r = .returned (.int .i64 0) ∧ w' = w := by
  have HF := Aside0.mk (number_bad h he m)
  clear h he
  go_enter Tryz.func35, Tryz.ntmps35
  go_wp2_with (first | (go_at_call 57; refine HF.out.mono ?_; rintro e w' ⟨rfl, hw_⟩; obtain rfl := hw_.symm))
  go_ret
  exact ⟨rfl, rfl⟩
theorem num_peek {m n p : Nat} {b r : List Int} (hp : p ≤ b.length) (h : Wr.num m (b.drop p) = some (n, r)) : ∃ k, Wr.peekN (b.drop p) 0 = some (n, k) ∧ n ≤ m ∧ r = b.drop (p + k) ∧ p + k ≤ b.length ∧ 0 < k := by
  unfold Wr.num at h
  cases e : Wr.peekN (b.drop p) 0 with
  | none => rw [e] at h; cases h
  | some q =>
    rw [e] at h
    simp only [Option.bind_some] at h
    split at h
    · rename_i hm
      cases h
      have := Wr.peekN_le _ _ _ _ e
      rw [List.length_drop] at this
      exact ⟨q.2, rfl, hm, by rw [List.drop_drop], by omega, this.2⟩
    · cases h
theorem Number_ok (h : Rd w g A c b p 0) (m n : Nat) (hm : m < 2147483648) (r : List Int) (hn : Wr.num m (b.drop p) = some (n, r)) :
    Calls Tryz.prog 35 #[.pointer (some ⟨g, 0, none⟩), .int .i64 (m : Int)] w fun e w' => e = .returned (.int .i64 (n : Int)) ∧ ∃ p', r = b.drop p' ∧ Rd w' g A c b p' 0 ∧ Kp w w' g g := by
  obtain ⟨k, hpk, hnm, hr, hpk2, hk0⟩ := num_peek h.hp hn
  have HN : Aside0 (Calls Tryz.prog 57 #[.pointer (some ⟨g, 0, none⟩), .int .i64 (m : Int)] w fun e w' => e = .returned (.tuple #[.int .i64 (n : Int), .int .i64 (k : Int)]) ∧ Rd w' g A c b p 0 ∧ Kp w w' g g) := ⟨(number_ h m hm).mono (by
    rintro e w' (⟨n', k', h1, h2, h3, h4, h5⟩ | ⟨h1, _⟩)
    · rw [hpk] at h1
      cases h1
      exact ⟨h3, h4, h5⟩
    · rw [hn] at h1
      cases h1)⟩
  have HK := Aside0.mk (And.intro hr hpk2)
  have HL := Aside0.mk h.hl
  have hkz : (k : Int) > 0 := by omega
  have hw : IntKind.i64.wrap ((p : Int) + (k : Int)) = ((p + k : Nat) : Int) := by rw [IntWalk.i64_in _ (by have := h.hl; omega)]; omega
  clear hpk hnm hr hn hpk2 h hk0
  go_enter Tryz.func35, Tryz.ntmps35
  go_wp2_with (first | (go_at_call 57; refine HN.out.mono ?_; rintro e w1 ⟨rfl, hRd, hKp⟩; have HR := Aside0.mk hRd; have HKP := Aside0.mk hKp; have t1 := cell_of_block (k := 1) hRd.blk rfl; have f1 := blk_frozen hRd.blk 1; clear hRd hKp))
  go_ret
  exact ⟨rfl, p + k, HK.out.1, HR.out.at_ (p + k) HK.out.2, HKP.out.set 1 _⟩
theorem Number_no (h : Rd w g A c b p 0) (m : Nat) (hm : m < 2147483648) (hn : Wr.num m (b.drop p) = none) :
    Calls Tryz.prog 35 #[.pointer (some ⟨g, 0, none⟩), .int .i64 (m : Int)] w fun e w' => e = .returned (.int .i64 0) ∧ ∃ e', e' ≠ 0 ∧ Rd w' g A c b p e' ∧ Kp w w' g g := by
  have HN : Aside0 (Calls Tryz.prog 57 #[.pointer (some ⟨g, 0, none⟩), .int .i64 (m : Int)] w fun e w' => e = .returned (.tuple #[.int .i64 0, .int .i64 0]) ∧ ∃ e', e' ≠ 0 ∧ Rd w' g A c b p e' ∧ Kp w w' g g) := ⟨(number_ h m hm).mono (by
    rintro e w' (⟨n', k', h1, h2, h3, h4, h5⟩ | ⟨h1, h2, h3⟩)
    · unfold Wr.num at hn
      rw [h1] at hn
      simp only [Option.bind_some] at hn
      rw [if_pos h2] at hn
      cases hn
    · exact ⟨h2, h3⟩)⟩
  clear h hn
  go_enter Tryz.func35, Tryz.ntmps35
  go_wp2_with (first | (go_at_call 57; refine HN.out.mono ?_; rintro e w1 ⟨rfl, hE⟩; have HE := Aside0.mk hE; clear hE))
  go_ret
  exact ⟨rfl, HE.out⟩
end
end Go.Proofs.YtmajfcdfafhkfaaGreatDoor.H
namespace Go.Proofs.YtmajfcdfafhkfaaGreatDoor.P
open Go.Proofs.YtmajfcdfafhkfaaGreatDoor.Leaf
open Go.RowKit Go.Proofs.YtmajfcdfafhkfaaGreatDoorW.PrintWords Go.Proofs.YtmajfcdfafhkfaaGreatDoorW.PrintLast Go.Proofs.YtmajfcdfafhkfaaGreatDoorW.PrintMore
attribute [local go_sem] max2_int min2_int max_two min_two max_three min_three max_four min_four   -- for this text's walks alone
set_option linter.unusedVariables false
set_option linter.unusedSimpArgs false
/-- A state of type 79 at block g of W; what its slices lead to came in by w0. -/
def IsS79 (w0 W : World) (g : Nat) (f0 : List Int) (f1 : Int) (f2 : Int) : Prop := ∃ A0 c0, W.heap[g]? = some (.cells #[.slice A0 f0.length c0, .int .i64 f1, .int .i64 f2] 79 (0, 0)) ∧ w0.heap.size ≤ g ∧ Kd.C (Kd.int .u8) w0 A0 f0.length f0 ∧ f0.length ≤ c0
theorem IsS79.grown {w0 W : World} {g : Nat} {f0 : List Int} {f1 : Int} {f2 : Int} {W1 : World} {row : Option Nat} (h : IsS79 w0 W g f0 f1 f2) (hw : W.grownBy W1 row) (hne : some g ≠ row) : IsS79 w0 W1 g f0 f1 f2 := by
 obtain ⟨A0, c0, hb, hg, hr0⟩ := h
 exact ⟨A0, c0, blk_grown hb hw hne, hg, hr0⟩
theorem IsS79.kept {w0 W : World} {g : Nat} {f0 : List Int} {f1 : Int} {f2 : Int} {W1 : World} {S : Nat → Prop} (h : IsS79 w0 W g f0 f1 f2) (hk : Kept W W1 S) (hne : ¬ S g) : IsS79 w0 W1 g f0 f1 f2 := by
 obtain ⟨A0, c0, hb, hg, hr0⟩ := h
 exact ⟨A0, c0, blk_kept hb hk hne, hg, hr0⟩
theorem IsS79.below {w0 W : World} {g : Nat} {f0 : List Int} {f1 : Int} {f2 : Int} {W1 : World} (h : IsS79 w0 W g f0 f1 f2) (hw : Below W.heap.size W W1) : IsS79 w0 W1 g f0 f1 f2 := h.grown (grown_of_below hw none) (by simp)
theorem IsS79.alloc {w0 W : World} {g : Nat} {f0 : List Int} {f1 : Int} {f2 : Int} (h : IsS79 w0 W g f0 f1 f2) (o : Obj) : IsS79 w0 (W.alloc o) g f0 f1 f2 := h.below (below_alloc (Below.refl _ _) o)
theorem IsS79.drewN {w0 W : World} {g : Nat} {f0 : List Int} {f1 : Int} {f2 : Int} (h : IsS79 w0 W g f0 f1 f2) (m : Nat) : IsS79 w0 (W.drewN m) g f0 f1 f2 := h
theorem IsS79.drew {w0 W : World} {g : Nat} {f0 : List Int} {f1 : Int} {f2 : Int} (h : IsS79 w0 W g f0 f1 f2) : IsS79 w0 W.drew g f0 f1 f2 := h
theorem IsS79.at_ {w0 W : World} {g : Nat} {f0 : List Int} {f1 : Int} {f2 : Int} {w' : World} {m : Nat} (hq : W.drewN m = w') (h : IsS79 w0 W g f0 f1 f2) : IsS79 w0 w' g f0 f1 f2 := by subst hq; exact IsS79.drewN h m
theorem IsS79.apart {w0 W : World} {g : Nat} {f0 : List Int} {f1 : Int} {f2 : Int} {α : Type} {d : Kd α} {e : Nat} {base : Nat} {ok : Nat → Prop} {v : Value} {xs : List α} (h : IsS79 w0 W g f0 f1 f2) (ho : d.R e W base ok v xs) (ht : ∀ q, q ∈ e :: d.E → q ≠ 79) : d.R e W base (fun k => ok k ∧ k ≠ g) v xs := by
 obtain ⟨A0, c0, hb, hg, hr0⟩ := h
 exact Kd.R_types ho hb ht
theorem IsS79.own_ne {w0 W : World} {g : Nat} {f0 : List Int} {f1 : Int} {f2 : Int} {α : Type} {d : Kd α} {e : Nat} {base : Nat} {ok : Nat → Prop} {v : Value} {xs : List α} (h : IsS79 w0 W g f0 f1 f2) (ho : d.R e W base ok v xs) (ht : e ≠ 79) : some g ≠ v.ownBlock := by
 obtain ⟨A0, c0, hb, hg, hr0⟩ := h
 exact Kd.R_ne ho hb ht
theorem IsS79.lt {w0 W : World} {g : Nat} {f0 : List Int} {f1 : Int} {f2 : Int} (h : IsS79 w0 W g f0 f1 f2) : g < W.heap.size := by
 obtain ⟨A0, c0, hb, hg, hr0⟩ := h
 exact blk_lt hb
theorem IsS79.ge {w0 W : World} {g : Nat} {f0 : List Int} {f1 : Int} {f2 : Int} (h : IsS79 w0 W g f0 f1 f2) : w0.heap.size ≤ g := by
 obtain ⟨A0, c0, hb, hg, hr0⟩ := h
 exact hg
theorem IsS79.far {w0 W : World} {g : Nat} {f0 : List Int} {f1 : Int} {f2 : Int} {p : Addr} (h : IsS79 w0 W g f0 f1 f2) (hne : g ≠ p.block) (u : Value) : IsS79 w0 (W.setCell p u) g f0 f1 f2 := by
 obtain ⟨A0, c0, hb, hg, hr0⟩ := h
 exact ⟨A0, c0, blk_far hb hne u, hg, hr0⟩
theorem cellS79_0 {W : World} {g : Nat} {A0 : Option Addr} {c0 : Nat} {f0 : List Int} {f1 : Int} {f2 : Int} (h : W.heap[g]? = some (.cells #[.slice A0 f0.length c0, .int .i64 f1, .int .i64 f2] 79 (0, 0))) : W.cell? ⟨g, 0, none⟩ = some (.slice A0 f0.length c0) := (blk_cell h 0).trans rfl
theorem cellS79_1 {W : World} {g : Nat} {A0 : Option Addr} {c0 : Nat} {f0 : List Int} {f1 : Int} {f2 : Int} (h : W.heap[g]? = some (.cells #[.slice A0 f0.length c0, .int .i64 f1, .int .i64 f2] 79 (0, 0))) : W.cell? ⟨g, 1, none⟩ = some (.int .i64 f1) := (blk_cell h 1).trans rfl
theorem IsS79.set_1 {w0 W : World} {g : Nat} {f0 : List Int} {f1 : Int} {f2 : Int} (h : IsS79 w0 W g f0 f1 f2) (x : Int) : IsS79 w0 (W.setCell ⟨g, 1, none⟩ (.int .i64 x)) g f0 x f2 := by
 obtain ⟨A0, c0, hb, hg, hr0⟩ := h
 exact ⟨A0, c0, by simpa using blk_set hb 1 (.int .i64 x), hg, hr0⟩
theorem cellS79_2 {W : World} {g : Nat} {A0 : Option Addr} {c0 : Nat} {f0 : List Int} {f1 : Int} {f2 : Int} (h : W.heap[g]? = some (.cells #[.slice A0 f0.length c0, .int .i64 f1, .int .i64 f2] 79 (0, 0))) : W.cell? ⟨g, 2, none⟩ = some (.int .i64 f2) := (blk_cell h 2).trans rfl
theorem IsS79.set_2 {w0 W : World} {g : Nat} {f0 : List Int} {f1 : Int} {f2 : Int} (h : IsS79 w0 W g f0 f1 f2) (x : Int) : IsS79 w0 (W.setCell ⟨g, 2, none⟩ (.int .i64 x)) g f0 f1 x := by
 obtain ⟨A0, c0, hb, hg, hr0⟩ := h
 exact ⟨A0, c0, by simpa using blk_set hb 2 (.int .i64 x), hg, hr0⟩
theorem IsS79.new (w0 W : World) (A0 : Option Addr) (c0 : Nat) (f0 : List Int) (f1 : Int) (f2 : Int) (hB : Below w0.heap.size w0 W) (hr0 : Kd.C (Kd.int .u8) w0 A0 f0.length f0) (hle0 : f0.length ≤ c0) : IsS79 w0 (W.alloc (.cells #[.slice A0 f0.length c0, .int .i64 f1, .int .i64 f2] 79)) W.heap.size f0 f1 f2 := ⟨A0, c0, by simpa using heap_alloc_new W _, hB.size, hr0, hle0⟩
def mooringref05_wrong.f (s0_0 : List Int) (s0_1 : Int) (s0_2 : Int) (a1 : Int) (a2 : Int) : Option (Int × Int) := if s0_2 = 0 then (some (a2, a1)) else (some (s0_1, s0_2))
set_option maxHeartbeats 8000000 in
set_option maxRecDepth 100000 in
theorem mooringref05_wrong.calls (g : Nat) (s0_0 : List Int) (s0_1 : Int) (s0_2 : Int) (a1 : Int) (a2 : Int) (r1 : Int) (r2 : Int) (w0 w : World) (hI : IsS79 w0 w g s0_0 s0_1 s0_2) (hB : Below w0.heap.size w0 w) (h : mooringref05_wrong.f s0_0 s0_1 s0_2 a1 a2 = some (r1, r2)) :
  Calls Tryz.prog 62 #[.pointer (some ⟨g, 0, none⟩), .int .i64 a1, .int .i64 a2] w fun e w' => e = .returned (.tuple #[]) ∧ IsS79 w0 w' g s0_0 r1 r2 ∧ Below w0.heap.size w0 w' ∧ KeepBut w w' g none := by
 have HI0 := Aside0.mk hI
 have HK := Aside0.mk (KeepBut.refl w g none)
 have HL := Aside0.mk hB.size
 clear hI
 have HW0 := Aside0.mk hB.size
 have HB := Aside0.mk hB
 clear hB
 have H : (if s0_2 = 0 then (some (a2, a1)) else (some (s0_1, s0_2))) = some (r1, r2) := h
 clear h
 by_cases c4 : s0_2 = 0
 ·rw [if_pos c4] at H
  have c4b0 : (s0_2 == 0) = true := beq_iff_eq.mpr c4
  have c4b1 : (s0_2 != 0) = false := bne_eq_false_iff_eq.mpr c4
  clear c4
  simp only [Option.some.injEq, Prod.mk.injEq] at H
  obtain ⟨rfl, rfl⟩ := H
  obtain ⟨ASz5_0, cSz5_0, HGz5, hgz5, HSz5_0, _⟩ := HI0.out
  have hcz5_0 := cellS79_0 HGz5
  have hcz5_1 := cellS79_1 HGz5
  have hcz5_2 := cellS79_2 HGz5
  have hfz5_1 := blk_frozen HGz5 1
  have hfz5_2 := blk_frozen HGz5 2
  clear HGz5 hgz5
  go_enter Tryz.func62, Tryz.ntmps62
  go_wp2
  first | go_end0 | ((try simp only [Exit.inBlock, Exit.then]); refine bodyPost_ret (results_none rfl _ _ _) rfl ?_)
  exact ⟨by first | rfl | (simp [errW_none, errW_some] <;> rfl) | (simp [*, errW_none, errW_some] <;> rfl), by repeat (first | (with_reducible first | exact HI0.out | apply IsS79.alloc | apply IsS79.drewN | apply IsS79.drew | apply IsS79.set_1 | apply IsS79.set_2) | exact HI0.out), by repeat (first | (with_reducible first | exact HB.out | apply below_alloc | apply pw_below_drewN | apply below_drew1 | refine below_set ?_ (IsS79.ge HI0.out)) | exact HB.out), by repeat (first | (with_reducible first | exact HK.out | apply KeepBut.set_ | apply keep_drewN | apply keep_drew | apply keep_alloc) | exact HK.out)⟩
 ·rw [if_neg c4] at H
  have c4b0 : (s0_2 == 0) = false := beq_eq_false_iff_ne.mpr c4
  have c4b1 : (s0_2 != 0) = true := bne_iff_ne.mpr c4
  simp only [Option.some.injEq, Prod.mk.injEq] at H
  obtain ⟨rfl, rfl⟩ := H
  obtain ⟨ASz6_0, cSz6_0, HGz6, hgz6, HSz6_0, _⟩ := HI0.out
  have hcz6_0 := cellS79_0 HGz6
  have hcz6_1 := cellS79_1 HGz6
  have hcz6_2 := cellS79_2 HGz6
  have hfz6_1 := blk_frozen HGz6 1
  have hfz6_2 := blk_frozen HGz6 2
  clear HGz6 hgz6
  go_enter Tryz.func62, Tryz.ntmps62
  go_wp2
  first | go_end0 | ((try simp only [Exit.inBlock, Exit.then]); refine bodyPost_ret (results_none rfl _ _ _) rfl ?_)
  exact ⟨by first | rfl | (simp [errW_none, errW_some] <;> rfl) | (simp [*, errW_none, errW_some] <;> rfl), by repeat (first | (with_reducible first | exact HI0.out | apply IsS79.alloc | apply IsS79.drewN | apply IsS79.drew | apply IsS79.set_1 | apply IsS79.set_2) | exact HI0.out), by repeat (first | (with_reducible first | exact HB.out | apply below_alloc | apply pw_below_drewN | apply below_drew1 | refine below_set ?_ (IsS79.ge HI0.out)) | exact HB.out), by repeat (first | (with_reducible first | exact HK.out | apply KeepBut.set_ | apply keep_drewN | apply keep_drew | apply keep_alloc) | exact HK.out)⟩
end Go.Proofs.YtmajfcdfafhkfaaGreatDoor.P
namespace Go.Proofs.YtmajfcdfafhkfaaGreatDoor.P
open Go.Proofs.YtmajfcdfafhkfaaGreatDoor.Leaf
open Go.RowKit Go.Proofs.YtmajfcdfafhkfaaGreatDoorW.PrintWords Go.Proofs.YtmajfcdfafhkfaaGreatDoorW.PrintLast Go.Proofs.YtmajfcdfafhkfaaGreatDoorW.PrintMore
attribute [local go_sem] max2_int min2_int max_two min_two max_three min_three max_four min_four   -- for this text's walks alone
set_option linter.unusedVariables false
set_option linter.unusedSimpArgs false
def mooringref05_next.f (s0_0 : List Int) (s0_1 : Int) (s0_2 : Int) : Option (Int × Bool × Int × Int) := if s0_2 = 0 then (if s0_1 ≥ (s0_0.length : Int) then (some (0, false, s0_1, s0_2)) else (if 0 ≤ (wrap64 ((wrap64 (s0_1 + 1)) - 1)) then (if (wrap64 ((wrap64 (s0_1 + 1)) - 1)) < (s0_0.length : Int) then (some (rd s0_0 (wrap64 ((wrap64 (s0_1 + 1)) - 1)), true, wrap64 (s0_1 + 1), s0_2)) else (none)) else (none))) else (some (0, false, s0_1, s0_2))
set_option maxHeartbeats 8000000 in
set_option maxRecDepth 100000 in
theorem mooringref05_next.calls (g : Nat) (s0_0 : List Int) (s0_1 : Int) (s0_2 : Int) (r1 : Int) (r2 : Bool) (r3 : Int) (r4 : Int) (w0 w : World) (hI : IsS79 w0 w g s0_0 s0_1 s0_2) (hB : Below w0.heap.size w0 w) (h : mooringref05_next.f s0_0 s0_1 s0_2 = some (r1, r2, r3, r4)) :
  Calls Tryz.prog 80 #[.pointer (some ⟨g, 0, none⟩)] w fun e w' => e = .returned (.tuple #[.int .u8 r1, .bool r2]) ∧ IsS79 w0 w' g s0_0 r3 r4 ∧ Below w0.heap.size w0 w' ∧ KeepBut w w' g none := by
 have HI0 := Aside0.mk hI
 have HK := Aside0.mk (KeepBut.refl w g none)
 have HL := Aside0.mk hB.size
 clear hI
 have HW0 := Aside0.mk hB.size
 have HB := Aside0.mk hB
 clear hB
 have H : (if s0_2 = 0 then (if s0_1 ≥ (s0_0.length : Int) then (some (0, false, s0_1, s0_2)) else (if 0 ≤ (wrap64 ((wrap64 (s0_1 + 1)) - 1)) then (if (wrap64 ((wrap64 (s0_1 + 1)) - 1)) < (s0_0.length : Int) then (some (rd s0_0 (wrap64 ((wrap64 (s0_1 + 1)) - 1)), true, wrap64 (s0_1 + 1), s0_2)) else (none)) else (none))) else (some (0, false, s0_1, s0_2))) = some (r1, r2, r3, r4) := h
 clear h
 by_cases c2 : s0_2 = 0
 ·rw [if_pos c2] at H
  have c2b0 : (s0_2 == 0) = true := beq_iff_eq.mpr c2
  have c2b1 : (s0_2 != 0) = false := bne_eq_false_iff_eq.mpr c2
  clear c2
  by_cases c3 : s0_1 ≥ (s0_0.length : Int)
  ·rw [if_pos c3] at H
   have c3b0 : decide ((s0_0.length : Int) ≤ s0_1) = true := decide_eq_true c3
   clear c3
   simp only [Option.some.injEq, Prod.mk.injEq] at H
   obtain ⟨rfl, rfl, rfl, rfl⟩ := H
   obtain ⟨ASz4_0, cSz4_0, HGz4, hgz4, HSz4_0, _⟩ := HI0.out
   have hcz4_0 := cellS79_0 HGz4
   have hcz4_1 := cellS79_1 HGz4
   have hcz4_2 := cellS79_2 HGz4
   have hfz4_1 := blk_frozen HGz4 1
   have hfz4_2 := blk_frozen HGz4 2
   clear HGz4 hgz4
   go_enter Tryz.func80, Tryz.ntmps80
   go_wp2
   repeat (go_quiet (fail); try go_wp2)
   go_ret2
   exact ⟨by first | rfl | (simp [errW_none, errW_some] <;> rfl) | (simp [*, errW_none, errW_some] <;> rfl), by repeat (first | (with_reducible first | exact HI0.out | apply IsS79.alloc | apply IsS79.drewN | apply IsS79.drew | apply IsS79.set_1 | apply IsS79.set_2) | exact HI0.out), by repeat (first | (with_reducible first | exact HB.out | apply below_alloc | apply pw_below_drewN | apply below_drew1 | refine below_set ?_ (IsS79.ge HI0.out)) | exact HB.out), by repeat (first | (with_reducible first | exact HK.out | apply KeepBut.set_ | apply keep_drewN | apply keep_drew | apply keep_alloc) | exact HK.out)⟩
  ·rw [if_neg c3] at H
   have c3b0 : decide ((s0_0.length : Int) ≤ s0_1) = false := decide_eq_false c3
   clear c3
   obtain ⟨ji5, hji5⟩ : ∃ j_ : Int, (wrap64 ((wrap64 (s0_1 + 1)) - 1)) = j_ := ⟨_, rfl⟩
   replace H : (if 0 ≤ (ji5) then (if (ji5) < (s0_0.length : Int) then (some (rd s0_0 (ji5), true, wrap64 (s0_1 + 1), s0_2)) else (none)) else (none)) = some (r1, r2, r3, r4) := by first | (rw [hji5] at H; exact H) | (simp only [hji5] at H ⊢; exact H)
   have hji5w : (IntKind.i64.wrap ((wrap64 (s0_1 + 1)) - 1)) = ji5 := (i64_w _).trans hji5
   by_cases c6 : 0 ≤ (ji5)
   ·rw [if_pos c6] at H
    have c6b0 : decide (0 ≤ (ji5)) = true := decide_eq_true c6
    clear c6
    by_cases c7 : (ji5) < (s0_0.length : Int)
    ·rw [if_pos c7] at H
     have c7b0 : decide ((ji5) < (s0_0.length : Int)) = true := decide_eq_true c7
     clear c7
     simp only [Option.some.injEq, Prod.mk.injEq] at H
     obtain ⟨rfl, rfl, rfl, rfl⟩ := H
     obtain ⟨ASz8_0, cSz8_0, HGz8, hgz8, HSz8_0, _⟩ := HI0.out
     have hcz8_0 := cellS79_0 HGz8
     have hcz8_1 := cellS79_1 HGz8
     have hcz8_2 := cellS79_2 HGz8
     have hfz8_1 := blk_frozen HGz8 1
     have hfz8_2 := blk_frozen HGz8 2
     clear HGz8 hgz8
     have p101 : 0 ≤ ((ji5) : Int) := of_decide_eq_true (by first | (with_reducible assumption) | assumption)
     have q101 : (ji5) < (s0_0.length : Int) := of_decide_eq_true (by first | (with_reducible assumption) | assumption)
     obtain ⟨ad101, e101, hx101_0⟩ := Kd.at_int HSz8_0 (ji5) p101 q101
     cases e101
     have hn101_0 : ad101.block ≠ g := Nat.ne_of_lt (Nat.lt_of_lt_of_le (by have := World.block_lt_of_cell? _ _ hx101_0; first | rwa [add_block] at this | exact this) (IsS79.ge HI0.out))
     replace hx101_0 := pw_cell_below HB.out hx101_0
     replace hx101_0 := (cell_far (p := ⟨g, 1, none⟩) (by first | (rw [add_block]; exact hn101_0) | (show (Addr.add _ _).block ≠ _; rw [add_block]; exact hn101_0) | exact hn101_0) (.int .i64 (wrap64 (s0_1 + 1)))).trans hx101_0
     (try have hy101_0 := fun (n_ : Nat) => (show (((w.drewN n_).setCell ⟨g, 1, none⟩ (.int .i64 (wrap64 (s0_1 + 1))))).cell? _ = some _ from hx101_0))
     clear hn101_0
     replace p101 := eq_true p101
     replace q101 := eq_true q101
     go_enter Tryz.func80, Tryz.ntmps80
     go_wp2
     repeat (go_quiet (fail); try go_wp2)
     go_ret2
     exact ⟨by first | rfl | (simp [errW_none, errW_some] <;> rfl) | (simp only [← hji5]; first | rfl | (simp [errW_none, errW_some] <;> rfl)) | (simp [*, errW_none, errW_some] <;> rfl), by repeat (first | (with_reducible first | exact HI0.out | apply IsS79.alloc | apply IsS79.drewN | apply IsS79.drew | apply IsS79.set_1 | apply IsS79.set_2) | exact HI0.out), by repeat (first | (with_reducible first | exact HB.out | apply below_alloc | apply pw_below_drewN | apply below_drew1 | refine below_set ?_ (IsS79.ge HI0.out)) | exact HB.out), by repeat (first | (with_reducible first | exact HK.out | apply KeepBut.set_ | apply keep_drewN | apply keep_drew | apply keep_alloc) | exact HK.out)⟩
    ·rw [if_neg c7] at H
     exact absurd H (by simp)
   ·rw [if_neg c6] at H
    exact absurd H (by simp)
 ·rw [if_neg c2] at H
  have c2b0 : (s0_2 == 0) = false := beq_eq_false_iff_ne.mpr c2
  have c2b1 : (s0_2 != 0) = true := bne_iff_ne.mpr c2
  simp only [Option.some.injEq, Prod.mk.injEq] at H
  obtain ⟨rfl, rfl, rfl, rfl⟩ := H
  obtain ⟨ASz9_0, cSz9_0, HGz9, hgz9, HSz9_0, _⟩ := HI0.out
  have hcz9_0 := cellS79_0 HGz9
  have hcz9_1 := cellS79_1 HGz9
  have hcz9_2 := cellS79_2 HGz9
  have hfz9_1 := blk_frozen HGz9 1
  have hfz9_2 := blk_frozen HGz9 2
  clear HGz9 hgz9
  go_enter Tryz.func80, Tryz.ntmps80
  go_wp2
  repeat (go_quiet (fail); try go_wp2)
  go_ret2
  exact ⟨by first | rfl | (simp [errW_none, errW_some] <;> rfl) | (simp [*, errW_none, errW_some] <;> rfl), by repeat (first | (with_reducible first | exact HI0.out | apply IsS79.alloc | apply IsS79.drewN | apply IsS79.drew | apply IsS79.set_1 | apply IsS79.set_2) | exact HI0.out), by repeat (first | (with_reducible first | exact HB.out | apply below_alloc | apply pw_below_drewN | apply below_drew1 | refine below_set ?_ (IsS79.ge HI0.out)) | exact HB.out), by repeat (first | (with_reducible first | exact HK.out | apply KeepBut.set_ | apply keep_drewN | apply keep_drew | apply keep_alloc) | exact HK.out)⟩
end Go.Proofs.YtmajfcdfafhkfaaGreatDoor.P
