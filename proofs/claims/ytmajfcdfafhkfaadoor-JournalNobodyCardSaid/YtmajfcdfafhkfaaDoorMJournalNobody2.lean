/- Words and walks that the claim JournalNobody leans on (what it does not use is left out). -/
import Derived.Test.YtmajfcdfafhkfaaDoorMJournalNobody1
import Derived.Deep.RegionLaw
import Derived.Deep.AppendLies
import Derived.Laws.CopyOwn
import Derived.Deep.RegionWith
import Derived.Deep.RegionHeld3
import Derived.Deep.DeepCutAuto
namespace Go.Proofs.YtmajfcdfafhkfaaDoor.H
open Go.RowKit Go.Proofs.YtmajfcdfafhkfaaDoorW.PrintWords Go.Proofs.YtmajfcdfafhkfaaDoorW.PrintLast Go.Proofs.YtmajfcdfafhkfaaDoor.Leaf Go.Proofs.YtmajfcdfafhkfaaDoor.P
set_option linter.unusedVariables false
set_option linter.unusedSimpArgs false
set_option maxHeartbeats 1000000
set_option maxRecDepth 100000
/-- A function value that hands out a disk's sectors, while what w holds stands. -/
def Gets (w : World) (x : Nat) (secs : Nat → List Int) : Prop := ∀ W, Below w.heap.size w W → ∀ i : Nat, i < 8 → Calls Tryd.prog 14 #[.int .i64 (i : Int), .pointer (some ⟨x, 0, none⟩)] W fun e w' => ∃ v, e = .returned v ∧ Kd.R (Kd.int .u8) 5 w' W.heap.size (fun _ => True) v (secs i) ∧ Below W.heap.size W w'
theorem records_none (w : World) (x : Nat) (secs : Nat → List Int) (hG : Gets w x secs) (hN : ∀ i, i < 8 → sum_Strip.f (secs i) = some ([], false)) :
    Calls Tryd.prog 13 #[.int .i64 8, .func (.func 14) #[] #[.pointer (some ⟨x, 0, none⟩)]] w fun e w' => e = .returned (.tuple #[.slice none 0 0, .int .i64 0, .int .i64 0]) ∧ Below w.heap.size w w' := by
  have HG := Aside0.mk hG
  have HN := Aside0.mk hN
  clear hG hN
  go_enter Tryd.func13, Tryd.ntmps13
  go_wp2_with fail
  go_loopg [4, 6, 7, 8, 9, 10, 11, 12, 17] 8 (fun gg s4 s6 s7 s8 s9 s10 s11 s12 s17 wr => ∃ (i : Nat) (bb : Bool), i ≤ 8 ∧ 8 - i ≤ gg ∧ s17 = .int .i64 (i : Int) ∧ s12 = .bool bb ∧ s4 = .slice none 0 0 ∧ s6 = .int .i64 0 ∧ s7 = .int .i64 0 ∧ s8 = .slice none 0 0 ∧ s9 = .int .i64 0 ∧ s10 = .int .i64 0 ∧ s11 = .int .i64 0 ∧ Aside0 (Below w.heap.size w wr))
  case atStart => exact ⟨0, true, by omega, by omega, rfl, rfl, rfl, rfl, rfl, rfl, rfl, rfl, rfl, ⟨Below.refl _ _⟩⟩
  case round =>
    obtain ⟨i, bb, hi, hg, rfl, rfl, rfl, rfl, rfl, rfl, rfl, rfl, rfl, HB⟩ := hrel
    by_cases hlt : i < 8
    · have hltz : (i : Int) < 8 := by omega
      have hw1 : IntKind.i64.wrap ((i : Int) + 1) = (i : Int) + 1 := IntWalk.i64_in _ (by omega)
      have HG1 := Aside0.mk (HG.out wr HB.out i hlt)
      have HN1 := Aside0.mk (HN.out i hlt)
      go_wp2_with (first | (go_at_call 14; refine HG1.out.mono ?_; rintro e w' ⟨v, rfl, hR, hb⟩; obtain ⟨A, c, rfl⟩ := Kd.R_slice hR; have HR := Aside0.mk (Kd.R_reads' hR); have HB2 := Aside0.mk (below_step HB.out hb); clear hR hb) | (go_at_call 22; refine (journal_read_not _ _ _ _ HR.out.2.2 HR.out.2.1 HN1.out).mono ?_; rintro e w3 ⟨rfl, hb⟩; have HB3 := Aside0.mk (below_step HB2.out hb); clear hb))
      go_roundg (8 - (i + 1))
      case measure => omega
      case rel => exact ⟨i + 1, false, by omega, by omega, by go_num, rfl, rfl, rfl, rfl, rfl, rfl, rfl, rfl, ⟨below_alloc HB3.out _⟩⟩
    · have hltz : ¬ (i : Int) < 8 := by omega
      go_wp2_with fail
      go_ret3
      exact ⟨rfl, HB.out⟩
/-- A list of one record, as it is read. -/
def One (w : World) (v : Value) (r : List Int) : Prop := ∃ lb c A cA, v = .slice (some ⟨lb, 0, none⟩) 1 c ∧ 1 ≤ c ∧ lb < w.heap.size ∧ w.cell? ⟨lb, 0, none⟩ = some (.slice A r.length cA) ∧ r.length ≤ cA ∧ Kd.C (Kd.int .u8) w A r.length r
theorem One.below {w w1 : World} {v : Value} {r : List Int} (h : One w v r) (hb : Below w.heap.size w w1) : One w1 v r := by
  obtain ⟨lb, c, A, cA, h1, h2, h3, h4, h5, h6⟩ := h
  exact ⟨lb, c, A, cA, h1, h2, Nat.lt_of_lt_of_le h3 hb.size, pw_cell_below hb h4, h5, Kd.C_below h6 hb⟩
theorem info22 : (Tryd.prog.info? 22).map (fun i => (i.zero, i.size, i.bytes)) = some (some (.slice none 0 0), 1, 24) := by kernel_rfl
theorem grown_nil {w4 w5 : World} (hg : w4.grownBy w5 (Value.slice none 0 0).ownBlock) : Below w4.heap.size w4 w5 :=
  Below.grown (Below.refl w4.heap.size w4) hg (Nat.le_refl _) (fun _ h => by simp [Value.ownBlock] at h)
theorem one_of {w4 w5 : World} {base : Nat} {v2 : Value} {r : List Int} (ho2 : Kd.R (Kd.fixed (Kd.slice 5 (Kd.int .u8)) w4) 22 w5 base (fun _ => True) v2 ([] ++ [r])) (hb : Below w4.heap.size w4 w5) : One w5 v2 r := by
  obtain ⟨lb, cl, rfl, _, hlb, _⟩ := Kd.R_form ho2 (Nat.zero_lt_one)
  obtain ⟨_, hcl, hC⟩ := Kd.R_reads' ho2
  obtain ⟨ad, e, hc⟩ := hC.2.2 (Nat.zero_lt_one)
  cases e
  obtain ⟨cs, hl, ⟨A, cA, rfl, hle, hCA⟩, hcell⟩ := hc 0 r rfl
  have h0 := hcell 0 _ rfl
  rw [addr_add] at h0
  exact ⟨lb, cl, A, cA, rfl, hcl, hlb, by simpa using h0, hle, Kd.C_below hCA hb⟩
theorem part_kept {w3 w4 : World} {cs : Array Value} {row : Option Nat} (hg : (w3.alloc (.cells cs 47 (0, 0))).grownBy w4 row) (hne : some w3.heap.size ≠ row) (k : Nat) (v : Value) (hk : cs[k]? = some v) : w4.cell? ⟨w3.heap.size, k, none⟩ = some v :=
  cell_grown hg ((cell_top _ _ _ _).trans hk) hne
/-- What reading a sector of a record says. -/
def Says (s : List Int) (num : Int) (last : Bool) (n : Nat) (p : List Int) : Prop := p.length = n ∧ ∀ (W : World) (A : Option Addr) (c : Nat), Kd.C (Kd.int .u8) W A s.length s → s.length ≤ c → Calls Tryd.prog 22 #[.slice A s.length c] W fun e w' => ∃ A' c', e = .returned (.tuple #[.agg #[.int .i64 1, .int .i64 1, .int .i64 num, .bool last, .slice A' n c'], .bool true]) ∧ n ≤ c' ∧ Kd.C (Kd.int .u8) w' A' n p ∧ Below W.heap.size W w'
theorem records_two (w : World) (x : Nat) (secs : Nat → List Int) (p0 p1 : List Int) (hG : Gets w x secs) (h0 : Says (secs 0) 0 false 51 p0) (h1 : Says (secs 1) 1 true 9 p1) (hN : ∀ i, 2 ≤ i → i < 8 → sum_Strip.f (secs i) = some ([], false)) :
    Calls Tryd.prog 13 #[.int .i64 8, .func (.func 14) #[] #[.pointer (some ⟨x, 0, none⟩)]] w fun e w' => ∃ v, e = .returned (.tuple #[v, .int .i64 2, .int .i64 1]) ∧ One w' v (p0 ++ p1) ∧ Below w.heap.size w w' := by
  generalize hr : p0 ++ p1 = r
  have HRr := Aside0.mk hr
  have HG := Aside0.mk hG
  have HN := Aside0.mk hN
  have H0 := Aside0.mk h0
  have H1 := Aside0.mk h1
  clear hG hN h0 h1 hr
  go_enter Tryd.func13, Tryd.ntmps13
  go_wp2_with fail
  go_loopg [4, 6, 7, 8, 9, 10, 11, 12, 17] 8 (fun gg s4 s6 s7 s8 s9 s10 s11 s12 s17 wr => ∃ (i : Nat), i ≤ 8 ∧ 8 - i ≤ gg ∧ s17 = .int .i64 (i : Int) ∧ Aside0 (Below w.heap.size w wr) ∧
    ((i = 0 ∧ s12 = .bool true ∧ s4 = .slice none 0 0 ∧ s6 = .int .i64 0 ∧ s7 = .int .i64 0 ∧ s8 = .slice none 0 0 ∧ s9 = .int .i64 0 ∧ s10 = .int .i64 0 ∧ s11 = .int .i64 0) ∨
     (i = 1 ∧ s12 = .bool true ∧ s4 = .slice none 0 0 ∧ s6 = .int .i64 1 ∧ s7 = .int .i64 0 ∧ Aside0 (Kd.R (Kd.int .u8) 5 wr w.heap.size (fun _ => True) s8 p0) ∧ s9 = .int .i64 0 ∧ s10 = .int .i64 1 ∧ s11 = .int .i64 1) ∨
     (∃ bb : Bool, 2 ≤ i ∧ s12 = .bool bb ∧ Aside0 (One wr s4 r) ∧ s6 = .int .i64 1 ∧ s7 = .int .i64 1 ∧ s8 = .slice none 0 0 ∧ s9 = .int .i64 2 ∧ s10 = .int .i64 0 ∧ s11 = .int .i64 1)))
  case atStart => exact ⟨0, by omega, by omega, rfl, ⟨Below.refl _ _⟩, Or.inl ⟨rfl, rfl, rfl, rfl, rfl, rfl, rfl, rfl, rfl⟩⟩
  case round =>
    obtain ⟨i, hi, hg, rfl, HB, hst⟩ := hrel
    rcases hst with ⟨rfl, rfl, rfl, rfl, rfl, rfl, rfl, rfl, rfl⟩ | ⟨rfl, rfl, rfl, rfl, rfl, HO, rfl, rfl, rfl⟩ | ⟨bb, h2, rfl, HO, rfl, rfl, rfl, rfl, rfl, rfl⟩
    · have HG1 := Aside0.mk (HG.out wr HB.out 0 (by decide))
      go_wp2_with (first | (go_at_call 14; refine HG1.out.mono ?_; rintro e w' ⟨v, rfl, hR, hb⟩; obtain ⟨A, c, rfl⟩ := Kd.R_slice hR; have HR := Aside0.mk (Kd.R_reads' hR); have HB2 := Aside0.mk (below_step HB.out hb); clear hR hb) | (go_at_call 22; refine (H0.out.2 _ _ _ HR.out.2.2 HR.out.2.1).mono ?_; rintro e w3 ⟨A3, c3, rfl, hc3, hC3, hb⟩; have HC3 := Aside0.mk (And.intro hc3 hC3); have HB3 := Aside0.mk (below_step HB2.out hb); clear hb hc3 hC3) | ((with_reducible refine gate_builtin (b := .append) (xs := #[.tmp 65, .tmp 67]) rfl ?_); at_builtin; refine Kd.R_append_rows (Kd.int .u8) (Rr := fun (x : Int) cs => cs = [Value.int .u8 x]) (w0 := w) w.heap.size rfl (.tmp 65) (.tmp 67) 22 5 (.int .u8 0) 1 rfl Tryd.underlying22 P.info5 rfl (by decide) (by decide) (.slice none 0 0) [] p0 A3 51 c3 (fun _ => True) (fun _ => False) rfl rfl ?aO ?aR (fun _ _ h => h) (fun _ h => h.elim) ?aF ?aB ?aS ?aL ?_; (case aO => exact Kd.R_nil _ _ _ _ _); (case aR => exact Kd.C_alloc HC3.out.2 _); (case aF => exact fun _ _ => trivial); (case aB => exact below_alloc HB3.out _); (case aS => exact below_size (below_alloc HB3.out _)); (case aL => decide); intro v1 w4 ho hb hgr hat; have HO := Aside0.mk ho; have HB4 := Aside0.mk hb; have cl := part_kept hgr (by simp [Value.ownBlock]) 3 (.bool false) rfl; clear ho hb hgr hat))
      go_roundg 7
      case measure => omega
      case rel => exact ⟨1, by omega, by omega, by go_num, HB4, Or.inr (Or.inl ⟨rfl, rfl, rfl, rfl, rfl, by simpa using HO, rfl, rfl, rfl⟩)⟩
    · have HG1 := Aside0.mk (HG.out wr HB.out 1 (by decide))
      have HL0 := Aside0.mk H0.out.1
      have HL1 := Aside0.mk H1.out.1
      obtain ⟨gb, cb, rfl, hgb1, hgb2, _⟩ := Kd.R_form HO.out (by rw [HL0.out]; decide)
      have HGB := Aside0.mk hgb2
      clear hgb1 hgb2
      go_wp2_with (first | (go_at_call 14; refine HG1.out.mono ?_; rintro e w' ⟨v, rfl, hR, hb⟩; obtain ⟨A, c, rfl⟩ := Kd.R_slice hR; have HR := Aside0.mk (Kd.R_reads' hR); have HB2 := Aside0.mk (below_step HB.out hb); have HO2 := Aside0.mk (Kd.R_below HO.out hb); have HZ2 := Aside0.mk hb.size; clear hR hb) | (go_at_call 22; refine (H1.out.2 _ _ _ HR.out.2.2 HR.out.2.1).mono ?_; rintro e w3 ⟨A3, c3, rfl, hc3, hC3, hb⟩; have HC3 := Aside0.mk (And.intro hc3 hC3); have HB3 := Aside0.mk (below_step HB2.out hb); have HO3 := Aside0.mk (Kd.R_below HO2.out hb); have HZ3 := Aside0.mk (Nat.lt_of_lt_of_le HGB.out (Nat.le_trans HZ2.out hb.size)); clear hb hc3 hC3) | ((with_reducible refine gate_builtin (b := .append) (xs := #[.tmp 65, .tmp 67]) rfl ?_); at_builtin; refine Kd.R_append_rows (Kd.int .u8) (Rr := fun (x : Int) cs => cs = [Value.int .u8 x]) (w0 := w) w.heap.size rfl (.tmp 65) (.tmp 67) 22 5 (.int .u8 0) 1 rfl Tryd.underlying22 P.info5 rfl (by decide) (by decide) (.slice (some ⟨gb, 0, none⟩) p0.length cb) p0 p1 A3 9 c3 (fun _ => True) (fun _ => False) rfl rfl ?aO ?aR (fun _ _ h => h) (fun _ h => h.elim) ?aF ?aB ?aS ?aL ?_; (case aO => exact Kd.R_alloc HO3.out _); (case aR => exact Kd.C_alloc HC3.out.2 _); (case aF => exact fun _ _ => trivial); (case aB => exact below_alloc HB3.out _); (case aS => exact below_size (below_alloc HB3.out _)); (case aL => rw [HL0.out]; decide); intro v1 w4 ho hb hgr hat; have cl := part_kept hgr (by have h9 := HZ3.out; simp [Value.ownBlock]; omega) 3 (.bool true) rfl; rw [HRr.out] at ho; obtain ⟨g1, c1, rfl, _, _, _⟩ := Kd.R_form ho (by rw [← HRr.out, List.length_append, HL0.out]; omega); have HO4 := Aside0.mk (Kd.R_reads' ho); have HB4 := Aside0.mk hb; clear ho hb hgr hat) | ((with_reducible refine gate_builtin (b := .append) (xs := #[.tmp 73, .tmp 75]) rfl ?_); at_builtin; refine Kd.R_append (Kd.fixed (Kd.slice 5 (Kd.int .u8)) w4) (w0 := w) w.heap.size rfl (.tmp 73) (.tmp 75) 31 22 (.slice none 0 0) 24 rfl Tryd.underlying31 info22 rfl Nat.zero_lt_one (by omega) (.slice none 0 0) [] r [.slice (some ⟨g1, 0, none⟩) r.length c1] (fun _ => True) (fun _ => False) rfl rfl ?aP (fun _ hk => hk.elim) ?aF ?aO ?aB ?aS ?aL ?_; (case aP => exact ⟨_, c1, rfl, HO4.out.2.1, HO4.out.2.2⟩); (case aF => exact fun _ _ => trivial); (case aO => exact Kd.R_nil _ _ _ _ _); (case aB => exact HB4.out); (case aS => exact below_size HB4.out); (case aL => decide); intro v2 w5 ho hb hgr hat; have HO5 := Aside0.mk (one_of ho (grown_nil hgr)); have HB5 := Aside0.mk hb; clear ho hb hgr hat))
      go_roundg 6
      case measure => omega
      case rel => exact ⟨2, by omega, by omega, by go_num, HB5, Or.inr (Or.inr ⟨true, by omega, rfl, HO5, rfl, rfl, rfl, rfl, rfl, rfl⟩)⟩
    · by_cases hlt : i < 8
      · have hltz : (i : Int) < 8 := by omega
        have hw1 : IntKind.i64.wrap ((i : Int) + 1) = (i : Int) + 1 := IntWalk.i64_in _ (by omega)
        have HG1 := Aside0.mk (HG.out wr HB.out i hlt)
        have HN1 := Aside0.mk (HN.out i h2 hlt)
        obtain ⟨lb, cl, Al, cAl, rfl, _⟩ := HO.out
        go_wp2_with (first | (go_at_call 14; refine HG1.out.mono ?_; rintro e w' ⟨v, rfl, hR, hb⟩; obtain ⟨A, c, rfl⟩ := Kd.R_slice hR; have HR := Aside0.mk (Kd.R_reads' hR); have HB2 := Aside0.mk (below_step HB.out hb); have HO2 := Aside0.mk (One.below HO.out hb); clear hR hb) | (go_at_call 22; refine (journal_read_not _ _ _ _ HR.out.2.2 HR.out.2.1 HN1.out).mono ?_; rintro e w3 ⟨rfl, hb⟩; have HB3 := Aside0.mk (below_step HB2.out hb); have HO3 := Aside0.mk (One.below HO2.out hb); clear hb))
        go_roundg (8 - (i + 1))
        case measure => omega
        case rel => exact ⟨i + 1, by omega, by omega, by go_num, ⟨below_alloc HB3.out _⟩, Or.inr (Or.inr ⟨false, by omega, rfl, ⟨One.below HO3.out (below_alloc (Below.refl _ _) _)⟩, rfl, rfl, rfl, rfl, rfl, rfl⟩)⟩
      · have hltz : ¬ (i : Int) < 8 := by omega
        go_wp2_with fail
        go_ret3
        exact ⟨_, rfl, HO.out, HB.out⟩
end Go.Proofs.YtmajfcdfafhkfaaDoor.H
namespace Go.Proofs.YtmajfcdfafhkfaaDoor.H
open Go.RowKit Go.Proofs.YtmajfcdfafhkfaaDoorW.PrintWords Go.Proofs.YtmajfcdfafhkfaaDoorW.PrintLast Go.Proofs.YtmajfcdfafhkfaaDoor.Leaf Go.Proofs.YtmajfcdfafhkfaaDoor.P
set_option linter.unusedVariables false
set_option linter.unusedSimpArgs false
set_option maxHeartbeats 1000000
set_option maxRecDepth 100000
theorem Sf.lt {w : World} {s : Nat} {S : List Int} (h : Sf w s S) : s < w.heap.size := by
  obtain ⟨_, c, h2, _⟩ := h
  exact (Array.getElem?_eq_some_iff.1 h2).1
theorem Sf.kept {w w' : World} {s : Nat} {S : List Int} (h : Sf w s S) (hb : Below w.heap.size w w') : Sf w' s S := h.below h.lt hb
/-- A disk of eight sectors, nothing pending. -/
def Dk (w : World) (g s : Nat) (S : List Int) : Prop := w.cell? ⟨g, 0, none⟩ = some (.slice (some ⟨s, 0, none⟩) 512 512) ∧ w.cell? ⟨g, 1, none⟩ = some (.slice none 0 0) ∧ Sf w s S
theorem Dk.kept {w w' : World} {g s : Nat} {S : List Int} (h : Dk w g s S) (hb : Below w.heap.size w w') : Dk w' g s S := ⟨pw_cell_below hb h.1, pw_cell_below hb h.2.1, h.2.2.kept hb⟩
theorem gets_of {w : World} {x g s : Nat} {S : List Int} (hx : w.cell? ⟨x, 0, none⟩ = some (.pointer (some ⟨g, 0, none⟩))) (h : Dk w g s S) : Gets w x (sec S) := fun W hW i hi =>
  journal_get W x g s S i hi (pw_cell_below hW hx) (h.kept hW).1 (h.kept hW).2.1 (h.kept hW).2.2
/-- A journal's block. -/
def Jn (w : World) (h g : Nat) (v : Value) (end_ gen : Int) : Prop := w.cell? ⟨h, 0, none⟩ = some (.pointer (some ⟨g, 0, none⟩)) ∧ w.cell? ⟨h, 1, none⟩ = some v ∧ w.cell? ⟨h, 2, none⟩ = some (.int .i64 end_) ∧ w.cell? ⟨h, 3, none⟩ = some (.int .i64 gen)
theorem Jn.kept {w w' : World} {h g : Nat} {v : Value} {a b : Int} (H : Jn w h g v a b) (hb : Below w.heap.size w w') : Jn w' h g v a b := ⟨pw_cell_below hb H.1, pw_cell_below hb H.2.1, pw_cell_below hb H.2.2.1, pw_cell_below hb H.2.2.2⟩
theorem Jn.new (w : World) (g : Nat) (v : Value) (a b : Int) : Jn (w.alloc (.cells #[.pointer (some ⟨g, 0, none⟩), v, .int .i64 a, .int .i64 b] 33)) w.heap.size g v a b := ⟨cell_top _ _ _ 0, cell_top _ _ _ 1, cell_top _ _ _ 2, cell_top _ _ _ 3⟩
theorem journal_Open_two (W : World) (g s : Nat) (S p0 p1 : List Int) (hD : Dk W g s S) (h0 : Says (sec S 0) 0 false 51 p0) (h1 : Says (sec S 1) 1 true 9 p1) (hN : ∀ i, 2 ≤ i → i < 8 → sum_Strip.f (sec S i) = some ([], false)) :
    Calls Tryd.prog 4 #[.pointer (some ⟨g, 0, none⟩)] W fun e w' => ∃ h v, e = .returned (.tuple #[.pointer (some ⟨h, 0, none⟩), .int .i64 0]) ∧ Below W.heap.size W w' ∧ Jn w' h g v 2 2 ∧ One w' v (p0 ++ p1) := by
  have HB1 : Aside0 (Below W.heap.size W (W.alloc (.cells #[.pointer (some ⟨g, 0, none⟩)] 27))) := ⟨below_alloc (Below.refl _ _) _⟩
  have hx := cell_top W #[.pointer (some ⟨g, 0, none⟩)] 27 0
  have hx' : (W.alloc (.cells #[.pointer (some ⟨g, 0, none⟩)] 27)).cell? ⟨W.heap.size, 0, none⟩ = some (.pointer (some ⟨g, 0, none⟩)) := hx
  have HD := Aside0.mk (hD.kept HB1.out)
  have HS := Aside0.mk (disk_Size _ g _ 512 _ 8 (by decide +kernel) HD.out.1)
  have HR := Aside0.mk (records_two _ W.heap.size (sec S) p0 p1 (gets_of hx' HD.out) h0 h1 hN)
  have hmf : ∀ (fn : Fn) (first cap : Array Value) (w : World), (Instr.makeFunc fn first cap).run Tryd.prog w = .ok (.func fn first cap) w := fun _ _ _ _ => rfl
  clear hx hD hN hx' h0 h1
  go_enter Tryd.func4, Tryd.ntmps4
  go_wp2_with (first | (go_at_call 12; refine HS.out.mono ?_; rintro e w' ⟨rfl, hw_⟩; obtain rfl := hw_.symm) | (go_at_call 13; refine HR.out.mono ?_; rintro e w3 ⟨v, rfl, hO, hb⟩; have HB3 := Aside0.mk hb; obtain ⟨lb, cl, A_, cA_, hv_, hO_⟩ := id hO; subst hv_; have HO := Aside0.mk hO; clear hO_; have hx3 := pw_cell_below hb (cell_top W #[.pointer (some ⟨g, 0, none⟩)] 27 0); have hx4 : w3.cell? ⟨W.heap.size, 0, none⟩ = some (.pointer (some ⟨g, 0, none⟩)) := hx3; clear hb hx3 hO))
  go_ret2
  have hb : Below W.heap.size W w3 := below_step HB1.out HB3.out
  exact ⟨w3.heap.size, _, rfl, below_alloc hb _, Jn.new _ _ _ _ _, One.below HO.out (below_alloc (Below.refl _ _) _)⟩
theorem journal_Len (W : World) (h g : Nat) (A : Option Addr) (n c : Nat) (a b : Int) (H : Jn W h g (.slice A n c) a b) : Calls Tryd.prog 8 #[.pointer (some ⟨h, 0, none⟩)] W fun e w' => e = .returned (.int .i64 n) ∧ w' = W := by
  have hs := journal_is W h _ H.1
  have h1 := H.2.1
  clear H
  go_enter Tryd.func8, Tryd.ntmps8
  go_wp2_with fail
  refine hs.mono ?_
  rintro e w' ⟨rfl, hw_⟩
  obtain rfl := hw_.symm
  go_wp2_with fail
  go_ret
  exact ⟨rfl, rfl⟩
theorem journal_Gen (W : World) (h g : Nat) (v : Value) (a b : Int) (H : Jn W h g v a b) : Calls Tryd.prog 10 #[.pointer (some ⟨h, 0, none⟩)] W fun e w' => e = .returned (.int .i64 b) ∧ w' = W := by
  have hs := journal_is W h _ H.1
  have h1 := H.2.2.2
  clear H
  go_enter Tryd.func10, Tryd.ntmps10
  go_wp2_with fail
  refine hs.mono ?_
  rintro e w' ⟨rfl, hw_⟩
  obtain rfl := hw_.symm
  go_wp2_with fail
  go_ret
  exact ⟨rfl, rfl⟩
theorem journal_Get (W : World) (h g : Nat) (v : Value) (a b : Int) (r : List Int) (hr : r.length < 140737488355328) (H : Jn W h g v a b) (hO : One W v r) : Calls Tryd.prog 6 #[.pointer (some ⟨h, 0, none⟩), .int .i64 0] W fun e w' => ∃ u c, e = .returned (.tuple #[.slice u r.length c, .bool true]) ∧ Below W.heap.size W w' := by
  obtain ⟨lb, c, A, cA, rfl, h1c, hlb, hcell, hle, hC⟩ := hO
  have hs := journal_Len W h g _ _ _ _ _ H
  have h1 := H.2.1
  have HCL := Aside0.mk (slices_Clone_byte_byte.calls A cA r r W hC hle (by unfold slices_Clone_byte_byte.f; rw [if_pos hr]))
  clear H hC
  go_enter Tryd.func6, Tryd.ntmps6
  go_wp2_with (first | (go_at_call 8; refine hs.mono ?_; rintro e w' ⟨rfl, hw_⟩; obtain rfl := hw_.symm) | (go_at_call 18; refine HCL.out.mono ?_; rintro e w' ⟨v, rfl, hR, hb⟩; obtain ⟨u, cu, rfl⟩ := Kd.R_slice hR; have HB := Aside0.mk hb; clear hb hR))
  go_ret2
  exact ⟨u, cu, rfl, HB.out⟩
end Go.Proofs.YtmajfcdfafhkfaaDoor.H
namespace Go.Proofs.YtmajfcdfafhkfaaDoor.H
open Go.RowKit Go.Proofs.YtmajfcdfafhkfaaDoorW.PrintWords Go.Proofs.YtmajfcdfafhkfaaDoorW.PrintLast Go.Proofs.YtmajfcdfafhkfaaDoor.Leaf Go.Proofs.YtmajfcdfafhkfaaDoor.P
set_option linter.unusedVariables false
set_option linter.unusedSimpArgs false
set_option maxHeartbeats 1000000
set_option maxRecDepth 100000
abbrev KW : Kd (Int × List Int) := Kd.pair (Kd.int .i64) (Kd.slice 5 (Kd.int .u8))
theorem info56 : (Tryd.prog.info? 56).map (fun i => (i.zero, i.size, i.bytes)) = some (some (.agg #[.int .i64 0, .slice none 0 0]), 2, 32) := by kernel_rfl
theorem lit2 {w : World} {p : Nat} {x y : Value} (h : w.heap[p]? = some (.cells #[x, y] 56 (0, 0))) (pr : Int × List Int) : ReadsRow (fun (q : Int × List Int) cs => q = pr ∧ cs = [x, y]) 2 w (some ⟨p, 0, none⟩) 1 [pr] := by
  refine ⟨rfl, by decide, fun _ => ⟨_, rfl, fun j q hj => ?_⟩⟩
  cases j with
  | zero =>
    cases hj
    refine ⟨[x, y], rfl, ⟨rfl, rfl⟩, fun i u hu => ?_⟩
    rw [addr_add]
    refine cell_of_block h ?_
    rw [show 0 + (0 * 2 + i) = i by omega, ← Array.getElem?_toList]
    exact hu
  | succ j => simp at hj
theorem disk_Write (W : World) (B g : Nat) (A : Option Addr) (c : Nat) (i : Nat) (hi : i < 8) (pv : Value) (ws : List (Int × List Int)) (ok : Nat → Prop) (Ab : Option Addr) (cb : Nat) (b : List Int) (hb64 : b.length = 64) (hws : ws.length ≤ 8)
    (h0 : W.cell? ⟨g, 0, none⟩ = some (.slice A 512 c)) (h1 : W.cell? ⟨g, 1, none⟩ = some pv) (hf : W.frozen? ⟨g, 1, none⟩ = false) (hg : g < W.heap.size) (hBg : B ≤ g) (hP : Kd.R KW 56 W B ok pv ws) (hpg : some g ≠ pv.ownBlock) (hpl : ∀ k, pv.ownBlock = some k → k < W.heap.size)
    (hok : ∀ k, W.heap.size ≤ k → ok k) (hokg : ∀ k, ok k → k ≠ g) (hC : Kd.C (Kd.int .u8) W Ab b.length b) (hcb : b.length ≤ cb) :
    Calls Tryd.prog 19 #[.pointer (some ⟨g, 0, none⟩), .int .i64 (i : Int), .slice Ab b.length cb] W fun e w' => ∃ v, e = .returned (.int .i64 0) ∧ w'.cell? ⟨g, 1, none⟩ = some v ∧ Kd.R KW 56 w' B ok v (ws ++ [((i : Int), b)]) ∧ Below B W w' ∧ (∀ k, k < W.heap.size → k ≠ g → some k ≠ pv.ownBlock → w'.heap[k]? = W.heap[k]?) ∧ w'.cell? ⟨g, 0, none⟩ = some (.slice A 512 c) ∧ w'.frozen? ⟨g, 1, none⟩ = false ∧ W.heap.size ≤ w'.heap.size := by
  have hh := disk_has W g A c i hi h0
  have HCL : Aside0 (∀ W', Below W.heap.size W W' → Calls Tryd.prog 18 #[.slice Ab b.length cb] W' fun e w' => ∃ v0_ : Value, e = .returned (v0_) ∧ Kd.R (Kd.int .u8) 5 w' W'.heap.size (fun _ => True) v0_ b ∧ Below W'.heap.size W' w') := ⟨fun W' hW => slices_Clone_byte_byte.calls Ab cb b b W' (Kd.C_below hC hW) hcb (by unfold slices_Clone_byte_byte.f; rw [if_pos (by rw [hb64]; decide)])⟩
  rw [hb64] at HCL ⊢
  have HP := Aside0.mk hP
  have HH := Aside0.mk (And.intro hpg (And.intro hpl (And.intro hok (And.intro hokg (And.intro hBg (And.intro hg hws))))))
  have HBL : Aside0 (B ≤ W.heap.size) := ⟨by omega⟩
  clear hC hP hpl hok hokg hBg hws
  go_enter Tryd.func19, Tryd.ntmps19
  go_wp2_with (first | (go_at_call 23; refine hh.mono ?_; rintro e w' ⟨rfl, hw_⟩; obtain rfl := hw_.symm))
  go_region_law (first | (go_simp; go_at_call 18; refine (HCL.out _ (by first | exact Below.refl _ _ | exact below_drew (Below.refl _ _))).mono ?_; rintro e w1 ⟨v, rfl, hR, hb⟩; obtain ⟨Ac, cc, hv⟩ := Kd.R_slice hR; rw [hb64] at hv; subst hv; have HR1 : Aside0 (Kd.R (Kd.int .u8) 5 w1 B (fun k => W.heap.size ≤ k) (.slice Ac 64 cc) b) := ⟨Kd.R_lower (Kd.R_mono (Kd.R_bound hR) (fun k h => h.2.1)) HBL.out⟩; have k1 := pw_cell_below hb h1; have k2 : ∀ o, (w1.alloc o).cell? ⟨g, 1, none⟩ = some pv := fun o => pw_cell_below (below_alloc (Below.refl _ _) o) k1; have HB1 : Aside0 (Below W.heap.size W w1) := ⟨by first | exact hb | exact below_step (below_drew (Below.refl _ _)) hb⟩; clear hR hb) | (refine Kd.R_append_rows_step KW (Rr := fun (q : Int × List Int) cs => q = ((i : Int), b) ∧ cs = [.int .i64 (i : Int), .slice Ac 64 cc]) (w0 := W) B rfl (.tmp 20) (.tmp 25) 28 56 (.agg #[.int .i64 0, .slice none 0 0]) 32 rfl Tryd.underlying28 info56 rfl (by decide) (by decide) pv ws [((i : Int), b)] _ 1 1 ok (fun k => W.heap.size ≤ k) rfl rfl ?aO ?aR ?aK ?aP ?aF ?aB ?aS ?aL ?_; (case aO => exact Kd.R_alloc (Kd.R_below HP.out HB1.out) _); (case aR => exact lit2 (heap_top _ _) _); (case aK => exact fun x cs h => by obtain ⟨rfl, rfl⟩ := h; exact ⟨[.int .i64 (i : Int)], [.slice Ac 64 cc], rfl, rfl, _, rfl, Kd.R_alloc HR1.out _⟩); (case aP => exact fun k hk => ⟨HH.out.2.2.1 k hk, fun e => absurd (HH.out.2.1 k e.symm) (by omega)⟩); (case aF => exact fun k hk => HH.out.2.2.1 k (by rw [World.size_alloc] at hk; have := HB1.out.size; omega)); (case aB => exact (below_alloc HB1.out _).mono HBL.out); (case aS => rw [World.size_alloc]; have := HB1.out.size; have := HBL.out; omega); (case aL => have := HH.out.2.2.2.2.2.2; omega); intro v1 w2 ho hb2 hgr hat; obtain ⟨Av, cv, hv1⟩ := Kd.R_slice ho; rw [show (ws ++ [((i : Int), b)]).length = ws.length + 1 by simp] at hv1; subst hv1; have q1 := cell_grown hgr (k2 _) HH.out.1; have q0 := cell_grown hgr (pw_cell_below (below_alloc HB1.out _) h0) HH.out.1; have qf : w2.frozen? ⟨g, 1, none⟩ = false := (hgr.frozen_far ⟨g, 1, none⟩ (Nat.lt_of_lt_of_le hg (below_alloc HB1.out _).size) HH.out.1).trans (((below_alloc HB1.out _).frozen (p := ⟨g, 1, none⟩) hg).trans hf); have HO := Aside0.mk ho; have HB2 := Aside0.mk hb2; have HGR := Aside0.mk (show ∀ k, k < W.heap.size → some k ≠ pv.ownBlock → w2.heap[k]? = W.heap[k]? from fun k hk hn => (hgr.block k (Nat.lt_of_lt_of_le hk (below_alloc HB1.out _).size) hn).trans ((below_alloc HB1.out _).block k hk)); have HSZ := Aside0.mk (show W.heap.size ≤ w2.heap.size from Nat.le_trans (below_alloc HB1.out _).size hgr.size); clear ho hb2 hgr hat))
  all_goals
    go_wp2_with fail
    go_ret
    exact ⟨_, rfl, World.cell?_setCell_same' _ _ _ (by rw [q1]; rfl), Kd.R_step HO.out (fun k hk _ => Below.heap_setCell _ _ _ _ (HH.out.2.2.2.1 k hk)), HB2.out.setCell HH.out.2.2.2.2.1 _, fun k hk hne hn => (Below.heap_setCell _ _ _ _ hne).trans (HGR.out k hk hn), (World.cell?_setCell_other _ _ _ _ (by intro h; cases h)).trans q0, by rw [World.frozen?_setCell]; exact qf, by rw [World.size_setCell]; exact HSZ.out⟩
end Go.Proofs.YtmajfcdfafhkfaaDoor.H
namespace Go.Proofs.YtmajfcdfafhkfaaDoor.P
open Go.Proofs.YtmajfcdfafhkfaaDoor.Leaf
open Go.RowKit Go.Proofs.YtmajfcdfafhkfaaDoorW.PrintWords Go.Proofs.YtmajfcdfafhkfaaDoorW.PrintLast Go.Proofs.YtmajfcdfafhkfaaDoorW.PrintMore
attribute [local go_sem] max2_int min2_int max_two min_two max_three min_three max_four min_four   -- for this text's walks alone
set_option linter.unusedVariables false
set_option linter.unusedSimpArgs false
def bits_Mul64.f (a0 : Int) (a1 : Int) : Option (Int × Int) := some (IntKind.u64.wrap ((IntKind.u64.wrap ((IntKind.u64.wrap ((a0 / 4294967296) * (a1 / 4294967296))) + ((IntKind.u64.wrap ((IntKind.u64.wrap ((a0 / 4294967296) * (Go.bits .and .u64 a1 4294967295))) + ((IntKind.u64.wrap ((Go.bits .and .u64 a0 4294967295) * (Go.bits .and .u64 a1 4294967295))) / 4294967296))) / 4294967296))) + ((IntKind.u64.wrap ((Go.bits .and .u64 (IntKind.u64.wrap ((IntKind.u64.wrap ((a0 / 4294967296) * (Go.bits .and .u64 a1 4294967295))) + ((IntKind.u64.wrap ((Go.bits .and .u64 a0 4294967295) * (Go.bits .and .u64 a1 4294967295))) / 4294967296))) 4294967295) + (IntKind.u64.wrap ((Go.bits .and .u64 a0 4294967295) * (a1 / 4294967296))))) / 4294967296)), IntKind.u64.wrap (a0 * a1))
set_option maxHeartbeats 8000000 in
set_option maxRecDepth 100000 in
theorem bits_Mul64.calls (a0 : Int) (a1 : Int) (r1 : Int) (r2 : Int) (w : World) (h : bits_Mul64.f a0 a1 = some (r1, r2)) :
  Calls Tryd.prog 40 #[.int .u64 a0, .int .u64 a1] w fun e w' => e = .returned (.tuple #[.int .u64 r1, .int .u64 r2]) ∧ Drawn0 w w' := by
 have H : (some (IntKind.u64.wrap ((IntKind.u64.wrap ((IntKind.u64.wrap ((a0 / 4294967296) * (a1 / 4294967296))) + ((IntKind.u64.wrap ((IntKind.u64.wrap ((a0 / 4294967296) * (Go.bits .and .u64 a1 4294967295))) + ((IntKind.u64.wrap ((Go.bits .and .u64 a0 4294967295) * (Go.bits .and .u64 a1 4294967295))) / 4294967296))) / 4294967296))) + ((IntKind.u64.wrap ((Go.bits .and .u64 (IntKind.u64.wrap ((IntKind.u64.wrap ((a0 / 4294967296) * (Go.bits .and .u64 a1 4294967295))) + ((IntKind.u64.wrap ((Go.bits .and .u64 a0 4294967295) * (Go.bits .and .u64 a1 4294967295))) / 4294967296))) 4294967295) + (IntKind.u64.wrap ((Go.bits .and .u64 a0 4294967295) * (a1 / 4294967296))))) / 4294967296)), IntKind.u64.wrap (a0 * a1))) = some (r1, r2) := h
 clear h
 simp only [Option.some.injEq, Prod.mk.injEq] at H
 obtain ⟨rfl, rfl⟩ := H
 go_enter Tryd.func40, Tryd.ntmps40
 go_wp2
 go_ret2
 exact ⟨by first | rfl | (simp; done) | (simp [*]; done), by repeat (first | exact Drawn0.refl _ | apply Drawn0.step)⟩
end Go.Proofs.YtmajfcdfafhkfaaDoor.P
namespace Go.Proofs.YtmajfcdfafhkfaaDoor.P
open Go.Proofs.YtmajfcdfafhkfaaDoor.Leaf
open Go.RowKit Go.Proofs.YtmajfcdfafhkfaaDoorW.PrintWords Go.Proofs.YtmajfcdfafhkfaaDoorW.PrintLast Go.Proofs.YtmajfcdfafhkfaaDoorW.PrintMore
attribute [local go_sem] max2_int min2_int max_two min_two max_three min_three max_four min_four   -- for this text's walks alone
set_option linter.unusedVariables false
set_option linter.unusedSimpArgs false
def bits_Mul.f (a0 : Int) (a1 : Int) : Option (Int × Int) := (bits_Mul64.f a0 a1).bind fun bt101 => (some (bt101.1, bt101.2))
set_option maxHeartbeats 8000000 in
set_option maxRecDepth 100000 in
theorem bits_Mul.calls (a0 : Int) (a1 : Int) (r1 : Int) (r2 : Int) (w : World) (h : bits_Mul.f a0 a1 = some (r1, r2)) :
  Calls Tryd.prog 30 #[.int .u64 a0, .int .u64 a1] w fun e w' => e = .returned (.tuple #[.int .u64 r1, .int .u64 r2]) ∧ Drawn0 w w' := by
 have H : ((bits_Mul64.f a0 a1).bind fun bt101 => (some (bt101.1, bt101.2))) = some (r1, r2) := h
 clear h
 replace H := Option.bind_eq_some_iff.mp H
 obtain ⟨⟨t101, t102⟩, A30, H⟩ := H
 replace H : (some (t101, t102)) = some (r1, r2) := H
 have A3 := Aside0.mk A30
 clear A30
 simp only [Option.some.injEq, Prod.mk.injEq] at H
 obtain ⟨rfl, rfl⟩ := H
 go_enter Tryd.func30, Tryd.ntmps30
 go_wp2_with (first | ((with_reducible refine gate_callee (f := 40) rfl ?_); refine goesL_ (some 25) rfl rfl Tryd.func40 (by kernel_rfl) rfl #[.int .u64 a0, .int .u64 a1] rfl (by (try simp only [List.map_toArray, List.map_cons, List.map_nil]); first | done | rfl | (simp only [List.length_drop, List.length_take]; rfl)) ?_; (with_reducible refine (bits_Mul64.calls a0 a1 t101 t102 _ A3.out).mono ?_); rintro e w' ⟨rfl, ⟨nd, rfl⟩⟩; refine ⟨_, rfl, ?_⟩))
 go_ret2
 exact ⟨by first | rfl | (simp; done) | (simp [*]; done), by repeat (first | exact Drawn0.refl _ | apply Drawn0.step)⟩
end Go.Proofs.YtmajfcdfafhkfaaDoor.P
namespace Go.Proofs.YtmajfcdfafhkfaaDoor.H
open Go.RowKit Go.Proofs.YtmajfcdfafhkfaaDoorW.PrintWords Go.Proofs.YtmajfcdfafhkfaaDoorW.PrintLast Go.Proofs.YtmajfcdfafhkfaaDoor.Leaf Go.Proofs.YtmajfcdfafhkfaaDoor.P
set_option linter.unusedVariables false
set_option linter.unusedSimpArgs false
set_option maxHeartbeats 1000000
set_option maxRecDepth 100000
theorem one_src {w : World} {x k : Nat} {v : Value} (h : w.cell? ⟨x, k, none⟩ = some v) (j : Nat) (u : Value) (hj : [v][j]? = some u) : w.cell? ((⟨x, k, none⟩ : Addr).add j) = some u := by
  cases j with
  | zero =>
    cases hj
    rw [addr_add]
    exact h
  | succ j => simp at hj
theorem one_bool {b : Bool} (v : Value) (hv : v ∈ [Value.bool b]) : v.oneCell' = true := by
  rw [List.mem_singleton.1 hv]
  rfl
theorem repeat_two (W : World) (x : Nat) (hx : W.cell? ⟨x, 0, none⟩ = some (.bool true)) :
    Calls Tryd.prog 26 #[.slice (some ⟨x, 0, none⟩) 1 1, .int .i64 2] W fun e w' => ∃ r, e = .returned (.slice (some ⟨r, 0, none⟩) 2 2) ∧ W.heap.size ≤ r ∧ w'.heap[r]? = some (.cells #[.bool true, .bool true] 4 (0, 0)) ∧ Below W.heap.size W w' := by
  have hm : bits_Mul.f 1 2 = some (0, 2) := by decide +kernel
  have info4 : (Tryd.prog.info? 4).map (fun i => (i.zero, i.size, i.bytes)) = some (some (.bool false), 1, 1) := by kernel_rfl
  have hmk : ∀ W : World, (Instr.makeSlice 59 (.int .i64 2) (.int .i64 2)).run Tryd.prog W = .ok (.slice (some ⟨W.heap.size, 0, none⟩) 2 2) (W.alloc (.cells #[.bool false, .bool false] 4)) := by
    have h0 := print_make_of (P := Tryd.prog) 59 4 (.bool false) 1 Tryd.underlying59 info4 rfl (by decide) 2 (by decide)
    have hmc : madeCells #[Value.bool false] 2 = #[.bool false, .bool false] := by
      apply Array.ext
      · simp [madeCells]
      · intro i h1 h2
        have h3 : i < 2 := h2
        have : i = 0 ∨ i = 1 := by omega
        rcases this with rfl | rfl <;> simp [madeCells, Nat.mod_one]
    simp only [hmc] at h0
    exact h0
  obtain ⟨i0, hi, hz⟩ := Option.map_eq_some_iff.1 info4
  simp only [Prod.mk.injEq] at hz
  have hsz : (Tryd.prog.info? 4).map (·.size) = some 1 := by rw [hi]; exact congrArg some hz.2.1
  have HSZ := Aside0.mk hsz
  clear info4 hi hz hsz
  go_enter Tryd.func26, Tryd.ntmps26
  go_upto_region 7 with (first | (go_at_call 30; refine (bits_Mul.calls 1 2 0 2 _ hm).mono ?_; rintro e w' ⟨rfl, ⟨nd, rfl⟩⟩))
  have HRB : Aside0 (((W.drewN nd).alloc (Obj.cells #[Value.bool false, Value.bool false] 4)).heap[W.heap.size]? = some (.cells #[.bool false, .bool false] 4 (0, 0))) := ⟨heap_top (W.drewN nd) _⟩
  have HB : Aside0 (Below W.heap.size W ((W.drewN nd).alloc (Obj.cells #[Value.bool false, Value.bool false] 4))) := ⟨below_alloc (pw_below_drewN (Below.refl _ _) nd) _⟩
  have HX := Aside0.mk (pw_cell_below HB.out hx)
  clear hx
  generalize (W.drewN nd).alloc (Obj.cells #[Value.bool false, Value.bool false] 4) = W1 at *
  go_wp2_with (first | ((with_reducible refine gate_builtin (b := .copy) (xs := #[.tmp 31, .tmp 32]) rfl ?_);  refine wpList_copy_own rfl (.tmp 31) (.tmp 32) 59 59 rfl 4 Tryd.underlying59 HSZ.out W.heap.size 0 2 2 ⟨x, 0, none⟩ 1 1 rfl rfl #[.bool false, .bool false] 4 HRB.out [.bool true] rfl (one_src HX.out) (by decide) one_bool ?_; have HRB2 : Aside0 ((W1.setRow W.heap.size #[.bool true, .bool false]).heap[W.heap.size]? = some (.cells #[.bool true, .bool false] 4 (0, 0))) := ⟨setRow_heap _ _ _ _ _ _ HRB.out⟩; have HB2 : Aside0 (Below W.heap.size W (W1.setRow W.heap.size #[.bool true, .bool false])) := ⟨below_setRow HB.out (Nat.le_refl _) _⟩; change wpList _ _ _ _ _ (W1.setRow W.heap.size #[.bool true, .bool false]); generalize W1.setRow W.heap.size #[.bool true, .bool false] = W2 at *; clear HX HRB HB))
  go_loopg [8] 2 (fun gg s8 wr => ∃ (bb : Bool) (n : Int), s8 = .int .i64 n ∧ ((n = 1 ∧ bb = false ∧ 1 ≤ gg) ∨ (n = 2 ∧ bb = true)) ∧ Aside0 (wr.heap[W.heap.size]? = some (.cells #[.bool true, .bool bb] 4 (0, 0))) ∧ Aside0 (Below W.heap.size W wr))
  case atStart => exact ⟨false, 1, rfl, Or.inl ⟨rfl, rfl, by omega⟩, HRB2, HB2⟩
  case round =>
    obtain ⟨bb, n, rfl, hst, HRB, HB⟩ := hrel
    rcases hst with ⟨rfl, rfl, hg⟩ | ⟨rfl, rfl⟩
    · go_upto_region 9 with (fail)
      have hcp : (Builtin.copy_ #[59, 59] 3 #[.slice (some ⟨W.heap.size, 1, none⟩) 1 1, .slice (some ⟨W.heap.size, 0, none⟩) 1 2]).run Tryd.prog wr.drew = .ok (.int .i64 1) (wr.drew.setRow W.heap.size #[.bool true, .bool true]) :=
        run_copy_row (P := Tryd.prog) wr.drew 59 59 3 4 W.heap.size 1 1 1 ⟨W.heap.size, 0, none⟩ 1 2 #[.bool true, .bool false] 4 [.bool true] Tryd.underlying59 HSZ.out HRB.out rfl (one_src (cell_of_block HRB.out rfl)) (by decide) one_bool
      have HRB3 : Aside0 ((wr.drew.setRow W.heap.size #[.bool true, .bool true]).heap[W.heap.size]? = some (.cells #[.bool true, .bool true] 4 (0, 0))) := ⟨setRow_heap wr.drew _ _ _ _ _ HRB.out⟩
      have HB3 : Aside0 (Below W.heap.size W (wr.drew.setRow W.heap.size #[.bool true, .bool true])) := ⟨below_setRow (below_drew HB.out) (Nat.le_refl _) _⟩
      generalize wr.drew.setRow W.heap.size #[.bool true, .bool true] = W3 at *
      go_region
      clear hcp
      go_wp2_with fail
      go_roundg 0
      case measure => omega
      case rel => exact ⟨true, 2, rfl, Or.inr ⟨rfl, rfl⟩, HRB3, HB3⟩
    · go_wp2_with fail
      go_ret
      exact ⟨_, rfl, Nat.le_refl _, HRB.out, HB.out⟩
end Go.Proofs.YtmajfcdfafhkfaaDoor.H
namespace Go.Proofs.YtmajfcdfafhkfaaDoor.H
open Go.RowKit Go.Proofs.YtmajfcdfafhkfaaDoorW.PrintWords Go.Proofs.YtmajfcdfafhkfaaDoorW.PrintLast Go.Proofs.YtmajfcdfafhkfaaDoor.Leaf Go.Proofs.YtmajfcdfafhkfaaDoor.P
set_option linter.unusedVariables false
set_option linter.unusedSimpArgs false
set_option maxHeartbeats 1000000
set_option maxRecDepth 100000
/-- A sector put into a disk's bytes. -/
def putS (S : List Int) (a : Nat) (b : List Int) : List Int := S.take (a * 64) ++ (b ++ S.drop (a * 64 + b.length))
theorem putS_length {S : List Int} (h : S.length = 512) {a : Nat} (ha : a < 8) {b : List Int} (hb : b.length = 64) : (putS S a b).length = 512 := by
  unfold putS
  rw [List.length_append, List.length_append, List.length_take, List.length_drop, h, hb]; omega
theorem Sf.put {w : World} {s : Nat} {S b : List Int} {cells : Array Value} {a : Nat} (hS : S.length = 512) (h : w.heap[s]? = some (.cells cells 5 (0, 0))) (hc : cells.toList = nums .u8 S) (hb : b.length = 64) (ha : a < 8) :
    Sf (w.setRow s (cells.toList.take (a * 64) ++ (nums .u8 b ++ cells.toList.drop (a * 64 + (nums .u8 b).length))).toArray) s (putS S a b) := by
  refine ⟨putS_length hS ha hb, _, setRow_heap _ _ _ _ _ _ h, ?_⟩
  rw [hc]
  simp [nums, putS, List.map_take, List.map_drop]
theorem bytes_src {w : World} {A : Addr} {n : Nat} {b : List Int} (h : Kd.C (Kd.int .u8) w (some A) n b) (j : Nat) (v : Value) (hj : (nums .u8 b)[j]? = some v) : w.cell? (A.add j) = some v := by
  unfold nums at hj
  rw [List.getElem?_map] at hj
  obtain ⟨x, hx, rfl⟩ := Option.map_eq_some_iff.1 hj
  have hlt := (List.getElem?_eq_some_iff.1 hx).1
  have hn := h.1
  obtain ⟨ad, e, hc⟩ := h.2.2 (by omega)
  obtain ⟨c, hs, rfl, hcell⟩ := hc j x hx
  have h0 := hcell 0 _ rfl
  cases e
  rw [show j * (Kd.int .u8).sz + 0 = j from by show j * 1 + 0 = j; omega] at h0
  exact h0
theorem nums_one {b : List Int} (v : Value) (hv : v ∈ nums .u8 b) : v.oneCell' = true := by
  unfold nums at hv
  obtain ⟨x, _, rfl⟩ := List.mem_map.1 hv
  rfl
/-- What a crash finds: two writes pending, both kept. -/
structure Cr (W : World) (g s pb cp r q0 c0 q1 c1 a0 a1 : Nat) (S b0 b1 : List Int) : Prop where
  d0 : W.cell? ⟨g, 0, none⟩ = some (.slice (some ⟨s, 0, none⟩) 512 512)
  d1 : W.cell? ⟨g, 1, none⟩ = some (.slice (some ⟨pb, 0, none⟩) 2 cp)
  df : W.frozen? ⟨g, 1, none⟩ = false
  sf : Sf W s S
  p0 : W.cell? ⟨pb, 0, none⟩ = some (.int .i64 (a0 : Int))
  p1 : W.cell? ⟨pb, 1, none⟩ = some (.slice (some ⟨q0, 0, none⟩) 64 c0)
  p2 : W.cell? ⟨pb, 2, none⟩ = some (.int .i64 (a1 : Int))
  p3 : W.cell? ⟨pb, 3, none⟩ = some (.slice (some ⟨q1, 0, none⟩) 64 c1)
  r0 : W.cell? ⟨r, 0, none⟩ = some (.bool true)
  r1 : W.cell? ⟨r, 1, none⟩ = some (.bool true)
  C0 : Kd.C (Kd.int .u8) W (some ⟨q0, 0, none⟩) 64 b0
  C1 : Kd.C (Kd.int .u8) W (some ⟨q1, 0, none⟩) 64 b1
  ha0 : a0 < 8
  ha1 : a1 < 8
  ns : g ≠ s ∧ pb ≠ s ∧ r ≠ s ∧ q0 ≠ s ∧ q1 ≠ s
  nl : g < W.heap.size ∧ pb < W.heap.size ∧ r < W.heap.size ∧ q0 < W.heap.size ∧ q1 < W.heap.size
theorem Cr.step {W wr : World} {g s pb cp r q0 c0 q1 c1 a0 a1 : Nat} {S b0 b1 T : List Int} (h : Cr W g s pb cp r q0 c0 q1 c1 a0 a1 S b0 b1) (hk : ∀ k, k < W.heap.size → k ≠ s → wr.heap[k]? = W.heap[k]?) (hz : W.heap.size ≤ wr.heap.size) (hT : Sf wr s T) : Cr wr g s pb cp r q0 c0 q1 c1 a0 a1 T b0 b1 where
  d0 := (World.cell?_of_block (a := ⟨g, 0, none⟩) (hk g h.nl.1 h.ns.1)).trans h.d0
  d1 := (World.cell?_of_block (a := ⟨g, 1, none⟩) (hk g h.nl.1 h.ns.1)).trans h.d1
  df := (World.frozen?_of_block (a := ⟨g, 1, none⟩) (hk g h.nl.1 h.ns.1)).trans h.df
  sf := hT
  p0 := (World.cell?_of_block (a := ⟨pb, 0, none⟩) (hk pb h.nl.2.1 h.ns.2.1)).trans h.p0
  p1 := (World.cell?_of_block (a := ⟨pb, 1, none⟩) (hk pb h.nl.2.1 h.ns.2.1)).trans h.p1
  p2 := (World.cell?_of_block (a := ⟨pb, 2, none⟩) (hk pb h.nl.2.1 h.ns.2.1)).trans h.p2
  p3 := (World.cell?_of_block (a := ⟨pb, 3, none⟩) (hk pb h.nl.2.1 h.ns.2.1)).trans h.p3
  r0 := (World.cell?_of_block (a := ⟨r, 0, none⟩) (hk r h.nl.2.2.1 h.ns.2.2.1)).trans h.r0
  r1 := (World.cell?_of_block (a := ⟨r, 1, none⟩) (hk r h.nl.2.2.1 h.ns.2.2.1)).trans h.r1
  C0 := C_block h.C0 (hk q0 h.nl.2.2.2.1 h.ns.2.2.2.1)
  C1 := C_block h.C1 (hk q1 h.nl.2.2.2.2 h.ns.2.2.2.2)
  ha0 := h.ha0
  ha1 := h.ha1
  ns := h.ns
  nl := by have := h.nl; omega
theorem disk_Crash (W : World) (g s pb cp r q0 c0 q1 c1 a0 a1 : Nat) (S b0 b1 : List Int) (h : Cr W g s pb cp r q0 c0 q1 c1 a0 a1 S b0 b1) :
    Calls Tryd.prog 25 #[.pointer (some ⟨g, 0, none⟩), .slice (some ⟨r, 0, none⟩) 2 2] W fun e w' => e = .returned (.tuple #[]) ∧ w'.cell? ⟨g, 0, none⟩ = some (.slice (some ⟨s, 0, none⟩) 512 512) ∧ w'.cell? ⟨g, 1, none⟩ = some (.slice none 0 0) ∧ Sf w' s (putS (putS S a0 b0) a1 b1) ∧ W.heap.size ≤ w'.heap.size ∧ (∀ B, B ≤ g → B ≤ s → B ≤ W.heap.size → Below B W w') := by
  have d0 := h.d0
  have d1 := h.d1
  have HH := Aside0.mk h
  have hsz : (Tryd.prog.info? 5).map (·.size) = some 1 := by
    obtain ⟨i0, hi, hz⟩ := Option.map_eq_some_iff.1 P.info5
    simp only [Prod.mk.injEq] at hz
    rw [hi]
    exact congrArg some hz.2.1
  have HSZ := Aside0.mk hsz
  clear h hsz
  go_enter Tryd.func25, Tryd.ntmps25
  go_wp2_with fail
  go_loopg [13] 3 (fun gg s13 wr => ∃ (i : Nat) (T : List Int), s13 = .int .i64 (i : Int) ∧ 2 - i ≤ gg ∧ Aside0 (Cr wr g s pb cp r q0 c0 q1 c1 a0 a1 T b0 b1) ∧ Aside0 (W.heap.size ≤ wr.heap.size ∧ ∀ B, B ≤ g → B ≤ s → B ≤ W.heap.size → Below B W wr) ∧
    ((i = 0 ∧ T = S) ∨ (i = 1 ∧ T = putS S a0 b0) ∨ (i = 2 ∧ T = putS (putS S a0 b0) a1 b1)))
  case atStart => exact ⟨0, S, rfl, by omega, HH, ⟨Nat.le_refl _, fun B _ _ _ => Below.refl _ _⟩, Or.inl ⟨rfl, rfl⟩⟩
  case round =>
    obtain ⟨i, T, rfl, hg, HC, HB, hst⟩ := hrel
    clear d0 d1
    rcases hst with ⟨rfl, hT_⟩ | ⟨rfl, hT_⟩ | ⟨rfl, hT_⟩ <;> (rw [hT_] at HC; clear hT_)
    · have p0 := HC.out.p0
      have p1 := HC.out.p1
      have HCA : Aside0 (∀ o, Cr (wr.alloc o) g s pb cp r q0 c0 q1 c1 a0 a1 S b0 b1) := ⟨fun o => Cr.step HC.out (fun k hk _ => Below.heap_alloc _ _ _ hk) (by rw [World.size_alloc]; omega) (HC.out.sf.kept (below_alloc (Below.refl _ _) _))⟩
      have rr : ∀ o, (wr.alloc o).cell? ⟨r, 0, none⟩ = some (.bool true) := fun o => (HCA.out o).r0
      have HBA : Aside0 (∀ o, W.heap.size ≤ (wr.alloc o).heap.size ∧ ∀ B, B ≤ g → B ≤ s → B ≤ W.heap.size → Below B W (wr.alloc o)) := ⟨fun o => ⟨Nat.le_trans HB.out.1 (by rw [World.size_alloc]; omega), fun B h1 h2 h3 => (HB.out.2 B h1 h2 h3).alloc (Nat.le_trans h3 HB.out.1) _⟩⟩
      go_upto_region 5 with (fail)
      have t0 := cell_top wr #[.int .i64 (a0 : Int), .slice (some ⟨q0, 0, none⟩) 64 c0] 56 0
      have t1 := cell_top wr #[.int .i64 (a0 : Int), .slice (some ⟨q0, 0, none⟩) 64 c0] 56 1
      have t0' : (wr.alloc (.cells #[.int .i64 (a0 : Int), .slice (some ⟨q0, 0, none⟩) 64 c0] 56)).drew.cell? ⟨wr.heap.size, 0, none⟩ = some (.int .i64 (a0 : Int)) := t0
      have t1' : (wr.alloc (.cells #[.int .i64 (a0 : Int), .slice (some ⟨q0, 0, none⟩) 64 c0] 56)).drew.cell? ⟨wr.heap.size, 1, none⟩ = some (.slice (some ⟨q0, 0, none⟩) 64 c0) := t1
      have HC2 : Aside0 (Cr (wr.alloc (.cells #[.int .i64 (a0 : Int), .slice (some ⟨q0, 0, none⟩) 64 c0] 56)).drew g s pb cp r q0 c0 q1 c1 a0 a1 S b0 b1) := ⟨Cr.step (HCA.out _) (fun _ _ _ => rfl) (Nat.le_refl _) ((HCA.out _).sf)⟩
      have HB2 : Aside0 (W.heap.size ≤ (wr.alloc (.cells #[.int .i64 (a0 : Int), .slice (some ⟨q0, 0, none⟩) 64 c0] 56)).drew.heap.size ∧ ∀ B, B ≤ g → B ≤ s → B ≤ W.heap.size → Below B W (wr.alloc (.cells #[.int .i64 (a0 : Int), .slice (some ⟨q0, 0, none⟩) 64 c0] 56)).drew) := ⟨⟨(HBA.out _).1, fun B h1 h2 h3 => ((HBA.out _).2 B h1 h2 h3).drew⟩⟩
      clear HCA HBA rr t0 t1 p0 p1 HC HB
      generalize hw3 : (wr.alloc (.cells #[.int .i64 (a0 : Int), .slice (some ⟨q0, 0, none⟩) 64 c0] 56)) = w0 at *
      have t0 : w0.cell? ⟨wr.heap.size, 0, none⟩ = some (.int .i64 (a0 : Int)) := t0'
      have t1 : w0.cell? ⟨wr.heap.size, 1, none⟩ = some (.slice (some ⟨q0, 0, none⟩) 64 c0) := t1'
      obtain ⟨hT, cells, hcells, hlist⟩ := HC2.out.sf
      have hsec := disk_sector w0.drew g s 512 (by decide) a0 HC2.out.ha0 HC2.out.d0
      have hb64 : b0.length = 64 := HC2.out.C0.1
      have hn64 : (nums .u8 b0).length = 64 := by rw [nums_length]; exact hb64
      have hcs : cells.size = 512 := by rw [← Array.length_toList, hlist, nums_length, hT]
      have HS4 := Aside0.mk (Sf.put hT hcells hlist hb64 HC2.out.ha0)
      have HZ4 : Aside0 (w0.drew.heap.size ≤ (w0.drew.setRow s (cells.toList.take (a0 * 64) ++ (nums .u8 b0 ++ cells.toList.drop (a0 * 64 + (nums .u8 b0).length))).toArray).heap.size) := ⟨(below_setRow (Below.refl 0 w0.drew) (Nat.zero_le _) _).size⟩
      have HB4 : Aside0 (W.heap.size ≤ (w0.drew.setRow s (cells.toList.take (a0 * 64) ++ (nums .u8 b0 ++ cells.toList.drop (a0 * 64 + (nums .u8 b0).length))).toArray).heap.size ∧ ∀ B, B ≤ g → B ≤ s → B ≤ W.heap.size → Below B W (w0.drew.setRow s (cells.toList.take (a0 * 64) ++ (nums .u8 b0 ++ cells.toList.drop (a0 * 64 + (nums .u8 b0).length))).toArray)) := ⟨⟨Nat.le_trans HB2.out.1 HZ4.out, fun B h1 h2 h3 => below_setRow (HB2.out.2 B h1 h2 h3) h2 _⟩⟩
      have HC4 := Aside0.mk (Cr.step HC2.out (fun k _ hk => setRow_other w0.drew s k _ hk) HZ4.out HS4.out)
      have hcp : (Builtin.copy_ #[22, 22] 3 #[.slice (some ⟨s, a0 * 64, none⟩) 64 (512 - a0 * 64), .slice (some ⟨q0, 0, none⟩) 64 c0]).run Tryd.prog w0.drew = .ok (goInt (nums .u8 b0).length) (w0.drew.setRow s (cells.toList.take (a0 * 64) ++ (nums .u8 b0 ++ cells.toList.drop (a0 * 64 + (nums .u8 b0).length))).toArray) := by
        rw [← List.append_assoc]
        exact run_copy_row (P := Tryd.prog) w0.drew 22 22 3 5 s (a0 * 64) 64 (512 - a0 * 64) ⟨q0, 0, none⟩ 64 c0 cells 5 (nums .u8 b0) Tryd.underlying22 HSZ.out hcells (by rw [hn64]; rfl) (bytes_src HC2.out.C0) (by rw [hn64, hcs]; have := HC2.out.ha0; omega) nums_one
      clear HZ4 HS4
      generalize w0.drew.setRow s (cells.toList.take (a0 * 64) ++ (nums .u8 b0 ++ cells.toList.drop (a0 * 64 + (nums .u8 b0).length))).toArray = w4 at *
      have HSE := Aside0.mk hsec
      clear hT hcells hlist hb64 hcs HC2 HB2 hsec t0' t1'
      go_region_with (first | (go_at_call 24; refine HSE.out.mono ?_; rintro e w' ⟨rfl, hw_⟩; obtain rfl := hw_.symm))
      all_goals
        go_wp2_with fail
        go_roundg 1
        case measure => omega
        case rel => exact ⟨1, _, by go_num, by omega, HC4, HB4, Or.inr (Or.inl ⟨rfl, rfl⟩)⟩
    · have p0 := HC.out.p2
      have p1 := HC.out.p3
      have HCA : Aside0 (∀ o, Cr (wr.alloc o) g s pb cp r q0 c0 q1 c1 a0 a1 (putS S a0 b0) b0 b1) := ⟨fun o => Cr.step HC.out (fun k hk _ => Below.heap_alloc _ _ _ hk) (by rw [World.size_alloc]; omega) (HC.out.sf.kept (below_alloc (Below.refl _ _) _))⟩
      have rr : ∀ o, (wr.alloc o).cell? ⟨r, 1, none⟩ = some (.bool true) := fun o => (HCA.out o).r1
      have HBA : Aside0 (∀ o, W.heap.size ≤ (wr.alloc o).heap.size ∧ ∀ B, B ≤ g → B ≤ s → B ≤ W.heap.size → Below B W (wr.alloc o)) := ⟨fun o => ⟨Nat.le_trans HB.out.1 (by rw [World.size_alloc]; omega), fun B h1 h2 h3 => (HB.out.2 B h1 h2 h3).alloc (Nat.le_trans h3 HB.out.1) _⟩⟩
      go_upto_region 5 with (fail)
      have t0 := cell_top wr #[.int .i64 (a1 : Int), .slice (some ⟨q1, 0, none⟩) 64 c1] 56 0
      have t1 := cell_top wr #[.int .i64 (a1 : Int), .slice (some ⟨q1, 0, none⟩) 64 c1] 56 1
      have t0' : (wr.alloc (.cells #[.int .i64 (a1 : Int), .slice (some ⟨q1, 0, none⟩) 64 c1] 56)).drew.cell? ⟨wr.heap.size, 0, none⟩ = some (.int .i64 (a1 : Int)) := t0
      have t1' : (wr.alloc (.cells #[.int .i64 (a1 : Int), .slice (some ⟨q1, 0, none⟩) 64 c1] 56)).drew.cell? ⟨wr.heap.size, 1, none⟩ = some (.slice (some ⟨q1, 0, none⟩) 64 c1) := t1
      have HC2 : Aside0 (Cr (wr.alloc (.cells #[.int .i64 (a1 : Int), .slice (some ⟨q1, 0, none⟩) 64 c1] 56)).drew g s pb cp r q0 c0 q1 c1 a0 a1 (putS S a0 b0) b0 b1) := ⟨Cr.step (HCA.out _) (fun _ _ _ => rfl) (Nat.le_refl _) ((HCA.out _).sf)⟩
      have HB2 : Aside0 (W.heap.size ≤ (wr.alloc (.cells #[.int .i64 (a1 : Int), .slice (some ⟨q1, 0, none⟩) 64 c1] 56)).drew.heap.size ∧ ∀ B, B ≤ g → B ≤ s → B ≤ W.heap.size → Below B W (wr.alloc (.cells #[.int .i64 (a1 : Int), .slice (some ⟨q1, 0, none⟩) 64 c1] 56)).drew) := ⟨⟨(HBA.out _).1, fun B h1 h2 h3 => ((HBA.out _).2 B h1 h2 h3).drew⟩⟩
      clear HCA HBA rr t0 t1 p0 p1 HC HB
      generalize hw3 : (wr.alloc (.cells #[.int .i64 (a1 : Int), .slice (some ⟨q1, 0, none⟩) 64 c1] 56)) = w0 at *
      have t0 : w0.cell? ⟨wr.heap.size, 0, none⟩ = some (.int .i64 (a1 : Int)) := t0'
      have t1 : w0.cell? ⟨wr.heap.size, 1, none⟩ = some (.slice (some ⟨q1, 0, none⟩) 64 c1) := t1'
      obtain ⟨hT, cells, hcells, hlist⟩ := HC2.out.sf
      have hsec := disk_sector w0.drew g s 512 (by decide) a1 HC2.out.ha1 HC2.out.d0
      have hb64 : b1.length = 64 := HC2.out.C1.1
      have hn64 : (nums .u8 b1).length = 64 := by rw [nums_length]; exact hb64
      have hcs : cells.size = 512 := by rw [← Array.length_toList, hlist, nums_length, hT]
      have HS4 := Aside0.mk (Sf.put hT hcells hlist hb64 HC2.out.ha1)
      have HZ4 : Aside0 (w0.drew.heap.size ≤ (w0.drew.setRow s (cells.toList.take (a1 * 64) ++ (nums .u8 b1 ++ cells.toList.drop (a1 * 64 + (nums .u8 b1).length))).toArray).heap.size) := ⟨(below_setRow (Below.refl 0 w0.drew) (Nat.zero_le _) _).size⟩
      have HB4 : Aside0 (W.heap.size ≤ (w0.drew.setRow s (cells.toList.take (a1 * 64) ++ (nums .u8 b1 ++ cells.toList.drop (a1 * 64 + (nums .u8 b1).length))).toArray).heap.size ∧ ∀ B, B ≤ g → B ≤ s → B ≤ W.heap.size → Below B W (w0.drew.setRow s (cells.toList.take (a1 * 64) ++ (nums .u8 b1 ++ cells.toList.drop (a1 * 64 + (nums .u8 b1).length))).toArray)) := ⟨⟨Nat.le_trans HB2.out.1 HZ4.out, fun B h1 h2 h3 => below_setRow (HB2.out.2 B h1 h2 h3) h2 _⟩⟩
      have HC4 := Aside0.mk (Cr.step HC2.out (fun k _ hk => setRow_other w0.drew s k _ hk) HZ4.out HS4.out)
      have hcp : (Builtin.copy_ #[22, 22] 3 #[.slice (some ⟨s, a1 * 64, none⟩) 64 (512 - a1 * 64), .slice (some ⟨q1, 0, none⟩) 64 c1]).run Tryd.prog w0.drew = .ok (goInt (nums .u8 b1).length) (w0.drew.setRow s (cells.toList.take (a1 * 64) ++ (nums .u8 b1 ++ cells.toList.drop (a1 * 64 + (nums .u8 b1).length))).toArray) := by
        rw [← List.append_assoc]
        exact run_copy_row (P := Tryd.prog) w0.drew 22 22 3 5 s (a1 * 64) 64 (512 - a1 * 64) ⟨q1, 0, none⟩ 64 c1 cells 5 (nums .u8 b1) Tryd.underlying22 HSZ.out hcells (by rw [hn64]; rfl) (bytes_src HC2.out.C1) (by rw [hn64, hcs]; have := HC2.out.ha1; omega) nums_one
      clear HZ4 HS4
      generalize w0.drew.setRow s (cells.toList.take (a1 * 64) ++ (nums .u8 b1 ++ cells.toList.drop (a1 * 64 + (nums .u8 b1).length))).toArray = w4 at *
      have HSE := Aside0.mk hsec
      clear hT hcells hlist hb64 hcs HC2 HB2 hsec t0' t1'
      go_region_with (first | (go_at_call 24; refine HSE.out.mono ?_; rintro e w' ⟨rfl, hw_⟩; obtain rfl := hw_.symm))
      all_goals
        go_wp2_with fail
        go_roundg 0
        case measure => omega
        case rel => exact ⟨2, _, by go_num, by omega, HC4, HB4, Or.inr (Or.inr ⟨rfl, rfl⟩)⟩
    · have d1 := HC.out.d1
      have df := HC.out.df
      go_wp2_with fail
      go_end0
      exact ⟨rfl, (World.cell?_setCell_other _ _ _ _ (by intro h; cases h)).trans HC.out.d0, World.cell?_setCell_same' _ _ _ (by rw [d1]; rfl), ⟨HC.out.sf.1, by
        obtain ⟨cells, h1, h2⟩ := HC.out.sf.2
        exact ⟨cells, by rw [Below.heap_setCell _ _ _ _ (by intro e; exact HC.out.ns.1 e.symm)]; exact h1, h2⟩⟩, by rw [World.size_setCell]; exact HB.out.1, fun B h1 h2 h3 => (HB.out.2 B h1 h2 h3).setCell h1 _⟩
end Go.Proofs.YtmajfcdfafhkfaaDoor.H
namespace Go.Proofs.YtmajfcdfafhkfaaDoor.H
open Go.RowKit Go.Proofs.YtmajfcdfafhkfaaDoorW.PrintWords Go.Proofs.YtmajfcdfafhkfaaDoorW.PrintLast Go.Proofs.YtmajfcdfafhkfaaDoor.Leaf Go.Proofs.YtmajfcdfafhkfaaDoor.P
set_option linter.unusedVariables false
set_option linter.unusedSimpArgs false
set_option maxHeartbeats 1000000
set_option maxRecDepth 100000
/-- Two writes pending, whatever two kept's are laid. -/
def Fl (W : World) (g s pb cp q0 c0 q1 c1 a0 a1 : Nat) (S b0 b1 : List Int) : Prop :=
  W.cell? ⟨g, 1, none⟩ = some (.slice (some ⟨pb, 0, none⟩) 2 cp) ∧ g < W.heap.size ∧ s < W.heap.size ∧ ∀ W2 r, Below W.heap.size W W2 → W2.cell? ⟨r, 0, none⟩ = some (.bool true) → W2.cell? ⟨r, 1, none⟩ = some (.bool true) → W.heap.size ≤ r → r < W2.heap.size → Cr W2 g s pb cp r q0 c0 q1 c1 a0 a1 S b0 b1
theorem disk_Flush (W : World) (g s pb cp q0 c0 q1 c1 a0 a1 : Nat) (S b0 b1 : List Int) (h : Fl W g s pb cp q0 c0 q1 c1 a0 a1 S b0 b1) :
    Calls Tryd.prog 17 #[.pointer (some ⟨g, 0, none⟩)] W fun e w' => e = .returned (.tuple #[]) ∧ Dk w' g s (putS (putS S a0 b0) a1 b1) ∧ (∀ B, B ≤ g → B ≤ s → B ≤ W.heap.size → Below B W w') := by
  have HH := Aside0.mk h
  have d1 : ∀ o, (W.alloc o).cell? ⟨g, 1, none⟩ = some (.slice (some ⟨pb, 0, none⟩) 2 cp) := fun o => pw_cell_below (below_alloc (Below.refl _ _) o) h.1
  have HR := Aside0.mk (repeat_two (W.alloc (.cells #[.bool true] 4)) W.heap.size (cell_top W #[.bool true] 4 0))
  clear h
  go_enter Tryd.func17, Tryd.ntmps17
  go_wp2_with (first | (go_at_call 26; refine HR.out.mono ?_; rintro e w2 ⟨r, rfl, hr1, hr2, hb⟩; have HB2 : Aside0 (Below W.heap.size W w2) := ⟨below_step (below_alloc (Below.refl _ _) _) hb⟩; have HC := Aside0.mk (disk_Crash w2 g s pb cp r q0 c0 q1 c1 a0 a1 S b0 b1 (HH.out.2.2.2 w2 r HB2.out (cell_of_block hr2 rfl) (cell_of_block hr2 rfl) (Nat.le_trans (by rw [World.size_alloc]; omega) hr1) (Array.getElem?_eq_some_iff.1 hr2).1)); clear hr1 hr2 hb) | (go_at_call 25; refine HC.out.mono ?_; rintro e w3 ⟨rfl, h1, h2, h3, h4, h5⟩; have HD : Aside0 (Dk w3 g s (putS (putS S a0 b0) a1 b1)) := ⟨⟨h1, h2, h3⟩⟩; have HE : Aside0 (∀ B, B ≤ g → B ≤ s → B ≤ W.heap.size → Below B W w3) := ⟨fun B g1 g2 g3 => (HB2.out.mono g3).trans (h5 B g1 g2 (Nat.le_trans g3 HB2.out.size))⟩; clear h1 h2 h3 h4 h5))
  go_end0
  exact ⟨rfl, HD.out, HE.out⟩
theorem journal_Sync (W : World) (hj g s pb cp q0 c0 q1 c1 a0 a1 : Nat) (S b0 b1 : List Int) (h : Fl W g s pb cp q0 c0 q1 c1 a0 a1 S b0 b1) (hd : W.cell? ⟨hj, 0, none⟩ = some (.pointer (some ⟨g, 0, none⟩))) :
    Calls Tryd.prog 5 #[.pointer (some ⟨hj, 0, none⟩)] W fun e w' => e = .returned (.tuple #[]) ∧ Dk w' g s (putS (putS S a0 b0) a1 b1) ∧ (∀ B, B ≤ g → B ≤ s → B ≤ W.heap.size → Below B W w') := by
  have HF := Aside0.mk (disk_Flush W g s pb cp q0 c0 q1 c1 a0 a1 S b0 b1 h)
  have hs := journal_is W hj _ hd
  clear h
  go_enter Tryd.func5, Tryd.ntmps5
  go_wp2_with (first | (go_at_call 16; refine hs.mono ?_; rintro e w' ⟨rfl, hw_⟩; obtain rfl := hw_.symm) | (go_at_call 17; refine HF.out.mono ?_; rintro e w3 ⟨rfl, h1, h2⟩; have HD := Aside0.mk h1; have HE := Aside0.mk h2; clear h1 h2))
  go_end0
  exact ⟨rfl, HD.out, HE.out⟩
end Go.Proofs.YtmajfcdfafhkfaaDoor.H
namespace Go.Proofs.YtmajfcdfafhkfaaDoor.H
open Go.RowKit Go.Proofs.YtmajfcdfafhkfaaDoorW.PrintWords Go.Proofs.YtmajfcdfafhkfaaDoorW.PrintLast Go.Proofs.YtmajfcdfafhkfaaDoor.Leaf Go.Proofs.YtmajfcdfafhkfaaDoor.P
set_option maxRecDepth 100000
theorem strip_zero : sum_Strip.f (List.replicate 64 0) = some ([], false) := by decide +kernel
/-- The two sectors of a record of 60 zeros, and a disk that has them. -/
def X0 : List Int := (journal_part_sector.f 1 1 0 false (List.replicate 51 0)).getD []
def X1 : List Int := (journal_part_sector.f 1 1 1 true (List.replicate 9 0)).getD []
def Z : List Int := List.replicate 512 0
def ZX : List Int := putS (putS Z 0 X0) 1 X1
theorem sector_0 : journal_part_sector.f 1 1 0 false (List.replicate 51 0) = some X0 := by decide +kernel
theorem sector_1 : journal_part_sector.f 1 1 1 true (List.replicate 9 0) = some X1 := by decide +kernel
theorem X0_length : X0.length = 64 := by decide +kernel
theorem X1_length : X1.length = 64 := by decide +kernel
theorem strip_0 : sum_Strip.f X0 = some (X0.take 60, true) := by decide +kernel
theorem strip_1 : sum_Strip.f X1 = some (X1.take 60, true) := by decide +kernel
theorem sec_Z : ∀ i, i < 8 → sec Z i = List.replicate 64 0 := by decide +kernel
theorem sec_0 : sec ZX 0 = X0 := by decide +kernel
theorem sec_1 : sec ZX 1 = X1 := by decide +kernel
theorem sec_n : ∀ i, i < 8 → 2 ≤ i → sec ZX i = List.replicate 64 0 := by decide +kernel
theorem trim_0 : bytes_Trim.f 100 ((X0.take 60).drop 60) ⟨#[0]⟩ = some [] := by decide +kernel
theorem trim_1 : bytes_Trim.f 100 ((X1.take 60).drop 18) ⟨#[0]⟩ = some [] := by decide +kernel
def q0 : List Int := ((X0.take 60).drop 9).take 51
def q1 : List Int := ((X1.take 60).drop 9).take 9
theorem says_0 : Says (sec ZX 0) 0 false 51 q0 := ⟨by decide +kernel, fun W A c hC hc => by
  rw [sec_0] at *
  exact journal_read_0 W A c X0 (X0.take 60) 100 hC hc strip_0 (by decide +kernel) (by decide +kernel) (by decide +kernel) (by decide +kernel) (by decide +kernel) (by decide +kernel) (by decide +kernel) (by decide +kernel) (by decide +kernel) (by decide +kernel) trim_0⟩
theorem says_1 : Says (sec ZX 1) 1 true 9 q1 := ⟨by decide +kernel, fun W A c hC hc => by
  rw [sec_1] at *
  exact journal_read_1 W A c X1 (X1.take 60) 100 hC hc strip_1 (by decide +kernel) (by decide +kernel) (by decide +kernel) (by decide +kernel) (by decide +kernel) (by decide +kernel) (by decide +kernel) (by decide +kernel) (by decide +kernel) (by decide +kernel) trim_1⟩
theorem strip_Z (i : Nat) (hi : i < 8) : sum_Strip.f (sec Z i) = some ([], false) := by rw [sec_Z i hi]; exact strip_zero
theorem strip_n (i : Nat) (h2 : 2 ≤ i) (hi : i < 8) : sum_Strip.f (sec ZX i) = some ([], false) := by rw [sec_n i hi h2]; exact strip_zero
theorem q_length : (q0 ++ q1).length = 60 := by decide +kernel
end Go.Proofs.YtmajfcdfafhkfaaDoor.H
namespace Go.Proofs.YtmajfcdfafhkfaaDoor.H
open Go.RowKit Go.Proofs.YtmajfcdfafhkfaaDoorW.PrintWords Go.Proofs.YtmajfcdfafhkfaaDoorW.PrintLast Go.Proofs.YtmajfcdfafhkfaaDoor.Leaf Go.Proofs.YtmajfcdfafhkfaaDoor.P
set_option linter.unusedVariables false
set_option linter.unusedSimpArgs false
theorem own_row64 {w : World} {B : Nat} {ok : Nat → Prop} {v : Value} {b : List Int} (h : Kd.R (Kd.int .u8) 5 w B ok v b) (hb : b.length = 64) :
    ∃ q c, v = .slice (some ⟨q, 0, none⟩) 64 c ∧ ok q ∧ q < w.heap.size ∧ Kd.C (Kd.int .u8) w (some ⟨q, 0, none⟩) 64 b := by
  obtain ⟨A, c, hv, hle, hC⟩ := Kd.R_reads h
  have hk := h.1
  obtain ⟨inner, ho, hr⟩ := h.2
  rcases ho.2 with ⟨_, hn⟩ | ⟨q, cap, cur, hv2, hq, hc, _⟩
  · omega
  · rw [hv] at hv2
    injection hv2 with e1 e2 e3
    subst e1
    exact ⟨q, c, by rw [hv, hb], hk q (by rw [hv]; rfl), (Array.getElem?_eq_some_iff.1 hc).1, by rw [← hb]; exact hC⟩
theorem pend_two {w : World} {B : Nat} {ok : Nat → Prop} {v : Value} {a0 a1 : Int} {b0 b1 : List Int} (h : Kd.R KW 56 w B ok v [(a0, b0), (a1, b1)]) (h0 : b0.length = 64) (h1 : b1.length = 64) :
    ∃ pb cp q0 c0 q1 c1, v = .slice (some ⟨pb, 0, none⟩) 2 cp ∧ (ok pb ∧ ok q0 ∧ ok q1) ∧ (pb < w.heap.size ∧ q0 < w.heap.size ∧ q1 < w.heap.size) ∧
      w.cell? ⟨pb, 0, none⟩ = some (.int .i64 a0) ∧ w.cell? ⟨pb, 1, none⟩ = some (.slice (some ⟨q0, 0, none⟩) 64 c0) ∧ w.cell? ⟨pb, 2, none⟩ = some (.int .i64 a1) ∧ w.cell? ⟨pb, 3, none⟩ = some (.slice (some ⟨q1, 0, none⟩) 64 c1) ∧
      Kd.C (Kd.int .u8) w (some ⟨q0, 0, none⟩) 64 b0 ∧ Kd.C (Kd.int .u8) w (some ⟨q1, 0, none⟩) 64 b1 := by
  have hk := h.1
  obtain ⟨inner, ho, hr⟩ := h.2
  have hlen : inner.length = 4 := hr.1
  obtain ⟨i0, i1, i2, i3, rfl⟩ : ∃ i0 i1 i2 i3, inner = [i0, i1, i2, i3] := by
    match inner, hlen with
    | [x0, x1, x2, x3], _ => exact ⟨x0, x1, x2, x3, rfl⟩
  have m0 : KW.M w B (fun k => ok k ∧ some k ≠ v.ownBlock) (a0, b0) [i0, i1] := hr.2 0 _ rfl
  have m1 : KW.M w B (fun k => ok k ∧ some k ≠ v.ownBlock) (a1, b1) [i2, i3] := hr.2 1 _ rfl
  obtain ⟨x0, y0, e0, hx0, v0, hy0, hR0⟩ := m0
  obtain ⟨x1, y1, e1, hx1, v1, hy1, hR1⟩ := m1
  have hx0' : x0 = [.int .i64 a0] := hx0
  have hx1' : x1 = [.int .i64 a1] := hx1
  subst hx0' hx1' hy0 hy1
  simp only [List.singleton_append, List.cons.injEq, and_true] at e0 e1
  obtain ⟨rfl, rfl⟩ := e0
  obtain ⟨rfl, rfl⟩ := e1
  obtain ⟨q0, c0, rfl, ho0, hl0, hC0⟩ := own_row64 hR0 h0
  obtain ⟨q1, c1, rfl, ho1, hl1, hC1⟩ := own_row64 hR1 h1
  rcases ho.2 with ⟨_, hn⟩ | ⟨pb, cap, cur, hv2, hq, hc, hle, hmx, hsz, htake⟩
  · cases hn
  · have hcell : ∀ (k : Nat) (u : Value), k < 4 → [Value.int .i64 a0, .slice (some ⟨q0, 0, none⟩) 64 c0, .int .i64 a1, .slice (some ⟨q1, 0, none⟩) 64 c1][k]? = some u → w.cell? ⟨pb, k, none⟩ = some u := by
      intro k u hlt hu
      refine cell_of_block hc ?_
      rw [← Array.getElem?_toList, ← hu, ← htake, List.getElem?_take_of_lt (show k < [(a0, b0), (a1, b1)].length * KW.sz from hlt)]
    exact ⟨pb, cap, q0, c0, q1, c1, hv2, ⟨hk pb (by rw [hv2]; rfl), ho0.1, ho1.1⟩, ⟨(Array.getElem?_eq_some_iff.1 hc).1, hl0, hl1⟩, hcell 0 _ (by decide) rfl, hcell 1 _ (by decide) rfl, hcell 2 _ (by decide) rfl, hcell 3 _ (by decide) rfl, hC0, hC1⟩
/-- Which blocks pending rows may be. -/
def Ok (hj g s x k : Nat) : Prop := k ≠ g ∧ k ≠ s ∧ k ≠ hj ∧ k ≠ x
/-- What stands between the steps of a put. -/
structure Ps (W : World) (B hj g s x e : Nat) (lv pv : Value) (ws : List (Int × List Int)) : Prop where
  jd : W.cell? ⟨hj, 0, none⟩ = some (.pointer (some ⟨g, 0, none⟩))
  jl : W.cell? ⟨hj, 1, none⟩ = some lv
  je : W.cell? ⟨hj, 2, none⟩ = some (.int .i64 (e : Int))
  jg : W.cell? ⟨hj, 3, none⟩ = some (.int .i64 1)
  fe : W.frozen? ⟨hj, 2, none⟩ = false
  fl : W.frozen? ⟨hj, 1, none⟩ = false
  d0 : W.cell? ⟨g, 0, none⟩ = some (.slice (some ⟨s, 0, none⟩) 512 512)
  d1 : W.cell? ⟨g, 1, none⟩ = some pv
  df : W.frozen? ⟨g, 1, none⟩ = false
  sf : Sf W s Z
  C : Kd.C (Kd.int .u8) W (some ⟨x, 0, none⟩) 60 (List.replicate 60 0)
  R : Kd.R KW 56 W B (Ok hj g s x) pv ws
  nl : hj < W.heap.size ∧ g < W.heap.size ∧ s < W.heap.size ∧ x < W.heap.size
  ne : hj ≠ g ∧ hj ≠ s ∧ hj ≠ x ∧ g ≠ s ∧ g ≠ x ∧ s ≠ x
  le : B ≤ hj ∧ B ≤ g ∧ B ≤ s ∧ B ≤ x
theorem Ps.kept {W W' : World} {B hj g s x e : Nat} {lv pv : Value} {ws : List (Int × List Int)} (h : Ps W B hj g s x e lv pv ws) (hb : Below W.heap.size W W') : Ps W' B hj g s x e lv pv ws where
  jd := pw_cell_below hb h.jd
  jl := pw_cell_below hb h.jl
  je := pw_cell_below hb h.je
  jg := pw_cell_below hb h.jg
  fe := (hb.frozen (p := ⟨hj, 2, none⟩) h.nl.1).trans h.fe
  fl := (hb.frozen (p := ⟨hj, 1, none⟩) h.nl.1).trans h.fl
  d0 := pw_cell_below hb h.d0
  d1 := pw_cell_below hb h.d1
  df := (hb.frozen (p := ⟨g, 1, none⟩) h.nl.2.1).trans h.df
  sf := h.sf.kept hb
  C := Kd.C_below h.C hb
  R := Kd.R_below h.R hb
  nl := by have := hb.size; have := h.nl; omega
  ne := h.ne
  le := h.le
theorem Ps.own {W : World} {B hj g s x e : Nat} {lv pv : Value} {ws : List (Int × List Int)} (h : Ps W B hj g s x e lv pv ws) : ∀ k, pv.ownBlock = some k → Ok hj g s x k ∧ k < W.heap.size := fun k hk =>
  ⟨h.R.1 k hk, (Kd.R_bound h.R).1 k hk |>.2.2.1⟩
theorem Ps.wrote {W W' : World} {B hj g s x e : Nat} {lv pv v : Value} {ws ws' : List (Int × List Int)} (h : Ps W B hj g s x e lv pv ws) (h1 : W'.cell? ⟨g, 1, none⟩ = some v) (hR : Kd.R KW 56 W' B (Ok hj g s x) v ws') (hk : ∀ k, k < W.heap.size → k ≠ g → some k ≠ pv.ownBlock → W'.heap[k]? = W.heap[k]?) (h0 : W'.cell? ⟨g, 0, none⟩ = some (.slice (some ⟨s, 0, none⟩) 512 512)) (hf : W'.frozen? ⟨g, 1, none⟩ = false) (hz : W.heap.size ≤ W'.heap.size) : Ps W' B hj g s x e lv v ws' := by
  have nj := hk hj h.nl.1 h.ne.1 (fun he => (h.own hj he.symm).1.2.2.1 rfl)
  have ns := hk s h.nl.2.2.1 (fun he => h.ne.2.2.2.1 he.symm) (fun he => (h.own s he.symm).1.2.1 rfl)
  have nx := hk x h.nl.2.2.2 (fun he => h.ne.2.2.2.2.1 he.symm) (fun he => (h.own x he.symm).1.2.2.2 rfl)
  exact
  { jd := (World.cell?_of_block (a := ⟨hj, 0, none⟩) nj).trans h.jd
    jl := (World.cell?_of_block (a := ⟨hj, 1, none⟩) nj).trans h.jl
    je := (World.cell?_of_block (a := ⟨hj, 2, none⟩) nj).trans h.je
    jg := (World.cell?_of_block (a := ⟨hj, 3, none⟩) nj).trans h.jg
    fe := (World.frozen?_of_block (a := ⟨hj, 2, none⟩) nj).trans h.fe
    fl := (World.frozen?_of_block (a := ⟨hj, 1, none⟩) nj).trans h.fl
    d0 := h0
    d1 := h1
    df := hf
    sf := ⟨h.sf.1, by obtain ⟨c, h2, h3⟩ := h.sf.2; exact ⟨c, ns.trans h2, h3⟩⟩
    C := C_block h.C nx
    R := hR
    nl := by have := h.nl; omega
    ne := h.ne
    le := h.le }
theorem Ps.ended {W : World} {B hj g s x e : Nat} {lv pv : Value} {ws : List (Int × List Int)} (h : Ps W B hj g s x e lv pv ws) : Ps (W.setCell ⟨hj, 2, none⟩ (.int .i64 ((e + 1 : Nat) : Int))) B hj g s x (e + 1) lv pv ws where
  jd := (World.cell?_setCell_other _ _ _ _ (by intro h; cases h)).trans h.jd
  jl := (World.cell?_setCell_other _ _ _ _ (by intro h; cases h)).trans h.jl
  je := World.cell?_setCell_same' _ _ _ (by rw [h.je]; rfl)
  jg := (World.cell?_setCell_other _ _ _ _ (by intro h; cases h)).trans h.jg
  fe := by rw [World.frozen?_setCell]; exact h.fe
  fl := by rw [World.frozen?_setCell]; exact h.fl
  d0 := (World.cell?_setCell_other _ _ _ _ (by intro he; injection he with he; exact h.ne.1 he)).trans h.d0
  d1 := (World.cell?_setCell_other _ _ _ _ (by intro he; injection he with he; exact h.ne.1 he)).trans h.d1
  df := by rw [World.frozen?_setCell]; exact h.df
  sf := ⟨h.sf.1, by obtain ⟨c, h2, h3⟩ := h.sf.2; exact ⟨c, (Below.heap_setCell _ _ _ _ (fun he => h.ne.2.1 he.symm)).trans h2, h3⟩⟩
  C := C_block h.C (Below.heap_setCell _ _ _ _ (fun he => h.ne.2.2.1 he.symm))
  R := Kd.R_far h.R (fun k hk => hk.2.2.1) _
  nl := by rw [World.size_setCell]; exact h.nl
  ne := h.ne
  le := h.le
theorem Ps.stored {W : World} {B hj g s x e : Nat} {lv pv : Value} {ws : List (Int × List Int)} (h : Ps W B hj g s x e lv pv ws) (u : Value) : Ps (W.setCell ⟨hj, 1, none⟩ u) B hj g s x e u pv ws where
  jd := (World.cell?_setCell_other _ _ _ _ (by intro h; cases h)).trans h.jd
  jl := World.cell?_setCell_same' _ _ _ (by rw [h.jl]; rfl)
  je := (World.cell?_setCell_other _ _ _ _ (by intro h; cases h)).trans h.je
  jg := (World.cell?_setCell_other _ _ _ _ (by intro h; cases h)).trans h.jg
  fe := by rw [World.frozen?_setCell]; exact h.fe
  fl := by rw [World.frozen?_setCell]; exact h.fl
  d0 := (World.cell?_setCell_other _ _ _ _ (by intro he; injection he with he; exact h.ne.1 he)).trans h.d0
  d1 := (World.cell?_setCell_other _ _ _ _ (by intro he; injection he with he; exact h.ne.1 he)).trans h.d1
  df := by rw [World.frozen?_setCell]; exact h.df
  sf := ⟨h.sf.1, by obtain ⟨c, h2, h3⟩ := h.sf.2; exact ⟨c, (Below.heap_setCell _ _ _ _ (fun he => h.ne.2.1 he.symm)).trans h2, h3⟩⟩
  C := C_block h.C (Below.heap_setCell _ _ _ _ (fun he => h.ne.2.2.1 he.symm))
  R := Kd.R_far h.R (fun k hk => hk.2.2.1) _
  nl := by rw [World.size_setCell]; exact h.nl
  ne := h.ne
  le := h.le
theorem zeros_mid {w : World} {x : Nat} (h : Kd.C (Kd.int .u8) w (some ⟨x, 0, none⟩) 60 (List.replicate 60 0)) (o n : Nat) (hn : o + n ≤ 60) : Kd.C (Kd.int .u8) w (some ⟨x, o, none⟩) n (List.replicate n 0) := by
  refine ⟨List.length_replicate, by omega, fun _ => ⟨_, rfl, fun j q hj => ?_⟩⟩
  obtain ⟨ad, e, hc⟩ := h.2.2 (by decide)
  cases e
  have hjn : j < n := by simpa using (List.getElem?_eq_some_iff.1 hj).1
  have hq : q = 0 := by
    rw [List.getElem?_replicate, if_pos hjn] at hj
    exact (Option.some.inj hj).symm
  obtain ⟨c, hl, hR, hcell⟩ := hc (o + j) 0 (by rw [List.getElem?_replicate, if_pos (by omega)])
  refine ⟨c, hl, by rw [hq]; exact hR, fun i u hu => ?_⟩
  have h2 := hcell i u hu
  rw [addr_add] at h2 ⊢
  rwa [show 0 + ((o + j) * (Kd.int .u8).sz + i) = o + (j * (Kd.int .u8).sz + i) by show 0 + ((o + j) * 1 + i) = o + (j * 1 + i); omega] at h2
theorem row1 {w : World} {p : Nat} {x : Value} (h : w.heap[p]? = some (.cells #[x] 22 (0, 0))) (r : List Int) : ReadsRow (fun (q : List Int) cs => q = r ∧ cs = [x]) 1 w (some ⟨p, 0, none⟩) 1 [r] := by
  refine ⟨rfl, by decide, fun _ => ⟨_, rfl, fun j q hj => ?_⟩⟩
  cases j with
  | zero =>
    cases hj
    refine ⟨[x], rfl, ⟨rfl, rfl⟩, fun i u hu => ?_⟩
    rw [addr_add]
    refine cell_of_block h ?_
    rw [show 0 + (0 * 1 + i) = i by omega, ← Array.getElem?_toList]
    exact hu
  | succ j => simp at hj
theorem Ps.fl2 {W : World} {B hj g s x e : Nat} {lv pv : Value} (h : Ps W B hj g s x e lv pv [(0, X0), (1, X1)]) : ∃ pb cp q0 c0 q1 c1, Fl W g s pb cp q0 c0 q1 c1 0 1 Z X0 X1 := by
  obtain ⟨pb, cp, q0, c0, q1, c1, rfl, ⟨o1, o2, o3⟩, ⟨l1, l2, l3⟩, e0, e1, e2, e3, C0, C1⟩ := pend_two h.R X0_length X1_length
  refine ⟨pb, cp, q0, c0, q1, c1, h.d1, h.nl.2.1, h.nl.2.2.1, fun W2 r hb r0 r1 hr hr2 => ?_⟩
  have := hb.size
  exact
  { d0 := pw_cell_below hb h.d0
    d1 := pw_cell_below hb h.d1
    df := (hb.frozen (p := ⟨g, 1, none⟩) h.nl.2.1).trans h.df
    sf := h.sf.kept hb
    p0 := pw_cell_below hb e0
    p1 := pw_cell_below hb e1
    p2 := pw_cell_below hb e2
    p3 := pw_cell_below hb e3
    r0 := r0
    r1 := r1
    C0 := Kd.C_below C0 hb
    C1 := Kd.C_below C1 hb
    ha0 := by decide
    ha1 := by decide
    ns := ⟨h.ne.2.2.2.1, o1.2.1, by have := h.nl; omega, o2.2.1, o3.2.1⟩
    nl := by have := h.nl; omega }
end Go.Proofs.YtmajfcdfafhkfaaDoor.H
namespace Go.Proofs.YtmajfcdfafhkfaaDoor.H
open Go.RowKit Go.Proofs.YtmajfcdfafhkfaaDoorW.PrintWords Go.Proofs.YtmajfcdfafhkfaaDoorW.PrintLast Go.Proofs.YtmajfcdfafhkfaaDoor.Leaf Go.Proofs.YtmajfcdfafhkfaaDoor.P
set_option linter.unusedVariables false
set_option linter.unusedSimpArgs false
set_option maxHeartbeats 16000000
set_option maxRecDepth 100000
theorem top_lt (W : World) (o : Obj) : W.heap.size < (W.alloc o).drew.heap.size := by
  show W.heap.size < (W.alloc o).heap.size
  rw [World.size_alloc]
  omega
theorem journal_Put (W : World) (B hj g s x : Nat) (hP : Ps W B hj g s x 0 (.slice none 0 0) (.slice none 0 0) []) :
    Calls Tryd.prog 7 #[.pointer (some ⟨hj, 0, none⟩), .slice (some ⟨x, 0, none⟩) 60 60] W fun e w' => e = .returned (.int .i64 0) ∧ w'.cell? ⟨hj, 0, none⟩ = some (.pointer (some ⟨g, 0, none⟩)) ∧ (∃ pb cp q0 c0 q1 c1, Fl w' g s pb cp q0 c0 q1 c1 0 1 Z X0 X1) ∧ Below B W w' := by
  have hs := journal_is W hj _ hP.jd
  have HR := Aside0.mk (journal_Room W hj g _ _ hP.jd hP.je hP.d0)
  have HP0 := Aside0.mk hP
  go_enter Tryd.func7, Tryd.ntmps7
  go_wp2_with (first | (go_at_call 16; refine hs.mono ?_; rintro e w' ⟨rfl, hw_⟩; obtain rfl := hw_.symm) | (go_at_call 9; refine HR.out.mono ?_; rintro e w' ⟨rfl, ⟨nd, rfl⟩⟩))
  have HP : Aside0 (Ps (W.drewN nd) B hj g s x 0 (.slice none 0 0) (.slice none 0 0) []) := ⟨hP.kept (pw_below_drewN (Below.refl _ _) _)⟩
  have HB : Aside0 (Below B W (W.drewN nd)) := ⟨pw_below_drewN (Below.refl _ _) _⟩
  clear hP hs HR HP0
  generalize W.drewN nd = W1 at *
  go_loopg [5, 6] 2 (fun gg s5 s6 wr => (s6 = .int .i64 0 ∧ s5 = .slice (some ⟨x, 0, none⟩) 60 60 ∧ 1 ≤ gg ∧ Aside0 (Ps wr B hj g s x 0 (.slice none 0 0) (.slice none 0 0) []) ∧ Aside0 (Below B W wr)) ∨ (s6 = .int .i64 1 ∧ s5 = .slice (some ⟨x, 51, none⟩) 9 9 ∧ (∃ v, Aside0 (Ps wr B hj g s x 1 (.slice none 0 0) v [(0, X0)])) ∧ Aside0 (Below B W wr)))
  case atStart => exact Or.inl ⟨rfl, rfl, by omega, HP, HB⟩
  case round =>
    clear HP HB
    rcases hrel with ⟨rfl, rfl, hg, HP, HB⟩ | ⟨rfl, rfl, ⟨pv, HP⟩, HB⟩
    · have j1 := HP.out.jl
      have j3 := HP.out.jg
      go_upto_region 10 with (fail)
      go_cut [5, 6, 7] (fun v5 v6 v7 wc => ∃ p, v7 = .pointer (some ⟨p, 0, none⟩) ∧ v6 = .int .i64 0 ∧ v5 = .slice (some ⟨x, 0, none⟩) 60 60 ∧ Aside0 (Ps wc B hj g s x 0 (.slice none 0 0) (.slice none 0 0) []) ∧ Aside0 (Below B W wc) ∧ Aside0 (Ok hj g s x p ∧ p < wc.heap.size ∧ some p ≠ ((.slice none 0 0) : Value).ownBlock) ∧ wc.heap[p]? = some (.cells #[.int .i64 1, .int .i64 1, .int .i64 0, .bool false, .slice (some ⟨x, 0, none⟩) 51 60] 47 (0, 0)))
      case first =>
        go_region_held3 (fun w2 => w2.cell? ⟨hj, 3, none⟩ = some (.int .i64 1) ∧ w2.cell? ⟨hj, 1, none⟩ = some (.slice none 0 0)) (first | assumption | exact ⟨j3, j1⟩ | exact ⟨pw_cell_below (below_alloc (Below.refl _ _) _) j3, pw_cell_below (below_alloc (Below.refl _ _) _) j1⟩) (first | fail)
        all_goals
          go_wp2_with fail
          go_meet
          case rel =>
            have hk : Below wr.heap.size wr (wr.alloc (.cells #[.int .i64 1, .int .i64 1, .int .i64 0, .bool false, .slice (some ⟨x, 0, none⟩) 51 60] 47)).drew := Below.drew (below_alloc (Below.refl _ _) _)
            exact ⟨wr.heap.size, rfl, rfl, rfl, ⟨HP.out.kept hk⟩, ⟨HB.out.trans (hk.mono (by have := HP.out.nl; have := HP.out.le; omega))⟩, ⟨by have := HP.out.nl; unfold Ok; omega, top_lt _ _, fun he => absurd (HP.out.own _ he.symm).2 (Nat.lt_irrefl _)⟩, heap_top _ _⟩
      case rest =>
        clear j1 j3 HP HB
        obtain ⟨p, rfl, rfl, rfl, HP, HB, HK, hp⟩ := hcut
        have j0 := HP.out.jd
        have j2 := HP.out.je
        have t0 := cell_of_block (k := 0) hp rfl
        have t1 := cell_of_block (k := 1) hp rfl
        have t2 := cell_of_block (k := 2) hp rfl
        have t3 := cell_of_block (k := 3) hp rfl
        have t4 := cell_of_block (k := 4) hp rfl
        have HPB := Aside0.mk hp
        have HSC : Aside0 (∀ w', Below wc.heap.size wc w' → Calls Tryd.prog 20 #[.agg #[.int .i64 1, .int .i64 1, .int .i64 0, .bool false, .slice (some ⟨x, 0, none⟩) 51 60]] w' fun e w'' => ∃ v0_ : Value, e = .returned (v0_) ∧ Kd.R (Kd.int .u8) 5 w'' w'.heap.size (fun _ => True) v0_ X0 ∧ Below w'.heap.size w' w'') := ⟨fun w' hb => journal_part_sector.calls 1 1 0 false (some ⟨x, 0, none⟩) 60 (List.replicate 51 0) X0 w' (zeros_mid (HP.out.kept hb).C 0 51 (by decide)) (by decide) sector_0⟩
        have HWR : Aside0 (∀ (w' : World) A c, Ps w' B hj g s x 0 (.slice none 0 0) (.slice none 0 0) [] → Kd.C (Kd.int .u8) w' A X0.length X0 → X0.length ≤ c → Calls Tryd.prog 19 #[.pointer (some ⟨g, 0, none⟩), .int .i64 0, .slice A X0.length c] w' fun e w'' => ∃ v, e = .returned (.int .i64 0) ∧ Ps w'' B hj g s x 0 (.slice none 0 0) v [(0, X0)] ∧ Below B w' w'' ∧ (∀ k, k < w'.heap.size → k ≠ g → some k ≠ ((.slice none 0 0) : Value).ownBlock → w''.heap[k]? = w'.heap[k]?)) := ⟨fun w' A c hP hC hc => (disk_Write w' B g (some ⟨s, 0, none⟩) 512 0 (by decide) (.slice none 0 0) [] (Ok hj g s x) A c X0 X0_length (by decide) hP.d0 hP.d1 hP.df hP.nl.2.1 hP.le.2.1 hP.R (fun he => (hP.own g he.symm).1.1 rfl) (fun k hk => (hP.own k hk).2) (fun k hk => by have := hP.nl; unfold Ok; omega) (fun k hk => hk.1) hC hc).mono (by
          rintro e w'' ⟨v, he, h1, hR, hb, hk, h0, hf, hz⟩
          exact ⟨v, he, hP.wrote h1 hR hk h0 hf hz, hb, hk⟩)⟩
        go_upto_region 11 with (fail)
        go_cut [5, 6, 7] (fun v5 v6 v7 wd => v7 = .pointer (some ⟨p, 0, none⟩) ∧ v6 = .int .i64 0 ∧ v5 = .slice (some ⟨x, 0, none⟩) 60 60 ∧ Aside0 (Below B W wd) ∧ Aside0 (wd.heap[p]? = some (.cells #[.int .i64 1, .int .i64 1, .int .i64 0, .bool false, .slice (some ⟨x, 0, none⟩) 51 60] 47 (0, 0))) ∧ ∃ u, Aside0 (Ps wd B hj g s x 0 (.slice none 0 0) u [(0, X0)]))
        case first =>
          go_region_with (first | (go_at_call 20; refine (HSC.out _ (by first | exact Below.refl _ _ | exact below_drew (Below.refl _ _))).mono ?_; rintro e w1 ⟨v51, rfl, hR, hb⟩; obtain ⟨A51, c51, hv51, hle51, hC51⟩ := Kd.R_reads hR; subst hv51; have HC51 := Aside0.mk hC51; have HL51 := Aside0.mk hle51; have HB1 : Aside0 (Below wc.heap.size wc w1) := ⟨by first | exact hb | exact below_step (below_drew (Below.refl _ _)) hb⟩; have k0 := pw_cell_below hb j0; have k2 := pw_cell_below hb j2; clear hb hR hC51 hle51) | (go_at_call 19; refine (HWR.out _ _ _ (HP.out.kept HB1.out) HC51.out HL51.out).mono ?_; rintro e w2 ⟨v52, rfl, hp2, hb2, hk2⟩; have HP2 := Aside0.mk hp2; have HB2 : Aside0 (Below B W w2) := ⟨(HB.out.trans (HB1.out.mono (by have := HP.out.nl; have := HP.out.le; omega))).trans hb2⟩; have HK2 : Aside0 (w2.heap[p]? = wc.heap[p]?) := ⟨(hk2 p (Nat.lt_of_lt_of_le HK.out.2.1 HB1.out.size) HK.out.1.1 HK.out.2.2).trans (HB1.out.block p HK.out.2.1)⟩; clear hp2 hb2 hk2))
          all_goals
            go_wp2_with fail
            go_meet
            case rel => exact ⟨rfl, rfl, rfl, HB2, ⟨HK2.out.trans HPB.out⟩, _, HP2⟩
        case rest =>
          have HKO := Aside0.mk HK.out.1
          clear j0 j2 t0 t1 t2 t3 t4 hp HP HB HSC HWR HPB HK
          obtain ⟨rfl, rfl, rfl, HB2, HK2, u, HP2⟩ := hcut
          have i2 := HP2.out.je
          have if2 := HP2.out.fe
          have it : ∀ u, (wc.setCell ⟨hj, 2, none⟩ u).cell? ⟨p, 3, none⟩ = some (.bool false) := fun u => (World.cell?_setCell_other _ _ _ _ (by intro he; injection he with he; exact HKO.out.2.2.1 he.symm)).trans (cell_of_block HK2.out rfl)
          have HP3 := Aside0.mk HP2.out.ended
          have HB3 : Aside0 (Below B W (wc.setCell ⟨hj, 2, none⟩ (.int .i64 ((0 + 1 : Nat) : Int)))) := ⟨HB2.out.setCell HP2.out.le.1 _⟩
          go_wp2_with fail
          go_roundg 0
          case measure => omega
          case rel => exact Or.inr ⟨by go_num, rfl, ⟨u, HP3⟩, HB3⟩
    · have j1 := HP.out.jl
      have j3 := HP.out.jg
      go_upto_region 10 with (fail)
      go_cut [5, 6, 7] (fun v5 v6 v7 wc => ∃ p, v7 = .pointer (some ⟨p, 0, none⟩) ∧ v6 = .int .i64 1 ∧ v5 = .slice (some ⟨x, 51, none⟩) 9 9 ∧ Aside0 (Ps wc B hj g s x 1 (.slice none 0 0) pv [(0, X0)]) ∧ Aside0 (Below B W wc) ∧ Aside0 (Ok hj g s x p ∧ p < wc.heap.size ∧ some p ≠ (pv : Value).ownBlock) ∧ wc.heap[p]? = some (.cells #[.int .i64 1, .int .i64 1, .int .i64 1, .bool true, .slice (some ⟨x, 51, none⟩) 9 9] 47 (0, 0)))
      case first =>
        go_region_held3 (fun w2 => w2.cell? ⟨hj, 3, none⟩ = some (.int .i64 1) ∧ w2.cell? ⟨hj, 1, none⟩ = some (.slice none 0 0)) (first | assumption | exact ⟨j3, j1⟩ | exact ⟨pw_cell_below (below_alloc (Below.refl _ _) _) j3, pw_cell_below (below_alloc (Below.refl _ _) _) j1⟩) (first | fail)
        all_goals
          go_wp2_with fail
          go_meet
          case rel =>
            have hk : Below wr.heap.size wr (wr.alloc (.cells #[.int .i64 1, .int .i64 1, .int .i64 1, .bool true, .slice (some ⟨x, 51, none⟩) 9 9] 47)).drew := Below.drew (below_alloc (Below.refl _ _) _)
            exact ⟨wr.heap.size, rfl, rfl, rfl, ⟨HP.out.kept hk⟩, ⟨HB.out.trans (hk.mono (by have := HP.out.nl; have := HP.out.le; omega))⟩, ⟨by have := HP.out.nl; unfold Ok; omega, top_lt _ _, fun he => absurd (HP.out.own _ he.symm).2 (Nat.lt_irrefl _)⟩, heap_top _ _⟩
      case rest =>
        clear j1 j3 HP HB
        obtain ⟨p, rfl, rfl, rfl, HP, HB, HK, hp⟩ := hcut
        have j0 := HP.out.jd
        have j2 := HP.out.je
        have t0 := cell_of_block (k := 0) hp rfl
        have t1 := cell_of_block (k := 1) hp rfl
        have t2 := cell_of_block (k := 2) hp rfl
        have t3 := cell_of_block (k := 3) hp rfl
        have t4 := cell_of_block (k := 4) hp rfl
        have HPB := Aside0.mk hp
        have HSC : Aside0 (∀ w', Below wc.heap.size wc w' → Calls Tryd.prog 20 #[.agg #[.int .i64 1, .int .i64 1, .int .i64 1, .bool true, .slice (some ⟨x, 51, none⟩) 9 9]] w' fun e w'' => ∃ v0_ : Value, e = .returned (v0_) ∧ Kd.R (Kd.int .u8) 5 w'' w'.heap.size (fun _ => True) v0_ X1 ∧ Below w'.heap.size w' w'') := ⟨fun w' hb => journal_part_sector.calls 1 1 1 true (some ⟨x, 51, none⟩) 9 (List.replicate 9 0) X1 w' (zeros_mid (HP.out.kept hb).C 51 9 (by decide)) (by decide) sector_1⟩
        have HWR : Aside0 (∀ (w' : World) A c, Ps w' B hj g s x 1 (.slice none 0 0) pv [(0, X0)] → Kd.C (Kd.int .u8) w' A X1.length X1 → X1.length ≤ c → Calls Tryd.prog 19 #[.pointer (some ⟨g, 0, none⟩), .int .i64 1, .slice A X1.length c] w' fun e w'' => ∃ v, e = .returned (.int .i64 0) ∧ Ps w'' B hj g s x 1 (.slice none 0 0) v [(0, X0), (1, X1)] ∧ Below B w' w'' ∧ (∀ k, k < w'.heap.size → k ≠ g → some k ≠ (pv : Value).ownBlock → w''.heap[k]? = w'.heap[k]?)) := ⟨fun w' A c hP hC hc => (disk_Write w' B g (some ⟨s, 0, none⟩) 512 1 (by decide) pv [(0, X0)] (Ok hj g s x) A c X1 X1_length (by decide) hP.d0 hP.d1 hP.df hP.nl.2.1 hP.le.2.1 hP.R (fun he => (hP.own g he.symm).1.1 rfl) (fun k hk => (hP.own k hk).2) (fun k hk => by have := hP.nl; unfold Ok; omega) (fun k hk => hk.1) hC hc).mono (by
          rintro e w'' ⟨v, he, h1, hR, hb, hk, h0, hf, hz⟩
          exact ⟨v, he, hP.wrote h1 hR hk h0 hf hz, hb, hk⟩)⟩
        go_upto_region 11 with (fail)
        go_cut [5, 6, 7] (fun v5 v6 v7 wd => v7 = .pointer (some ⟨p, 0, none⟩) ∧ v6 = .int .i64 1 ∧ v5 = .slice (some ⟨x, 51, none⟩) 9 9 ∧ Aside0 (Below B W wd) ∧ Aside0 (wd.heap[p]? = some (.cells #[.int .i64 1, .int .i64 1, .int .i64 1, .bool true, .slice (some ⟨x, 51, none⟩) 9 9] 47 (0, 0))) ∧ ∃ u, Aside0 (Ps wd B hj g s x 1 (.slice none 0 0) u [(0, X0), (1, X1)]))
        case first =>
          go_region_with (first | (go_at_call 20; refine (HSC.out _ (by first | exact Below.refl _ _ | exact below_drew (Below.refl _ _))).mono ?_; rintro e w1 ⟨v51, rfl, hR, hb⟩; obtain ⟨A51, c51, hv51, hle51, hC51⟩ := Kd.R_reads hR; subst hv51; have HC51 := Aside0.mk hC51; have HL51 := Aside0.mk hle51; have HB1 : Aside0 (Below wc.heap.size wc w1) := ⟨by first | exact hb | exact below_step (below_drew (Below.refl _ _)) hb⟩; have k0 := pw_cell_below hb j0; have k2 := pw_cell_below hb j2; clear hb hR hC51 hle51) | (go_at_call 19; refine (HWR.out _ _ _ (HP.out.kept HB1.out) HC51.out HL51.out).mono ?_; rintro e w2 ⟨v52, rfl, hp2, hb2, hk2⟩; have HP2 := Aside0.mk hp2; have HB2 : Aside0 (Below B W w2) := ⟨(HB.out.trans (HB1.out.mono (by have := HP.out.nl; have := HP.out.le; omega))).trans hb2⟩; have HK2 : Aside0 (w2.heap[p]? = wc.heap[p]?) := ⟨(hk2 p (Nat.lt_of_lt_of_le HK.out.2.1 HB1.out.size) HK.out.1.1 HK.out.2.2).trans (HB1.out.block p HK.out.2.1)⟩; clear hp2 hb2 hk2))
          all_goals
            go_wp2_with fail
            go_meet
            case rel => exact ⟨rfl, rfl, rfl, HB2, ⟨HK2.out.trans HPB.out⟩, _, HP2⟩
        case rest =>
          have HKO := Aside0.mk HK.out.1
          clear j0 j2 t0 t1 t2 t3 t4 hp HP HB HSC HWR HPB HK
          obtain ⟨rfl, rfl, rfl, HB2, HK2, u, HP2⟩ := hcut
          have i2 := HP2.out.je
          have if2 := HP2.out.fe
          have it : ∀ u, (wc.setCell ⟨hj, 2, none⟩ u).cell? ⟨p, 3, none⟩ = some (.bool true) := fun u => (World.cell?_setCell_other _ _ _ _ (by intro he; injection he with he; exact HKO.out.2.2.1 he.symm)).trans (cell_of_block HK2.out rfl)
          have HP3 : Aside0 (Ps (wc.setCell ⟨hj, 2, none⟩ (.int .i64 2)) B hj g s x 2 (.slice none 0 0) u [(0, X0), (1, X1)]) := ⟨HP2.out.ended⟩
          have HB3 : Aside0 (Below B W (wc.setCell ⟨hj, 2, none⟩ (.int .i64 2))) := ⟨HB2.out.setCell HP2.out.le.1 _⟩
          go_upto_region 15 with (fail)
          clear i2 if2 it HP2 HK2 HB2
          generalize wc.setCell ⟨hj, 2, none⟩ (.int .i64 2) = wq at *
          have j1 := HP3.out.jl
          have HCL : Aside0 (∀ W', Below wq.heap.size wq W' → Calls Tryd.prog 18 #[.slice (some ⟨x, 0, none⟩) 60 60] W' fun e w' => ∃ v0_ : Value, e = .returned (v0_) ∧ Kd.R (Kd.int .u8) 5 w' W'.heap.size (fun _ => True) v0_ (List.replicate 60 0) ∧ Below W'.heap.size W' w') := ⟨fun W' hW => slices_Clone_byte_byte.calls (some ⟨x, 0, none⟩) 60 (List.replicate 60 0) (List.replicate 60 0) W' (Kd.C_below HP3.out.C hW) (by decide) (by unfold slices_Clone_byte_byte.f; rw [if_pos (by decide)])⟩
          have HN : Aside0 (Kd.R KR 22 wq wq.heap.size (fun k => wq.heap.size ≤ k) (.slice none 0 0) []) := ⟨Kd.R_nil _ _ _ _ _⟩
          go_region_law (first | (go_simp; go_at_call 18; refine (HCL.out _ (by first | exact Below.refl _ _ | exact below_drew (Below.refl _ _))).mono ?_; rintro e w1 ⟨v, rfl, hR, hb⟩; obtain ⟨Ac, cc, hv⟩ := Kd.R_slice hR; rw [List.length_replicate] at hv; subst hv; have HR1 : Aside0 (Kd.R (Kd.int .u8) 5 w1 wq.heap.size (fun k => wq.heap.size ≤ k) (.slice Ac 60 cc) (List.replicate 60 0)) := ⟨Kd.R_mono (Kd.R_bound hR) (fun k h => h.2.1)⟩; have k1 := pw_cell_below hb j1; have k2 : ∀ o, (w1.alloc o).cell? ⟨hj, 1, none⟩ = some (.slice none 0 0) := fun o => pw_cell_below (below_alloc (Below.refl _ _) o) k1; have HB1 : Aside0 (Below wq.heap.size wq w1) := ⟨by first | exact hb | exact below_step (below_drew (Below.refl _ _)) hb⟩; clear hR hb) | (refine Kd.R_append_rows_step KR (Rr := fun (q : List Int) cs => q = List.replicate 60 0 ∧ cs = [.slice Ac 60 cc]) (w0 := wq) wq.heap.size rfl (.tmp 68) (.tmp 71) 31 22 (.slice none 0 0) 24 rfl Tryd.underlying31 info22 rfl (by decide) (by decide) (.slice none 0 0) [] [List.replicate 60 0] _ 1 1 (fun k => wq.heap.size ≤ k) (fun k => wq.heap.size ≤ k) rfl rfl ?aO ?aR ?aK ?aP ?aF ?aB ?aS ?aL ?_; (case aO => exact Kd.R_nil _ _ _ _ _); (case aR => exact row1 (heap_top _ _) _); (case aK => exact fun x cs h => by obtain ⟨rfl, rfl⟩ := h; exact ⟨_, rfl, Kd.R_alloc HR1.out _⟩); (case aP => exact fun k hk => ⟨hk, by intro h; cases h⟩); (case aF => exact fun k hk => Nat.le_trans (below_alloc HB1.out _).size hk); (case aB => exact below_alloc HB1.out _); (case aS => exact (below_alloc HB1.out _).size); (case aL => decide); intro v1 w2 ho hb2 hgr hat; obtain ⟨Av, cv, hv1⟩ := Kd.R_slice ho; have hv2 : v1 = .slice Av 1 cv := hv1; subst hv2; clear hv1; have q1 := pw_cell_below hb2 j1; have HP4 := Aside0.mk (HP3.out.kept hb2); have HB4 : Aside0 (Below B W w2) := ⟨HB3.out.trans (hb2.mono (by have := HP3.out.nl; have := HP3.out.le; omega))⟩; have qf := HP4.out.fl; clear ho hb2 hgr hat))
          all_goals
            go_wp2_with fail
            go_ret
            exact ⟨rfl, (HP4.out.stored _).jd, (HP4.out.stored _).fl2, HB4.out.setCell HP3.out.le.1 _⟩
end Go.Proofs.YtmajfcdfafhkfaaDoor.H
namespace Go.Proofs.YtmajfcdfafhkfaaDoor.H
open Go.RowKit Go.Proofs.YtmajfcdfafhkfaaDoorW.PrintWords Go.Proofs.YtmajfcdfafhkfaaDoorW.PrintLast Go.Proofs.YtmajfcdfafhkfaaDoor.Leaf Go.Proofs.YtmajfcdfafhkfaaDoor.P
set_option linter.unusedVariables false
set_option linter.unusedSimpArgs false
set_option maxHeartbeats 4000000
set_option maxRecDepth 100000
theorem frozen_top (W : World) (cells : Array Value) (t k : Nat) : (W.alloc (.cells cells t (0, 0))).frozen? ⟨W.heap.size, k, none⟩ = false := by
  unfold World.frozen?
  rw [show (⟨W.heap.size, k, none⟩ : Addr).block = W.heap.size from rfl, heap_top]
  simp
theorem disk_New_ (W : World) : Calls Tryd.prog 21 #[.int .i64 8] W fun e w' => ∃ g s, e = .returned (.tuple #[.pointer (some ⟨g, 0, none⟩), .int .i64 0]) ∧ W.heap.size ≤ s ∧ s < g ∧ g < w'.heap.size ∧ Below W.heap.size W w' ∧ Dk w' g s Z ∧ w'.frozen? ⟨g, 1, none⟩ = false := by
  have hmk := print_make (P := Tryd.prog) 22 5 .u8 1 Tryd.underlying22 P.info5 (by decide) 512 (by decide)
  have hmk' : ∀ W : World, (Instr.makeSlice 22 (.int .i64 512) (.int .i64 512)).run Tryd.prog W = .ok (.slice (some ⟨W.heap.size, 0, none⟩) 512 512) (W.alloc (.cells (madeCells #[.int .u8 0] 512) 5)) := hmk
  clear hmk
  have hl := made_nums 512
  generalize madeCells #[Value.int .u8 0] 512 = mc at hmk' hl
  go_enter Tryd.func21, Tryd.ntmps21
  go_wp2_with fail
  go_ret2
  have hz : (W.alloc (.cells mc 5 (0, 0))).heap.size = W.heap.size + 1 := World.size_alloc _ _
  have c0 := cell_top (W.alloc (.cells mc 5 (0, 0))) #[Value.slice (some ⟨W.heap.size, 0, none⟩) 512 512, .slice none 0 0] 30 0
  have c1 := cell_top (W.alloc (.cells mc 5 (0, 0))) #[Value.slice (some ⟨W.heap.size, 0, none⟩) 512 512, .slice none 0 0] 30 1
  have cf := frozen_top (W.alloc (.cells mc 5 (0, 0))) #[Value.slice (some ⟨W.heap.size, 0, none⟩) 512 512, .slice none 0 0] 30 1
  rw [hz] at c0 c1 cf
  exact ⟨W.heap.size + 1, W.heap.size, by first | rfl | (simp; done), by omega, by omega, (by rw [World.size_alloc, World.size_alloc]; omega), ((Below.refl _ _).alloc (Nat.le_refl _) _).alloc (by rw [World.size_alloc]; omega) _, ⟨c0, c1, List.length_replicate, mc, (by rw [Below.heap_alloc _ _ _ (by rw [World.size_alloc]; omega)]; exact heap_top _ _), hl⟩, cf⟩
theorem journal_Open_none_ (W : World) (g s : Nat) (S : List Int) (hD : Dk W g s S) (hN : ∀ i, i < 8 → sum_Strip.f (sec S i) = some ([], false)) :
    Calls Tryd.prog 4 #[.pointer (some ⟨g, 0, none⟩)] W fun e w' => ∃ h, e = .returned (.tuple #[.pointer (some ⟨h, 0, none⟩), .int .i64 0]) ∧ W.heap.size ≤ h ∧ h < w'.heap.size ∧ Below W.heap.size W w' ∧ Jn w' h g (.slice none 0 0) 0 1 ∧ (∀ k, w'.frozen? ⟨h, k, none⟩ = false) := by
  have HB1 : Aside0 (Below W.heap.size W (W.alloc (.cells #[.pointer (some ⟨g, 0, none⟩)] 27))) := ⟨below_alloc (Below.refl _ _) _⟩
  have hx := cell_top W #[.pointer (some ⟨g, 0, none⟩)] 27 0
  have hx' : (W.alloc (.cells #[.pointer (some ⟨g, 0, none⟩)] 27)).cell? ⟨W.heap.size, 0, none⟩ = some (.pointer (some ⟨g, 0, none⟩)) := hx
  have HD := Aside0.mk (hD.kept HB1.out)
  have HS := Aside0.mk (disk_Size _ g _ 512 _ 8 (by decide +kernel) HD.out.1)
  have HR := Aside0.mk (records_none _ W.heap.size (sec S) (gets_of hx' HD.out) hN)
  have hmf : ∀ (fn : Fn) (first cap : Array Value) (w : World), (Instr.makeFunc fn first cap).run Tryd.prog w = .ok (.func fn first cap) w := fun _ _ _ _ => rfl
  clear hx hD hN hx'
  go_enter Tryd.func4, Tryd.ntmps4
  go_wp2_with (first | (go_at_call 12; refine HS.out.mono ?_; rintro e w' ⟨rfl, hw_⟩; obtain rfl := hw_.symm) | (go_at_call 13; refine HR.out.mono ?_; rintro e w3 ⟨rfl, hb⟩; have HB3 := Aside0.mk hb; have hx3 := pw_cell_below hb (cell_top W #[.pointer (some ⟨g, 0, none⟩)] 27 0); have hx4 : w3.cell? ⟨W.heap.size, 0, none⟩ = some (.pointer (some ⟨g, 0, none⟩)) := hx3; clear hb hx3))
  go_ret2
  have hb : Below W.heap.size W w3 := below_step HB1.out HB3.out
  exact ⟨w3.heap.size, rfl, hb.size, by rw [World.size_alloc]; omega, below_alloc hb _, Jn.new _ _ _ _ _, fun k => frozen_top _ _ _ _⟩
theorem zeros_row {w : World} {x : Nat} {mc : Array Value} (h : w.heap[x]? = some (.cells mc 5 (0, 0))) (hl : mc.toList = nums .u8 (List.replicate 60 0)) : Kd.C (Kd.int .u8) w (some ⟨x, 0, none⟩) 60 (List.replicate 60 0) := by
  refine ⟨by decide, by decide, fun _ => ⟨_, rfl, fun j q hj => ?_⟩⟩
  refine ⟨[.int .u8 q], rfl, rfl, fun i u hu => ?_⟩
  rw [addr_add]
  have hi : i = 0 := by
    have := (List.getElem?_eq_some_iff.1 hu).1
    simpa using this
  subst hi
  cases hu
  refine cell_of_block h ?_
  rw [← Array.getElem?_toList, hl, show 0 + (j * (Kd.int .u8).sz + 0) = j by show 0 + (j * 1 + 0) = j; omega]
  unfold nums
  rw [List.getElem?_map, hj]
  rfl
theorem get_60 (W : World) (h g : Nat) (v : Value) (a b : Int) (H : Jn W h g v a b) (hO : One W v (q0 ++ q1)) : Calls Tryd.prog 6 #[.pointer (some ⟨h, 0, none⟩), .int .i64 0] W fun e w' => ∃ u c, e = .returned (.tuple #[.slice u 60 c, .bool true]) ∧ Below W.heap.size W w' := by
  have := journal_Get W h g v a b (q0 ++ q1) (by rw [q_length]; decide) H hO
  rw [q_length] at this
  exact this
theorem start_ {w1 w2 : World} {g s h : Nat} {mc : Array Value} (B : Nat) (hl : mc.toList = nums .u8 (List.replicate 60 0)) (g1 : B ≤ s) (g2 : s < g) (g3 : g < w1.heap.size) (h1 : w1.heap.size ≤ h) (h2 : h < w2.heap.size) (hD : Dk w1 g s Z) (hf : w1.frozen? ⟨g, 1, none⟩ = false) (hb : Below w1.heap.size w1 w2) (hJ : Jn w2 h g (.slice none 0 0) 0 1) (hfj : ∀ k, w2.frozen? ⟨h, k, none⟩ = false) :
    Ps (w2.alloc (.cells mc 5)) B h g s w2.heap.size 0 (.slice none 0 0) (.slice none 0 0) [] := by
  have ha : Below w2.heap.size w2 (w2.alloc (.cells mc 5)) := below_alloc (Below.refl _ _) _
  have hb' : Below w1.heap.size w1 (w2.alloc (.cells mc 5)) := below_step hb ha
  have hD' := hD.kept hb'
  have hJ' := hJ.kept ha
  exact
  { jd := hJ'.1
    jl := hJ'.2.1
    je := hJ'.2.2.1
    jg := hJ'.2.2.2
    fe := (ha.frozen (p := ⟨h, 2, none⟩) h2).trans (hfj 2)
    fl := (ha.frozen (p := ⟨h, 1, none⟩) h2).trans (hfj 1)
    d0 := hD'.1
    d1 := hD'.2.1
    df := (hb'.frozen (p := ⟨g, 1, none⟩) g3).trans hf
    sf := hD'.2.2
    C := zeros_row (heap_top _ _) hl
    R := Kd.R_nil _ _ _ _ _
    nl := by rw [World.size_alloc]; have := hb.size; omega
    ne := by have := hb.size; omega
    le := by have := hb.size; omega }
theorem awake_ (W : World) : Calls Tryd.prog 11 #[] W fun e w' => e = .returned (.bool true) ∧ Below W.heap.size W w' := by
  have hmk := print_make (P := Tryd.prog) 22 5 .u8 1 Tryd.underlying22 P.info5 (by decide) 60 (by decide)
  have hmk' : ∀ W : World, (Instr.makeSlice 22 (.int .i64 60) (.int .i64 60)).run Tryd.prog W = .ok (.slice (some ⟨W.heap.size, 0, none⟩) 60 60) (W.alloc (.cells (madeCells #[.int .u8 0] 60) 5)) := hmk
  clear hmk
  have HL := Aside0.mk (made_nums 60)
  generalize madeCells #[Value.int .u8 0] 60 = mc at hmk' HL
  have HNEW := Aside0.mk (disk_New_ W)
  go_enter Tryd.func11, Tryd.ntmps11
  go_wp2_with (first | (go_at_call 21; refine HNEW.out.mono ?_; rintro e w1 ⟨g, s, rfl, g1, g2, g3, hb1, hD1, hf1⟩; have HG := Aside0.mk (And.intro g1 (And.intro g2 g3)); have HB1 := Aside0.mk hb1; have HD1 := Aside0.mk hD1; have HF1 := Aside0.mk hf1; have HOP := Aside0.mk (journal_Open_none_ w1 g s Z hD1 strip_Z); clear g1 g2 g3 hb1 hD1 hf1) | (go_at_call 4; refine HOP.out.mono ?_; rintro e w2 ⟨h, rfl, h1, h2, hb2, hJ2, hf2⟩; have HH := Aside0.mk (And.intro h1 h2); have HB2 := Aside0.mk (below_step HB1.out hb2); have HPUT := Aside0.mk (journal_Put _ _ _ _ _ _ (start_ W.heap.size HL.out HG.out.1 HG.out.2.1 HG.out.2.2 h1 h2 HD1.out HF1.out hb2 hJ2 hf2)); clear h1 h2 hb2 hJ2 hf2 HOP) | (go_at_call 7; refine HPUT.out.mono ?_; rintro e w3 ⟨rfl, hd3, hFl3, hb3⟩; obtain ⟨pb, cp, y0, z0, y1, z1, hFl⟩ := hFl3; have HSY := Aside0.mk (journal_Sync w3 h g s pb cp y0 z0 y1 z1 0 1 Z X0 X1 hFl hd3); have HB3 := Aside0.mk ((below_alloc HB2.out (.cells mc 5)).trans hb3); clear hd3 hFl hb3) | (go_at_call 5; refine HSY.out.mono ?_; rintro e w4 ⟨rfl, hD4, hb4⟩; have HB4 : Aside0 (Below W.heap.size W w4) := ⟨HB3.out.trans (hb4 W.heap.size (by have := HG.out; omega) HG.out.1 HB3.out.size)⟩; have HOP2 := Aside0.mk (journal_Open_two w4 g s ZX q0 q1 hD4 says_0 says_1 (fun i h2 hi => strip_n i h2 hi)); clear hD4 hb4) | (go_at_call 4; refine HOP2.out.mono ?_; rintro e w5 ⟨k, v, rfl, hb5, hJ5, hO5⟩; have HGET := Aside0.mk (get_60 w5 k g v 2 2 hJ5 hO5); obtain ⟨lb, cl, A_, cA_, hv_, hO_⟩ := id hO5; subst hv_; have HJ5 := Aside0.mk hJ5; have HB5 := Aside0.mk (below_step HB4.out hb5); clear hO_ hO5 hJ5 hb5) | (go_at_call 6; refine HGET.out.mono ?_; rintro e w6 ⟨u, cu, rfl, hb6⟩; have HB6 := Aside0.mk (below_step HB5.out hb6); have HLEN := Aside0.mk (journal_Len w6 k g _ _ _ _ _ (HJ5.out.kept hb6)); have HGEN := Aside0.mk (journal_Gen w6 k g _ _ _ (HJ5.out.kept hb6)); clear hb6) | (go_at_call 10; refine HGEN.out.mono ?_; rintro e w' ⟨rfl, hw_⟩; obtain rfl := hw_.symm) | (go_at_call 8; refine HLEN.out.mono ?_; rintro e w' ⟨rfl, hw_⟩; obtain rfl := hw_.symm))
  go_ret
  exact ⟨by first | rfl | (simp; done), HB6.out⟩
end Go.Proofs.YtmajfcdfafhkfaaDoor.H
namespace Go.Proofs.YtmajfcdfafhkfaaDoor.H
open Go.RowKit Go.Proofs.YtmajfcdfafhkfaaDoorW.PrintWords Go.Proofs.YtmajfcdfafhkfaaDoorW.PrintLast Go.Proofs.YtmajfcdfafhkfaaDoor.Leaf Go.Proofs.YtmajfcdfafhkfaaDoor.P
set_option linter.unusedVariables false
set_option linter.unusedSimpArgs false
set_option maxHeartbeats 4000000
set_option maxRecDepth 100000
theorem JournalNobody_calls (W : World) (A : Option Addr) (n c : Nat) : Calls Tryd.prog 3 #[.slice A n c] W fun e w' => e = .returned (.bool true) ∧ Below W.heap.size W w' := by
  have HO1 := Aside0.mk (journal_Open_nil W)
  have HO2 : Aside0 (∀ w1 : World, Below W.heap.size W w1 → Calls Tryd.prog 4 #[.pointer (some ⟨w1.heap.size, 0, none⟩)] (w1.alloc (.cells #[.slice none 0 0, .slice none 0 0] 30)) fun e w' => e = .returned (.tuple #[.pointer none, .int .i64 1]) ∧ Below W.heap.size W w') := ⟨fun w1 hb => (journal_Open_zero _ w1.heap.size (cell_top w1 #[.slice none 0 0, .slice none 0 0] 30 0)).mono (by
    rintro e w' ⟨rfl, hb2⟩
    exact ⟨rfl, below_step (below_alloc hb _) hb2⟩)⟩
  go_enter Tryd.func3, Tryd.ntmps3
  go_wp2_with (first | (go_at_call 4; refine HO1.out.mono ?_; rintro e w1 ⟨rfl, hb1⟩; have HB1 := Aside0.mk hb1; clear hb1 HO1) | (go_at_call 4; refine (HO2.out _ HB1.out).mono ?_; rintro e w2 ⟨rfl, hb2⟩; have HB2 := Aside0.mk hb2; clear hb2))
  go_loopg [7] 3 (fun gg s7 wr => ∃ k : Nat, s7 = .int .i64 (k : Int) ∧ 2 - k ≤ gg ∧ k ≤ 2 ∧ Aside0 (Below W.heap.size W wr))
  case atStart => exact ⟨0, rfl, by omega, by omega, HB2⟩
  case round =>
    obtain ⟨k, rfl, hg, hk, HB⟩ := hrel
    clear HB1 HB2 HO2
    rcases (by omega : k = 0 ∨ k = 1 ∨ k = 2) with rfl | rfl | rfl
    · have HZ : Aside0 (∀ n, Nob (wr.drewN n) none) := ⟨fun n => Or.inl rfl⟩
      have H5 := Aside0.mk (journal_Sync_nob wr none (HZ.out 0))
      have H6 := Aside0.mk (journal_Get_nob wr none (HZ.out 0))
      have H7 := Aside0.mk (journal_Put_nob wr none (.slice A n c) (HZ.out 0))
      have H8 := Aside0.mk (journal_Len_nob wr none (HZ.out 0))
      have H9 := Aside0.mk (journal_Room_nob wr none (HZ.out 0))
      have H10 : Aside0 (∀ m, Calls Tryd.prog 10 #[.pointer none] (wr.drewN m) fun e w' => e = .returned (.int .i64 0) ∧ w' = wr.drewN m) := ⟨fun m => journal_Gen_nob _ _ (HZ.out m)⟩
      go_wp2_with (first | (go_at_call 5; refine H5.out.mono ?_; rintro e w' ⟨rfl, hw_⟩; obtain rfl := hw_.symm) | (go_at_call 6; refine H6.out.mono ?_; rintro e w' ⟨rfl, hw_⟩; obtain rfl := hw_.symm) | (go_at_call 7; refine H7.out.mono ?_; rintro e w' ⟨rfl, hw_⟩; obtain rfl := hw_.symm) | (go_at_call 8; refine H8.out.mono ?_; rintro e w' ⟨rfl, hw_⟩; obtain rfl := hw_.symm) | (go_at_call 9; refine H9.out.mono ?_; rintro e w' ⟨rfl, ⟨nd, rfl⟩⟩) | (go_at_call 10; refine (H10.out _).mono ?_; rintro e w' ⟨rfl, hw_⟩; obtain rfl := hw_.symm))
      go_roundg 1
      case measure => omega
      case rel => exact ⟨1, by go_num, by omega, by omega, ⟨pw_below_drewN HB.out nd⟩⟩
    · have HZ : Aside0 (∀ n, Nob ((wr.alloc (.cells #[.pointer none, .slice none 0 0, .int .i64 0, .int .i64 0] 33)).drewN n) (some ⟨wr.heap.size, 0, none⟩)) := ⟨fun n => Or.inr ⟨_, rfl, cell_top wr #[.pointer none, .slice none 0 0, .int .i64 0, .int .i64 0] 33 0⟩⟩
      have H5 := Aside0.mk (journal_Sync_nob (wr.alloc (.cells #[.pointer none, .slice none 0 0, .int .i64 0, .int .i64 0] 33)) (some ⟨wr.heap.size, 0, none⟩) (HZ.out 0))
      have H6 := Aside0.mk (journal_Get_nob (wr.alloc (.cells #[.pointer none, .slice none 0 0, .int .i64 0, .int .i64 0] 33)) (some ⟨wr.heap.size, 0, none⟩) (HZ.out 0))
      have H7 := Aside0.mk (journal_Put_nob (wr.alloc (.cells #[.pointer none, .slice none 0 0, .int .i64 0, .int .i64 0] 33)) (some ⟨wr.heap.size, 0, none⟩) (.slice A n c) (HZ.out 0))
      have H8 := Aside0.mk (journal_Len_nob (wr.alloc (.cells #[.pointer none, .slice none 0 0, .int .i64 0, .int .i64 0] 33)) (some ⟨wr.heap.size, 0, none⟩) (HZ.out 0))
      have H9 := Aside0.mk (journal_Room_nob (wr.alloc (.cells #[.pointer none, .slice none 0 0, .int .i64 0, .int .i64 0] 33)) (some ⟨wr.heap.size, 0, none⟩) (HZ.out 0))
      have H10 : Aside0 (∀ m, Calls Tryd.prog 10 #[.pointer (some ⟨wr.heap.size, 0, none⟩)] ((wr.alloc (.cells #[.pointer none, .slice none 0 0, .int .i64 0, .int .i64 0] 33)).drewN m) fun e w' => e = .returned (.int .i64 0) ∧ w' = (wr.alloc (.cells #[.pointer none, .slice none 0 0, .int .i64 0, .int .i64 0] 33)).drewN m) := ⟨fun m => journal_Gen_nob _ _ (HZ.out m)⟩
      go_wp2_with (first | (go_at_call 5; refine H5.out.mono ?_; rintro e w' ⟨rfl, hw_⟩; obtain rfl := hw_.symm) | (go_at_call 6; refine H6.out.mono ?_; rintro e w' ⟨rfl, hw_⟩; obtain rfl := hw_.symm) | (go_at_call 7; refine H7.out.mono ?_; rintro e w' ⟨rfl, hw_⟩; obtain rfl := hw_.symm) | (go_at_call 8; refine H8.out.mono ?_; rintro e w' ⟨rfl, hw_⟩; obtain rfl := hw_.symm) | (go_at_call 9; refine H9.out.mono ?_; rintro e w' ⟨rfl, ⟨nd, rfl⟩⟩) | (go_at_call 10; refine (H10.out _).mono ?_; rintro e w' ⟨rfl, hw_⟩; obtain rfl := hw_.symm))
      go_roundg 0
      case measure => omega
      case rel => exact ⟨2, by go_num, by omega, by omega, ⟨pw_below_drewN (below_alloc HB.out _) nd⟩⟩
    · have HA := Aside0.mk (awake_ wr)
      go_wp2_with (first | (go_at_call 11; refine HA.out.mono ?_; rintro e w3 ⟨rfl, hb⟩; have HB3 := Aside0.mk (below_step HB.out hb); clear hb))
      go_ret
      exact ⟨rfl, HB3.out⟩
end Go.Proofs.YtmajfcdfafhkfaaDoor.H
