/- Words and walks that the claim StripeTurns leans on (what it does not use is left out). -/
import Derived.Test.YtbogmlckbkogiaaMStripeTurns2
import Derived.Test.YtbogmlckbkogiaaMStripeTurns1
import Derived.Deep.RegionHeld3
import Derived.BigQuiet
import Derived.BigRegion
import Derived.Deep.CutRange
import Derived.StillTailTactics
import Derived.Deep.RegionWith
import Derived.Test.YtbogmlckbkogiaaMStripeTurns6
import Derived.Test.YtbogmlckbkogiaaMStripeTurns4
import Derived.Test.YtbogmlckbkogiaaMStripeTurns3
import Derived.Deep.RegionLaw
import Derived.Deep.AppendLies
import Derived.Test.YtbogmlckbkogiaaMStripeTurns5
import Derived.OpenShut
import Derived.Deep.Matrix
import Derived.SizedLaws
import Derived.ChangeSlices
import Derived.Deep.Grids
import Derived.Lib.SmallJoins
namespace Go.Proofs.Ytbogmlckbkogiaa.H
open Go.RowKit Go.Proofs.YtbogmlckbkogiaaW.PrintWords Go.Proofs.Ytbogmlckbkogiaa.Leaf Go.Proofs.Ytbogmlckbkogiaa.Gf Go.Proofs.Ytbogmlckbkogiaa.Red
set_option linter.unusedVariables false
/-- Two matrices of the call's own, apart. -/
def St (w : World) (base ga ca gb cb n m p : Nat) (A Z : Mat) : Prop :=
  ∃ ida capa idb capb, Mt w base ga ca ida capa (A.map ofL) ∧ Mt w base gb cb idb capb (Z.map ofL) ∧ (∀ i j, i < n → j < n → ida i ≠ idb j) ∧ ga ≠ gb ∧ Reg A n m ∧ Reg Z n p
section
variable {w w1 : World} {base ga ca gb cb n m p : Nat} {A Z : Mat}
theorem St.symm (h : St w base ga ca gb cb n m p A Z) : St w base gb cb ga ca n p m Z A := by
  obtain ⟨a, b, c, d, h1, h2, h3, h4, h5, h6⟩ := h
  exact ⟨c, d, a, b, h2, h1, fun i j hi hj e => h3 j i hj hi e.symm, h4.symm, h6, h5⟩
theorem St.below (h : St w base ga ca gb cb n m p A Z) (hb : Below w.heap.size w w1) : St w1 base ga ca gb cb n m p A Z := by
  obtain ⟨a, b, c, d, h1, h2, h3⟩ := h
  exact ⟨a, b, c, d, h1.below hb, h2.below hb, h3⟩
theorem St.reg (h : St w base ga ca gb cb n m p A Z) : Reg A n m ∧ Reg Z n p ∧ base ≤ ga ∧ base ≤ gb ∧ ga < w.heap.size ∧ gb < w.heap.size := by
  obtain ⟨a, b, c, d, h1, h2, h3, h4, h5, h6⟩ := h
  exact ⟨h5, h6, h1.gbase, h2.gbase, h1.glt, h2.glt⟩
theorem St.read (h : St w base ga ca gb cb n m p A Z) (i : Nat) (hi : i < n) :
    ∃ b c, w.cell? ⟨ga, i, none⟩ = some (.slice (some ⟨b, 0, none⟩) m c) ∧ w.frozen? ⟨ga, i, none⟩ = false ∧ Rw w base b c (ofL (row A i)) := by
  obtain ⟨a, b, c, d, h1, h2, h3, h4, h5, h6⟩ := h
  have hi' : i < (A.map ofL).length := by rw [List.length_map, h5.1]; exact hi
  have hat := h1.at_ i hi'
  have hr := h1.rows i hi'
  rw [map_getD] at hr
  refine ⟨a i, b i, ?_, hat.2, hr⟩
  rw [hat.1]
  unfold sl
  rw [map_getD, ofL_length, h5.2 i hi]
theorem St.putA (h : St w base ga ca gb cb n m p A Z) {i : Nat} (hi : i < n) {b c : Nat} (hb : w.cell? ⟨ga, i, none⟩ = some (.slice (some ⟨b, 0, none⟩) m c)) (j : Nat) (x : B) :
    St (w.setCell ⟨b, j, none⟩ (.int .u8 (ofB x))) base ga ca gb cb n m p (A.set i ((row A i).set j x)) Z ∧ base ≤ b ∧ b ≠ ga ∧ b ≠ gb ∧ b < w.heap.size := by
  obtain ⟨a, b', c', d, h1, h2, h3, h4, h5, h6⟩ := h
  have hi' : i < (A.map ofL).length := by rw [List.length_map, h5.1]; exact hi
  have e1 := (h1.at_ i hi').1
  rw [hb] at e1
  have e2 : b = a i := by
    have := Option.some.inj e1
    unfold sl at this
    injection this with t1 t2 t3
    injection t1 with t1
    injection t1 with t1
  subst e2
  have hp := h1.put i hi' j (ofB x)
  have hbg := h2.ne (h1.rows i hi')
  rw [map_getD, ofL_set, map_set] at hp
  refine ⟨⟨a, b', c', d, hp, h2.far hbg (fun k hk => h3 i k hi (by rw [List.length_map, h6.1] at hk; exact hk)) _, h3, h4, h5.set hi (by rw [List.length_set]; exact h5.2 i hi), h6⟩, (h1.rows i hi').base_, h1.ne (h1.rows i hi'), hbg, (h1.rows i hi').lt⟩
theorem St.cap (h : St w base ga ca gb cb n m p A Z) : n ≤ ca ∧ n ≤ cb := by
  obtain ⟨a, b, c, d, h1, h2, h3, h4, h5, h6⟩ := h
  have e1 := own_le h1.outer
  have e2 := own_le h2.outer
  rw [List.length_map] at e1 e2
  exact ⟨by have := h5.1; omega, by have := h6.1; omega⟩
/-- The variable that the closure looks at. -/
def Col (w : World) (q kk : Nat) : Prop := (∃ cs, w.heap[q]? = some (.cells cs 3 (0, 0))) ∧ w.cell? ⟨q, 0, none⟩ = some (.int .i64 (kk : Int))
theorem Col.below {q kk : Nat} (h : Col w q kk) (hb : Below w.heap.size w w1) : Col w1 q kk := by
  obtain ⟨⟨cs, hc⟩, h2⟩ := h
  exact ⟨⟨cs, (hb.block q (blk_lt hc)).trans hc⟩, pw_cell_below hb h2⟩
theorem Col.far {q kk b j t : Nat} {cells : Array Value} (h : Col w q kk) (hb : w.heap[b]? = some (.cells cells t (0, 0))) (ht : t ≠ 3) (u : Value) : Col (w.setCell ⟨b, j, none⟩ u) q kk := by
  obtain ⟨⟨cs, hc⟩, h2⟩ := h
  have hne : q ≠ b := by
    rintro rfl
    rw [hc] at hb
    simp at hb
    exact ht hb.2.symm
  have hh := Below.heap_setCell w ⟨b, j, none⟩ u q hne
  exact ⟨⟨cs, hh.trans hc⟩, (World.cell?_of_block (w := w) hh).trans h2⟩
theorem St.types (h : St w base ga ca gb cb n m p A Z) : (∃ cells, w.heap[ga]? = some (.cells cells 22 (0, 0))) ∧ ∃ cells, w.heap[gb]? = some (.cells cells 22 (0, 0)) := by
  obtain ⟨a, b, c, d, h1, h2, h3⟩ := h
  exact ⟨h1.typed, h2.typed⟩
theorem St.drew (h : St w base ga ca gb cb n m p A Z) : St w.drew base ga ca gb cb n m p A Z := h.below (below_drew (Below.refl _ _))
end
end Go.Proofs.Ytbogmlckbkogiaa.H
namespace Go.Proofs.Ytbogmlckbkogiaa.H
open Go.RowKit Go.Proofs.YtbogmlckbkogiaaW.PrintWords Go.Proofs.Ytbogmlckbkogiaa.Leaf Go.Proofs.Ytbogmlckbkogiaa.Gf Go.Proofs.Ytbogmlckbkogiaa.Red
set_option linter.unusedVariables false
theorem typed_set {w : World} {b t : Nat} (h : ∃ cs, w.heap[b]? = some (.cells cs t (0, 0))) (p : Addr) (u : Value) : ∃ cs, (w.setCell p u).heap[b]? = some (.cells cs t (0, 0)) := by
  obtain ⟨cs, hc⟩ := h
  by_cases e : b = p.block
  · subst e
    simp only [World.setCell, Array.getElem?_modify, if_true, hc]
    exact ⟨_, rfl⟩
  · exact ⟨cs, (Below.heap_setCell w p u b e).trans hc⟩
theorem cell_far {w : World} {p q : Addr} {v : Value} (h : w.cell? q = some v) (hne : q.block ≠ p.block) (u : Value) : (w.setCell p u).cell? q = some v :=
  (World.cell?_of_block (w := w) (Below.heap_setCell w p u q.block hne)).trans h
section
variable {w0 w w1 : World} {base ga ca gb cb n m p q kk dd : Nat} {A Z : Mat}
theorem Col.drew (h : Col w q kk) : Col w.drew q kk := h.below (below_drew (Below.refl _ _))
/-- Behind the exchange: the two rows at dd are known by their blocks. -/
structure Sc (W w0 : World) (base ga ca gb cb n m p : Nat) (A Z : Mat) (q kk dd bA cA bZ cZ : Nat) : Prop where
  st : St W base ga ca gb cb n m p A Z
  bl : Below base w0 W
  col : Col W q kk
  ra : W.cell? ⟨ga, dd, none⟩ = some (.slice (some ⟨bA, 0, none⟩) m cA)
  rz : W.cell? ⟨gb, dd, none⟩ = some (.slice (some ⟨bZ, 0, none⟩) p cZ)
variable {bA cA bZ cZ : Nat}
theorem Sc.symm (h : Sc w w0 base ga ca gb cb n m p A Z q kk dd bA cA bZ cZ) : Sc w w0 base gb cb ga ca n p m Z A q kk dd bZ cZ bA cA := ⟨h.st.symm, h.bl, h.col, h.rz, h.ra⟩
theorem Sc.below (h : Sc w w0 base ga ca gb cb n m p A Z q kk dd bA cA bZ cZ) (hs : base ≤ w.heap.size) (hb : Below w.heap.size w w1) : Sc w1 w0 base ga ca gb cb n m p A Z q kk dd bA cA bZ cZ :=
  ⟨h.st.below hb, below_then h.bl hs hb, h.col.below hb, pw_cell_below hb h.ra, pw_cell_below hb h.rz⟩
theorem Sc.rw_ (h : Sc w w0 base ga ca gb cb n m p A Z q kk dd bA cA bZ cZ) (hd : dd < n) : Rw w base bA cA (ofL (row A dd)) := by
  obtain ⟨b, c, h1, _, h2⟩ := h.st.read dd hd
  rw [h.ra] at h1
  have := Option.some.inj h1
  injection this with t1 t2 t3
  injection t1 with t1
  injection t1 with t1
  subst t1 t3
  exact h2
theorem Sc.size (h : Sc w w0 base ga ca gb cb n m p A Z q kk dd bA cA bZ cZ) : base ≤ w.heap.size := by
  obtain ⟨_, _, h1, _, h2, _⟩ := h.st.reg
  omega
theorem Sc.put (h : Sc w w0 base ga ca gb cb n m p A Z q kk dd bA cA bZ cZ) (hd : dd < n) (j : Nat) (x : B) :
    Sc (w.setCell ⟨bA, j, none⟩ (.int .u8 (ofB x))) w0 base ga ca gb cb n m p (A.set dd ((row A dd).set j x)) Z q kk dd bA cA bZ cZ := by
  obtain ⟨h1, h2, h3, h4, h5⟩ := h.st.putA hd h.ra j x
  obtain ⟨cs, hc⟩ := (h.rw_ hd).typed
  exact ⟨h1, h.bl.setCell h2 _, h.col.far hc (by decide) _, cell_far h.ra (Ne.symm h3) _, cell_far h.rz (Ne.symm h4) _⟩
/-- The short list of the two rows. -/
def Pr (w : World) (g : Nat) (v : Nat → Value) : Prop := (∃ cs, w.heap[g]? = some (.cells cs 22 (0, 0))) ∧ ∀ i, i < 2 → w.cell? ⟨g, i, none⟩ = some (v i)
theorem Pr.below {g : Nat} {v : Nat → Value} (h : Pr w g v) (hb : Below w.heap.size w w1) : Pr w1 g v := by
  obtain ⟨⟨cs, hc⟩, h2⟩ := h
  exact ⟨⟨cs, (hb.block g (blk_lt hc)).trans hc⟩, fun i hi => pw_cell_below hb (h2 i hi)⟩
theorem Pr.put {g b t j : Nat} {v : Nat → Value} {cells : Array Value} (h : Pr w g v) (hb : w.heap[b]? = some (.cells cells t (0, 0))) (ht : t ≠ 22) (u : Value) : Pr (w.setCell ⟨b, j, none⟩ u) g v := by
  obtain ⟨⟨cs, hc⟩, h2⟩ := h
  have hne : g ≠ b := by
    rintro rfl
    rw [hc] at hb
    simp at hb
    exact ht hb.2.symm
  exact ⟨typed_set ⟨cs, hc⟩ _ _, fun i hi => cell_far (h2 i hi) hne _⟩
end
end Go.Proofs.Ytbogmlckbkogiaa.H
namespace Go.Proofs.Ytbogmlckbkogiaa.H
open Go.RowKit Go.Proofs.YtbogmlckbkogiaaW.PrintWords Go.Proofs.YtbogmlckbkogiaaW.PrintLast Go.Proofs.Ytbogmlckbkogiaa.Leaf Go.Proofs.Ytbogmlckbkogiaa.Gf Go.Proofs.Ytbogmlckbkogiaa.Red Go.Proofs.Ytbogmlckbkogiaa.P
set_option linter.unusedVariables false
set_option linter.unusedSimpArgs false
def unM (l : List (List Int)) : Mat := l.map fun r => r.map toB
/-- An inverse, if the matrix may be and has one. -/
def invR (A : Mat) : List (List Int) × Int :=
  if mayB A = true ∧ A.length = (row A 0).length then if (redF A.length 0 0 A (idM A.length)).1 < A.length then ([], 4) else (oM (redF A.length 0 0 A (idM A.length)).2.2, 0) else ([], 1)
def matrix_Inverse.f (l0 : List (List Int)) : Option (List (List Int) × Int) := if l0.all byteRow = true then some (invR (unM l0)) else none
def rankR (A : Mat) : Int × Int := if mayB A = true then (((redF (row A 0).length 0 0 A (zeroM A.length 1)).1 : Int), 0) else (0, 1)
def matrix_Rank.f (l0 : List (List Int)) : Option (Int × Int) := if l0.all byteRow = true then some (rankR (unM l0)) else none
theorem Mt.lower {w : World} {base base' g cp : Nat} {id cap : Nat → Nat} {A : List (List Int)} (h : Mt w base g cp id cap A) (hb : base' ≤ base) : Mt w base' g cp id cap A :=
  ⟨own_weaken h.outer hb, fun i hi => own_weaken (h.rows i hi) hb, h.inj⟩
/-- Two matrices made one behind the other. -/
theorem St.make {w1 w2 : World} {base n m p : Nat} {A Z : Mat} {va vz : Value} (hZ : Kd.S (Kd.slice 5 (Kd.int .u8)) 22 w1 base (fun _ => True) vz (oM Z)) (hb : Below w1.heap.size w1 w2) (hA : Kd.S (Kd.slice 5 (Kd.int .u8)) 22 w2 w1.heap.size (fun _ => True) va (oM A)) (hbase : base ≤ w1.heap.size)
    (rA : Reg A n m) (rZ : Reg Z n p) (hn : 0 < n) (hm : 0 < m) (hp : 0 < p) : ∃ ga ca gz cz, va = .slice (some ⟨ga, 0, none⟩) n ca ∧ vz = .slice (some ⟨gz, 0, none⟩) n cz ∧ St w2 base ga ca gz cz n m p A Z := by
  obtain ⟨ga, ca, ida, capa, e1, h1, _⟩ := Mt.of_S hA (by rw [oM_length, rA.1]; exact hn) (fun i hi => by rw [oM_length, rA.1] at hi; unfold oM; rw [map_getD, ofL_length, rA.2 i hi]; exact hm)
  obtain ⟨gz, cz, idz, capz, e2, h2, _⟩ := Mt.of_S hZ (by rw [oM_length, rZ.1]; exact hn) (fun i hi => by rw [oM_length, rZ.1] at hi; unfold oM; rw [map_getD, ofL_length, rZ.2 i hi]; exact hp)
  rw [oM_length, rA.1] at e1
  rw [oM_length, rZ.1] at e2
  refine ⟨ga, ca, gz, cz, e1, e2, ida, capa, idz, capz, h1.lower hbase, h2.below hb, fun i j hi hj e => ?_, fun e => ?_, rA, rZ⟩
  · have h3 := (h1.rows i (by rw [oM_length, rA.1]; exact hi)).base_
    have h4 := (h2.rows j (by rw [oM_length, rZ.1]; exact hj)).lt
    omega
  · have h3 := h1.gbase
    have h4 := h2.glt
    omega
end Go.Proofs.Ytbogmlckbkogiaa.H
namespace Go.Proofs.Ytbogmlckbkogiaa.H
open Go.RowKit Go.Proofs.YtbogmlckbkogiaaW.PrintWords Go.Proofs.YtbogmlckbkogiaaW.PrintLast Go.Proofs.YtbogmlckbkogiaaW.PrintMore Go.Proofs.Ytbogmlckbkogiaa.Leaf Go.Proofs.Ytbogmlckbkogiaa.Gf Go.Proofs.Ytbogmlckbkogiaa.Mx Go.Proofs.Ytbogmlckbkogiaa.P Go.Proofs.Ytbogmlckbkogiaa.Red
set_option linter.unusedVariables false
set_option linter.unusedSimpArgs false
/-- Which of the first s one has. -/
def selN (H : List Bool) (s : Nat) : List Nat := (List.range s).filter fun i => H.getD i false
/-- What holds in the loop of Decode: below the call's start nothing turns; a (elder than B0), the rows and the shards picked (from B0 on). -/
structure DW (w : World) (B0 : Nat) (wc : World) (va : Value) (a : List (List Int)) (v12 : Value) (X12 : List Int) (v13 : Value) (X13 : List (List Int)) : Prop where
  hb : Below w.heap.size w wc
  b0 : B0 ≤ wc.heap.size
  a : Kd.S (Kd.slice 5 (Kd.int .u8)) 22 wc w.heap.size (fun k => k < B0) va a
  r : Kd.R (Kd.int .i64) 3 wc w.heap.size (fun k => B0 ≤ k) v12 X12
  l : Kd.R (Kd.fixed (Kd.slice 5 (Kd.int .u8)) w) 22 wc w.heap.size (fun k => B0 ≤ k) v13 X13
theorem DW.below {w wc w1 : World} {B0 : Nat} {va v12 v13 : Value} {a X13 : List (List Int)} {X12 : List Int} (h : DW w B0 wc va a v12 X12 v13 X13) (hb : Below wc.heap.size wc w1) : DW w B0 w1 va a v12 X12 v13 X13 :=
  ⟨below_step h.hb hb, Nat.le_trans h.b0 hb.size, Kd.S_below h.a hb, Kd.R_below h.r hb, Kd.R_below h.l hb⟩
theorem DW.alloc {w wc : World} {B0 : Nat} {va v12 v13 : Value} {a X13 : List (List Int)} {X12 : List Int} (o : Obj) (h : DW w B0 wc va a v12 X12 v13 X13) : DW w B0 (wc.alloc o) va a v12 X12 v13 X13 := h.below (below_alloc (Below.refl _ _) o)
theorem DW.drew {w wc : World} {B0 : Nat} {va v12 v13 : Value} {a X13 : List (List Int)} {X12 : List Int} (h : DW w B0 wc va a v12 X12 v13 X13) : DW w B0 wc.drew va a v12 X12 v13 X13 := h.below (below_drew (Below.refl _ _))
theorem DW.drewN {w wc : World} {B0 : Nat} {va v12 v13 : Value} {a X13 : List (List Int)} {X12 : List Int} (n : Nat) (h : DW w B0 wc va a v12 X12 v13 X13) : DW w B0 (wc.drewN n) va a v12 X12 v13 X13 := h.below (pw_below_drewN (Below.refl _ _) n)
end Go.Proofs.Ytbogmlckbkogiaa.H
namespace Go.Proofs.Ytbogmlckbkogiaa.Red
open Go.RowKit Go.Proofs.YtbogmlckbkogiaaW.PrintWords Go.Proofs.Ytbogmlckbkogiaa.Leaf Go.Proofs.Ytbogmlckbkogiaa.Gf Go.Proofs.Ytbogmlckbkogiaa.H Go.Proofs.Ytbogmlckbkogiaa.Mx Go.Proofs.Ytbogmlckbkogiaa.P
set_option linter.unusedVariables false
set_option linter.unusedSimpArgs false
def ints (L : List Nat) : List Int := L.map fun (v : Nat) => (v : Int)
end Go.Proofs.Ytbogmlckbkogiaa.Red
namespace Go.Proofs.Ytbogmlckbkogiaa.Red
open Go.RowKit Go.Proofs.YtbogmlckbkogiaaW.PrintWords Go.Proofs.Ytbogmlckbkogiaa.Leaf Go.Proofs.Ytbogmlckbkogiaa.Gf Go.Proofs.Ytbogmlckbkogiaa.H Go.Proofs.Ytbogmlckbkogiaa.Mx Go.Proofs.Ytbogmlckbkogiaa.P
set_option linter.unusedVariables false
set_option linter.unusedSimpArgs false
/-- The shards one has. -/
def selM (A : Mat) (H : List Bool) : Mat := (selN H H.length).map fun i => row A i
/-- The rows of the code's matrix that belong to the first k shards one has. -/
def picM (k m : Nat) (H : List Bool) : Mat := rowsM (cauM k m) (ints ((selN H H.length).take k))
def decM (k m : Nat) (A : Mat) (H : List Bool) : Mat := mulM (cauM k m) (mulM (unM (invR (picM k m H)).1) ((selM A H).take k))
theorem reg_take {D : Mat} {n p k : Nat} (h : Reg D n p) (hk : k ≤ n) : Reg (D.take k) k p := by
  refine ⟨by rw [List.length_take, h.1]; omega, fun i hi => ?_⟩
  have := h.2 i (by omega)
  have e : row (D.take k) i = row D i := by
    unfold row
    rw [List.getD_eq_getElem?_getD, List.getElem?_take_of_lt hi, List.getD_eq_getElem?_getD]
  rw [e]
  exact this
def evD (A : Mat) (H : List Bool) : Bool := ((code_even.f (oM (selM A H)) ((selM A H).length : Int)).getD false)
/-- What Decode answers. -/
def decR (k m : Int) (A : Mat) (H : List Bool) : List (List Int) × Int :=
  if codeB k m = true ∧ (A.length : Int) = k + m ∧ (H.length : Int) = k + m then
    (if 0 < (selM A H).length ∧ evD A H = false then ([], 1) else if ((selM A H).length : Int) < k then ([], 4) else (oM (decM k.toNat m.toNat A H), 0))
  else ([], 1)
end Go.Proofs.Ytbogmlckbkogiaa.Red
namespace Go.Proofs.Ytbogmlckbkogiaa.H
open Go.RowKit Go.Proofs.YtbogmlckbkogiaaW.PrintWords Go.Proofs.Ytbogmlckbkogiaa.Leaf Go.Proofs.Ytbogmlckbkogiaa.Gf Go.Proofs.Ytbogmlckbkogiaa.Red Go.Proofs.Ytbogmlckbkogiaa.Mx Go.Proofs.Ytbogmlckbkogiaa.P
def code_Decode.f (a0 a1 : Int) (l2 : List (List Int)) (l3 : List Bool) : Option (List (List Int) × Int) :=
  if l2.all byteRow = true ∧ -9223372036854775808 ≤ a0 ∧ (l2.all fun r => decide (r.length ≤ 140737488355327)) = true then some (decR a0 a1 (unM l2) l3) else none
end Go.Proofs.Ytbogmlckbkogiaa.H
namespace Go.Proofs.Ytbogmlckbkogiaa.P
open Go.Proofs.Ytbogmlckbkogiaa.H
open Go.Proofs.Ytbogmlckbkogiaa.Leaf
open Go.RowKit Go.Proofs.YtbogmlckbkogiaaW.PrintWords Go.Proofs.YtbogmlckbkogiaaW.PrintLast Go.Proofs.YtbogmlckbkogiaaW.PrintMore
attribute [local go_sem] max2_int min2_int max_two min_two max_three min_three max_four min_four   -- for this text's walks alone
set_option linter.unusedVariables false
set_option linter.unusedSimpArgs false
def mooringlaw03_awake.f (k : Nat)  : Option (Bool) := (code_Encode.f k 2 1 (([(([5] : List Int)), (([7] : List Int))] : List (List Int)))).bind fun bt110 => (if bt110.2 = 0 then (if (bt110.1.length : Int) = 3 then (if 2 < (bt110.1.length : Int) then (if ((rd_L1 bt110.1 2).length : Int) = 1 then (if 0 < (bt110.1.length : Int) then ((code_Decode.f 2 1 (bt110.1.set (0 : Int).toNat ([] : List Int)) (([false, true, true] : List Bool))).bind fun bt119 => (if bt119.2 = 0 then (if (bt119.1.length : Int) = 3 then (if 0 < (bt119.1.length : Int) then (if ((rd_L1 bt119.1 0).length : Int) = 1 then (if 0 < ((rd_L1 bt119.1 0).length : Int) then (some ((rd (rd_L1 bt119.1 0) 0) == 5)) else (none)) else (none)) else (none)) else (none)) else (none))) else (none)) else (none)) else (none)) else (none)) else (none))
theorem mooringlaw03_awake.mono : ∀ k, LeO (mooringlaw03_awake.f k ) (mooringlaw03_awake.f (k + 1) ) := by
  intro  k
  unfold mooringlaw03_awake.f
  repeat' first
      | (with_reducible exact code_Encode.mono _ _ _ _)
      | (with_reducible exact LeO.refl _)
      | (with_reducible exact LeO.none _)
      | (with_reducible refine LeO.ite ?_ ?_)
      | (with_reducible refine LeO.bind ?_ (fun _ => ?_))
      | exact code_Encode.mono _ _ _ _
      | exact LeO.none _
      | refine LeO.ite ?_ ?_
      | refine LeO.bind ?_ (fun _ => ?_)
end Go.Proofs.Ytbogmlckbkogiaa.P
namespace Go.Proofs.Ytbogmlckbkogiaa.P
open Go.Proofs.Ytbogmlckbkogiaa.Leaf
open Go.RowKit Go.Proofs.YtbogmlckbkogiaaW.PrintWords Go.Proofs.YtbogmlckbkogiaaW.PrintLast Go.Proofs.YtbogmlckbkogiaaW.PrintMore
attribute [local go_sem] max2_int min2_int max_two min_two max_three min_three max_four min_four   -- for this text's walks alone
set_option linter.unusedVariables false
set_option linter.unusedSimpArgs false
def mooringlaw03_light.l0 : Nat → Int → Int → List (List Int) → Int → Int → Option (Bool)
  | 0, _, _, _, _, _ => none
  | k + 1, x0, x1, x2, x7, x8 => if x8 < (x2.length : Int) then (if x8 < 300 then (if 0 ≤ x8 then (mooringlaw03_light.l0 k x0 x1 x2 (wrap64 (x7 + ((rd_L1 x2 x8).length : Int))) (wrap64 (x8 + 1))) else (none)) else (if x7 ≤ 6000 then ((mooringref03_Code.f x0 x1).bind fun t102 => (if t102 = true then (some (decide ((wrap64 (x0 * (wrap64 (x0 + x1)))) ≤ 2500))) else (some true))) else (some false))) else (if x7 ≤ 6000 then ((mooringref03_Code.f x0 x1).bind fun t103 => (if t103 = true then (some (decide ((wrap64 (x0 * (wrap64 (x0 + x1)))) ≤ 2500))) else (some true))) else (some false))
def mooringlaw03_light.f (k : Nat) (a0 : Int) (a1 : Int) (l2 : List (List Int)) : Option (Bool) := mooringlaw03_light.l0 k a0 a1 l2 0 0
theorem mooringlaw03_light.mono_l : ∀ k, (∀ y0 y1 y2 y3 y4, LeO (mooringlaw03_light.l0 k y0 y1 y2 y3 y4) (mooringlaw03_light.l0 (k + 1) y0 y1 y2 y3 y4))
  | 0 => fun _ _ _ _ _ r h => by simp [mooringlaw03_light.l0] at h
  | k + 1 => by
    have ih0 := mooringlaw03_light.mono_l k
    · intro y0 y1 y2 y3 y4
      unfold mooringlaw03_light.l0
      repeat' first
      | (with_reducible exact ih0 _ _ _ _ _)
      | (with_reducible exact LeO.refl _)
      | (with_reducible exact LeO.none _)
      | (with_reducible refine LeO.ite ?_ ?_)
      | (with_reducible refine LeO.bind ?_ (fun _ => ?_))
      | exact ih0 _ _ _ _ _
      | exact LeO.none _
      | refine LeO.ite ?_ ?_
      | refine LeO.bind ?_ (fun _ => ?_)
theorem mooringlaw03_light.mono : ∀ a0 a1 a2 k, LeO (mooringlaw03_light.f k a0 a1 a2) (mooringlaw03_light.f (k + 1) a0 a1 a2) := by
  intro a0 a1 a2 k
  have ih0 := mooringlaw03_light.mono_l k
  unfold mooringlaw03_light.f
  repeat' first
      | (with_reducible exact ih0 _ _ _ _ _)
      | (with_reducible exact LeO.refl _)
      | (with_reducible exact LeO.none _)
      | (with_reducible refine LeO.ite ?_ ?_)
      | (with_reducible refine LeO.bind ?_ (fun _ => ?_))
      | exact ih0 _ _ _ _ _
      | exact LeO.none _
      | refine LeO.ite ?_ ?_
      | refine LeO.bind ?_ (fun _ => ?_)
end Go.Proofs.Ytbogmlckbkogiaa.P
namespace Go.Proofs.Ytbogmlckbkogiaa.Red
open Go.RowKit Go.Proofs.YtbogmlckbkogiaaW.PrintWords Go.Proofs.Ytbogmlckbkogiaa.Leaf Go.Proofs.Ytbogmlckbkogiaa.Gf Go.Proofs.Ytbogmlckbkogiaa.H Go.Proofs.Ytbogmlckbkogiaa.Mx Go.Proofs.Ytbogmlckbkogiaa.P
set_option linter.unusedVariables false
set_option linter.unusedSimpArgs false
theorem row_take3 (A : Mat) (k i : Nat) (hi : i < k) : row (A.take k) i = row A i := by
  unfold row
  rw [List.getD_eq_getElem?_getD, List.getElem?_take_of_lt hi, List.getD_eq_getElem?_getD]
/-- A product's row is told by the left matrix' row. -/
theorem row_mulM_eq {A A' C : Mat} {n n' m p : Nat} (hA : Reg A n m) (hA' : Reg A' n' m) (hC : Reg C m p) (hm : 0 < m) {i i' : Nat} (hi : i < n) (hi' : i' < n') (h : row A i = row A' i') : row (mulM A C) i = row (mulM A' C) i' := by
  refine ext0 (by rw [(mulM_reg hA hC hm).2 i hi, (mulM_reg hA' hC hm).2 i' hi']) fun j hj => ?_
  rw [(mulM_reg hA hC hm).2 i hi] at hj
  have h1 := el_mulM hA hC hm hi hj
  have h2 := el_mulM hA' hC hm hi' hj
  unfold el at h1 h2
  rw [h1, h2]
  unfold mm
  simp only [h]
theorem cauM_take {k m : Nat} : (cauM k m).take k = idM k := by
  have h1 : Reg ((cauM k m).take k) k k := ⟨by rw [List.length_take, (cauM_reg k m).1]; omega, fun i hi => by rw [row_take3 _ _ _ hi]; exact (cauM_reg k m).2 i (by omega)⟩
  refine mat_ext h1 (matF_reg k k I) fun i j hi hj => ?_
  rw [idM_eq, el_matF I hi hj]
  show at0 (row ((cauM k m).take k) i) j = _
  rw [row_take3 _ _ _ hi]
  show el (cauM k m) i j = _
  unfold cauM
  rw [el_matF (cau k m) (by omega) hj]
  unfold cau
  rw [if_pos hi]
theorem mulM_take {A C : Mat} {n m p k : Nat} (hA : Reg A n m) (hC : Reg C m p) (hm : 0 < m) (hk : k ≤ n) : (mulM A C).take k = mulM (A.take k) C := by
  have hA2 : Reg (A.take k) k m := reg_take hA hk
  refine mat_ext (reg_take (mulM_reg hA hC hm) hk) (mulM_reg hA2 hC hm) fun i j hi hj => ?_
  show at0 (row ((mulM A C).take k) i) j = at0 (row (mulM (A.take k) C) i) j
  rw [row_take3 _ _ _ hi, row_mulM_eq hA hA2 hC hm (by omega) hi (row_take3 _ _ _ hi).symm]
end Go.Proofs.Ytbogmlckbkogiaa.Red
namespace Go.Proofs.Ytbogmlckbkogiaa.P
open Go.Proofs.Ytbogmlckbkogiaa.Leaf
open Go.RowKit Go.Proofs.YtbogmlckbkogiaaW.PrintWords Go.Proofs.YtbogmlckbkogiaaW.PrintLast Go.Proofs.YtbogmlckbkogiaaW.PrintMore
attribute [local go_sem] max2_int min2_int max_two min_two max_three min_three max_four min_four   -- for this text's walks alone
set_option linter.unusedVariables false
set_option linter.unusedSimpArgs false
def mooringref03_Check.j0 : Nat → Int → Int → List (List Int) → Bool → Option (Bool × Int)
  | 0, _, _, _, _ => none
  | k + 1, x0, x1, x2, x21 => if x21 = true then (some (false, 1)) else (if 0 ≤ x0 then (if x0 ≤ (x2.length : Int) then ((mooringref03_Encode.f k x0 x1 (x2.take (x0 : Int).toNat)).bind fun bt107 => ((mooringref02_Same.f k bt107.1 x2).bind fun t111 => (some (t111, 0)))) else (none)) else (none))
def mooringref03_Check.f (k : Nat) (a0 : Int) (a1 : Int) (l2 : List (List Int)) : Option (Bool × Int) := (mooringref03_Code.f a0 a1).bind fun t101 => (if t101 = true then ((mooringref03_even.f k l2 (wrap64 (a0 + a1))).bind fun t102 => (mooringref03_Check.j0 k a0 a1 l2 (!t102))) else (mooringref03_Check.j0 k a0 a1 l2 true))
theorem mooringref03_Check.mono_l : ∀ k, (∀ y0 y1 y2 y3, LeO (mooringref03_Check.j0 k y0 y1 y2 y3) (mooringref03_Check.j0 (k + 1) y0 y1 y2 y3))
  | 0 => fun _ _ _ _ r h => by simp [mooringref03_Check.j0] at h
  | k + 1 => by
    have ih0 := mooringref03_Check.mono_l k
    · intro y0 y1 y2 y3
      unfold mooringref03_Check.j0
      repeat' first
      | (with_reducible exact ih0 _ _ _ _)
      | (with_reducible exact mooringref02_Same.mono _ _ _)
      | (with_reducible exact mooringref03_Encode.mono _ _ _ _)
      | (with_reducible exact mooringref03_even.mono _ _ _)
      | (with_reducible exact LeO.refl _)
      | (with_reducible exact LeO.none _)
      | (with_reducible refine LeO.ite ?_ ?_)
      | (with_reducible refine LeO.bind ?_ (fun _ => ?_))
      | exact ih0 _ _ _ _
      | exact mooringref02_Same.mono _ _ _
      | exact mooringref03_Encode.mono _ _ _ _
      | exact mooringref03_even.mono _ _ _
      | exact LeO.none _
      | refine LeO.ite ?_ ?_
      | refine LeO.bind ?_ (fun _ => ?_)
theorem mooringref03_Check.mono : ∀ a0 a1 a2 k, LeO (mooringref03_Check.f k a0 a1 a2) (mooringref03_Check.f (k + 1) a0 a1 a2) := by
  intro a0 a1 a2 k
  have ih0 := mooringref03_Check.mono_l k
  unfold mooringref03_Check.f
  repeat' first
      | (with_reducible exact ih0 _ _ _ _)
      | (with_reducible exact mooringref02_Same.mono _ _ _)
      | (with_reducible exact mooringref03_Encode.mono _ _ _ _)
      | (with_reducible exact mooringref03_even.mono _ _ _)
      | (with_reducible exact LeO.refl _)
      | (with_reducible exact LeO.none _)
      | (with_reducible refine LeO.ite ?_ ?_)
      | (with_reducible refine LeO.bind ?_ (fun _ => ?_))
      | exact ih0 _ _ _ _
      | exact mooringref02_Same.mono _ _ _
      | exact mooringref03_Encode.mono _ _ _ _
      | exact mooringref03_even.mono _ _ _
      | exact LeO.none _
      | refine LeO.ite ?_ ?_
      | refine LeO.bind ?_ (fun _ => ?_)
end Go.Proofs.Ytbogmlckbkogiaa.P
namespace Go.Proofs.Ytbogmlckbkogiaa.P
open Go.Proofs.Ytbogmlckbkogiaa.Leaf
open Go.RowKit Go.Proofs.YtbogmlckbkogiaaW.PrintWords Go.Proofs.YtbogmlckbkogiaaW.PrintLast Go.Proofs.YtbogmlckbkogiaaW.PrintMore
attribute [local go_sem] max2_int min2_int max_two min_two max_three min_three max_four min_four   -- for this text's walks alone
set_option linter.unusedVariables false
set_option linter.unusedSimpArgs false
def mooringlaw03_CodeChecks.f (k : Nat) (a0 : Int) (a1 : Int) (l2 : List (List Int)) : Option (Bool) := (mooringlaw03_light.f k a0 a1 l2).bind fun t101 => (if t101 = true then ((code_Check.f k a0 a1 l2).bind fun bt102 => ((mooringref03_Check.f k a0 a1 l2).bind fun bt104 => (if (bt102.1 == bt104.1) = true then (if bt102.2 = bt104.2 then ((mooringlaw03_awake.f k).bind fun t106 => (some t106)) else (some false)) else (some false)))) else ((mooringlaw03_awake.f k).bind fun t107 => (some t107)))
theorem mooringlaw03_CodeChecks.mono : ∀ a0 a1 a2 k, LeO (mooringlaw03_CodeChecks.f k a0 a1 a2) (mooringlaw03_CodeChecks.f (k + 1) a0 a1 a2) := by
  intro a0 a1 a2 k
  unfold mooringlaw03_CodeChecks.f
  repeat' first
      | (with_reducible exact code_Check.mono _ _ _ _)
      | (with_reducible exact mooringlaw03_awake.mono _)
      | (with_reducible exact mooringlaw03_light.mono _ _ _ _)
      | (with_reducible exact mooringref03_Check.mono _ _ _ _)
      | (with_reducible exact LeO.refl _)
      | (with_reducible exact LeO.none _)
      | (with_reducible refine LeO.ite ?_ ?_)
      | (with_reducible refine LeO.bind ?_ (fun _ => ?_))
      | exact code_Check.mono _ _ _ _
      | exact mooringlaw03_awake.mono _
      | exact mooringlaw03_light.mono _ _ _ _
      | exact mooringref03_Check.mono _ _ _ _
      | exact LeO.none _
      | refine LeO.ite ?_ ?_
      | refine LeO.bind ?_ (fun _ => ?_)
end Go.Proofs.Ytbogmlckbkogiaa.P
namespace Go.Proofs.Ytbogmlckbkogiaa.Pure
open Go.RowKit Go.Proofs.YtbogmlckbkogiaaW.PrintWords Go.Proofs.Ytbogmlckbkogiaa.Leaf Go.Proofs.Ytbogmlckbkogiaa.P Go.Proofs.Ytbogmlckbkogiaa.Gf Go.Proofs.Ytbogmlckbkogiaa.Red Go.Proofs.Ytbogmlckbkogiaa.H Go.Proofs.Ytbogmlckbkogiaa.Mx
set_option linter.unusedSimpArgs false
set_option linter.unusedVariables false
def chkR (a b : Int) (A : Mat) : Bool × Int :=
  if codeB a b = true ∧ evenB A (a + b) = true then ((encR a b (A.take a.toNat)).1 == oM A, 0) else (false, 1)
theorem take_oM3 (A : Mat) (k : Nat) : (oM A).take k = oM (A.take k) := by unfold oM; rw [List.map_take]
theorem take_rows {A : Mat} {b : Nat} (hr : ∀ i, i < A.length → (row A i).length ≤ b) (k : Nat) : ∀ i, i < (A.take k).length → (row (A.take k) i).length ≤ b := by
  intro i hi
  rw [List.length_take] at hi
  have e : row (A.take k) i = row A i := by
    unfold row
    rw [List.getD_eq_getElem?_getD, List.getElem?_take_of_lt (by omega), List.getD_eq_getElem?_getD]
  rw [e]
  exact hr i (by omega)
theorem evCheck3 (a b : Int) (ha : -9223372036854775808 ≤ a) (A : Mat) (hr : ∀ i, i < A.length → (row A i).length ≤ 140737488355327) : Ev (fun k => code_Check.f k a b (oM A)) (chkR a b A) := by
  have j1 : Ev (fun k => code_Check.j0 k a b (oM A) true) (false, 1) := Ev.step (f := fun _ => some (false, 1)) (fun k => by simp only [code_Check.j0, if_true]) (Ev.now _)
  unfold code_Check.f chkR
  refine Ev.bind (evCauchy a b ha) ?_
  rcases codeB_form a b with ⟨h1, k, m, rfl, rfl, hk, hm, h, e⟩ | ⟨h1, e⟩
  · rw [e]
    have hw : wrap64 ((k + m : Nat) : Int) = ((k + m : Nat) : Int) := w64 _ (by omega) (by omega)
    simp only [if_true, h1, true_and, hw, code_even_eq A ((k + m : Nat) : Int) (by omega), Option.bind_some, ← Int.natCast_add]
    cases h2 : evenB A ((k + m : Nat) : Int) with
    | false => simp only [Bool.not_false, Bool.false_eq_true, if_false]; exact j1
    | true =>
      have hA := (evenB_iff A (k + m)).1 h2
      simp only [Bool.not_true, if_true, Int.toNat_natCast]
      refine Ev.step (f := fun f => (code_Encode.f f (k : Int) (m : Int) (oM (A.take k))).bind fun bt110 => (code_same.f bt110.1 (oM A)).bind fun t114 => some (t114, 0)) (fun f => ?_) ?_
      · simp only [code_Check.j0, Bool.false_eq_true, if_false]
        rw [if_pos (by omega), if_pos (by rw [oM_length, hA.1]; omega), Int.toNat_natCast, take_oM3]
      · refine Ev.bind (evEncode (k : Int) (m : Int) (by omega) (A.take k) (take_rows hr k)) ?_
        unfold code_same.f
        exact Ev.now _
  · rw [e]
    simp only [h1, show ((1 : Int) = 0) = False from eq_false (by decide), if_false, Bool.false_eq_true, false_and]
    exact j1
end Go.Proofs.Ytbogmlckbkogiaa.Pure
namespace Go.Proofs.Ytbogmlckbkogiaa.P
open Go.Proofs.Ytbogmlckbkogiaa.Leaf
open Go.RowKit Go.Proofs.YtbogmlckbkogiaaW.PrintWords Go.Proofs.YtbogmlckbkogiaaW.PrintLast Go.Proofs.YtbogmlckbkogiaaW.PrintMore
attribute [local go_sem] max2_int min2_int max_two min_two max_three min_three max_four min_four   -- for this text's walks alone
set_option linter.unusedVariables false
set_option linter.unusedSimpArgs false
def mooringlaw03_count.l0 : Nat → List Bool → Int → Int → Option (Int)
  | 0, _, _, _ => none
  | k + 1, x0, x3, x4 => if x4 < (x0.length : Int) then (if 0 ≤ x4 then (if rdOf false x0 x4 = true then (mooringlaw03_count.l0 k x0 (wrap64 (x3 + 1)) (wrap64 (x4 + 1))) else (mooringlaw03_count.l0 k x0 x3 (wrap64 (x4 + 1)))) else (none)) else (some x3)
def mooringlaw03_count.f (k : Nat) (l0 : List Bool) : Option (Int) := mooringlaw03_count.l0 k l0 0 0
theorem mooringlaw03_count.mono_l : ∀ k, (∀ y0 y1 y2, LeO (mooringlaw03_count.l0 k y0 y1 y2) (mooringlaw03_count.l0 (k + 1) y0 y1 y2))
  | 0 => fun _ _ _ r h => by simp [mooringlaw03_count.l0] at h
  | k + 1 => by
    have ih0 := mooringlaw03_count.mono_l k
    · intro y0 y1 y2
      unfold mooringlaw03_count.l0
      repeat' first
      | (with_reducible exact ih0 _ _ _)
      | (with_reducible exact LeO.refl _)
      | (with_reducible exact LeO.none _)
      | (with_reducible refine LeO.ite ?_ ?_)
      | (with_reducible refine LeO.bind ?_ (fun _ => ?_))
      | exact ih0 _ _ _
      | exact LeO.none _
      | refine LeO.ite ?_ ?_
      | refine LeO.bind ?_ (fun _ => ?_)
theorem mooringlaw03_count.mono : ∀ a0 k, LeO (mooringlaw03_count.f k a0) (mooringlaw03_count.f (k + 1) a0) := by
  intro a0 k
  have ih0 := mooringlaw03_count.mono_l k
  unfold mooringlaw03_count.f
  repeat' first
      | (with_reducible exact ih0 _ _ _)
      | (with_reducible exact LeO.refl _)
      | (with_reducible exact LeO.none _)
      | (with_reducible refine LeO.ite ?_ ?_)
      | (with_reducible refine LeO.bind ?_ (fun _ => ?_))
      | exact ih0 _ _ _
      | exact LeO.none _
      | refine LeO.ite ?_ ?_
      | refine LeO.bind ?_ (fun _ => ?_)
end Go.Proofs.Ytbogmlckbkogiaa.P
namespace Go.Proofs.Ytbogmlckbkogiaa.P
open Go.Proofs.Ytbogmlckbkogiaa.H
open Go.Proofs.Ytbogmlckbkogiaa.Leaf
open Go.RowKit Go.Proofs.YtbogmlckbkogiaaW.PrintWords Go.Proofs.YtbogmlckbkogiaaW.PrintLast Go.Proofs.YtbogmlckbkogiaaW.PrintMore
attribute [local go_sem] max2_int min2_int max_two min_two max_three min_three max_four min_four   -- for this text's walks alone
set_option linter.unusedVariables false
set_option linter.unusedSimpArgs false
mutual
def mooringlaw03_CodeRefuses.j0 : Nat → Int → Int → List (List Int) → Int → Bool → Int → Int → List (List Int) → List Bool → Option (Bool)
  | 0, _, _, _, _, _, _, _, _, _ => none
  | k + 1, x0, x1, x7, x8, x9, x102000, x102001, x102002, x102003 => mooringlaw03_CodeRefuses.l0 k x0 x1 x7 x8 x9 (-1) 0 x102000 x102001 x102002 x102003
def mooringlaw03_CodeRefuses.l0 : Nat → Int → Int → List (List Int) → Int → Bool → Int → Int → Int → Int → List (List Int) → List Bool → Option (Bool)
  | 0, _, _, _, _, _, _, _, _, _, _, _ => none
  | k + 1, x0, x1, x7, x8, x9, x10, x11, x102000, x102001, x102002, x102003 => if x9 = true then (mooringlaw03_CodeRefuses.j2 k x0 x1 x7 x8 x9 x10 x11 (decide (x11 < (x102002.length : Int))) x102000 x102001 x102002 x102003) else (mooringlaw03_CodeRefuses.j2 k x0 x1 x7 x8 x9 x10 x11 false x102000 x102001 x102002 x102003)
def mooringlaw03_CodeRefuses.j2 : Nat → Int → Int → List (List Int) → Int → Bool → Int → Int → Bool → Int → Int → List (List Int) → List Bool → Option (Bool)
  | 0, _, _, _, _, _, _, _, _, _, _, _, _ => none
  | k + 1, x0, x1, x7, x8, x9, x10, x11, x61, x102000, x102001, x102002, x102003 => if x61 = true then (if 0 ≤ x11 then (if x11 < (x102003.length : Int) then (if rdOf false x102003 x11 = true then (if x10 < 0 then (if x11 < (x102002.length : Int) then (mooringlaw03_CodeRefuses.l0 k x0 x1 x7 x8 true ((rd_L1 x102002 x11).length : Int) (wrap64 (x11 + 1)) x102000 x102001 x102002 x102003) else (none)) else (if x11 < (x102002.length : Int) then (mooringlaw03_CodeRefuses.l0 k x0 x1 x7 x8 (x10 == ((rd_L1 x102002 x11).length : Int)) ((rd_L1 x102002 x11).length : Int) (wrap64 (x11 + 1)) x102000 x102001 x102002 x102003) else (none))) else (mooringlaw03_CodeRefuses.l0 k x0 x1 x7 x8 x9 x10 (wrap64 (x11 + 1)) x102000 x102001 x102002 x102003)) else (none)) else (none)) else (if x9 = true then ((mooringlaw03_count.f k x102003).bind fun t114 => (if t114 < x0 then (if x8 = 4 then (if (x7.length : Int) = 0 then ((mooringlaw03_awake.f k).bind fun t115 => (some t115)) else (some false)) else (some false)) else ((mooringref03_Check.f k x0 x1 x7).bind fun bt116 => (if x8 = 0 then (if bt116.2 = 0 then (mooringlaw03_CodeRefuses.j3 k x0 x7 (!bt116.1) x102000 x102001 x102002 x102003) else (mooringlaw03_CodeRefuses.j3 k x0 x7 true x102000 x102001 x102002 x102003)) else (mooringlaw03_CodeRefuses.j3 k x0 x7 true x102000 x102001 x102002 x102003))))) else (if x8 = 1 then (if (x7.length : Int) = 0 then ((mooringlaw03_awake.f k).bind fun t113 => (some t113)) else (some false)) else (some false)))
def mooringlaw03_CodeRefuses.j3 : Nat → Int → List (List Int) → Bool → Int → Int → List (List Int) → List Bool → Option (Bool)
  | 0, _, _, _, _, _, _, _ => none
  | k + 1, x0, x7, x130, x102000, x102001, x102002, x102003 => if x130 = true then (some false) else (mooringlaw03_CodeRefuses.l1 k x0 x7 0 0 x102000 x102001 x102002 x102003)
def mooringlaw03_CodeRefuses.l1 : Nat → Int → List (List Int) → Int → Int → Int → Int → List (List Int) → List Bool → Option (Bool)
  | 0, _, _, _, _, _, _, _, _ => none
  | k + 1, x0, x7, x14, x15, x102000, x102001, x102002, x102003 => if x15 < (x7.length : Int) then (if 0 ≤ x15 then (if x15 < (x102003.length : Int) then (if rdOf false x102003 x15 = true then (mooringlaw03_CodeRefuses.j5 k x0 x7 x14 x15 (decide (x14 < x0)) x102000 x102001 x102002 x102003) else (mooringlaw03_CodeRefuses.j5 k x0 x7 x14 x15 false x102000 x102001 x102002 x102003)) else (none)) else (none)) else ((mooringlaw03_awake.f k).bind fun t118 => (some t118))
def mooringlaw03_CodeRefuses.j5 : Nat → Int → List (List Int) → Int → Int → Bool → Int → Int → List (List Int) → List Bool → Option (Bool)
  | 0, _, _, _, _, _, _, _, _, _ => none
  | k + 1, x0, x7, x14, x15, x146, x102000, x102001, x102002, x102003 => if x146 = true then (if 0 ≤ x15 then (if x15 < (x7.length : Int) then (if x15 < (x102002.length : Int) then (if (strOfNums (rd_L1 x7 x15)).toList = (strOfNums (rd_L1 x102002 x15)).toList then (mooringlaw03_CodeRefuses.l1 k x0 x7 (wrap64 (x14 + 1)) (wrap64 (x15 + 1)) x102000 x102001 x102002 x102003) else (some false)) else (none)) else (none)) else (none)) else (mooringlaw03_CodeRefuses.l1 k x0 x7 x14 (wrap64 (x15 + 1)) x102000 x102001 x102002 x102003)
end
def mooringlaw03_CodeRefuses.f (k : Nat) (a0 : Int) (a1 : Int) (a2_0 : Int) (a2_1 : Int) (l2_2 : List (List Int)) (l2_3 : List Bool) : Option (Bool) := (mooringlaw03_light.f k a0 a1 l2_2).bind fun t102 => (if t102 = true then ((code_Decode.f a0 a1 l2_2 l2_3).bind fun bt104 => ((mooringref03_Code.f a0 a1).bind fun t108 => (if t108 = true then (if (l2_2.length : Int) = (l2_3.length : Int) then (mooringlaw03_CodeRefuses.j0 k a0 a1 bt104.1 bt104.2 ((l2_2.length : Int) == (wrap64 (a0 + a1))) a2_0 a2_1 l2_2 l2_3) else (mooringlaw03_CodeRefuses.j0 k a0 a1 bt104.1 bt104.2 false a2_0 a2_1 l2_2 l2_3)) else (mooringlaw03_CodeRefuses.j0 k a0 a1 bt104.1 bt104.2 false a2_0 a2_1 l2_2 l2_3)))) else ((mooringlaw03_awake.f k).bind fun t103 => (some t103)))
theorem mooringlaw03_CodeRefuses.mono_l : ∀ k, (∀ y0 y1 y2 y3 y4 y5 y6 y7 y8, LeO (mooringlaw03_CodeRefuses.j0 k y0 y1 y2 y3 y4 y5 y6 y7 y8) (mooringlaw03_CodeRefuses.j0 (k + 1) y0 y1 y2 y3 y4 y5 y6 y7 y8)) ∧ (∀ y0 y1 y2 y3 y4 y5 y6 y7 y8 y9 y10, LeO (mooringlaw03_CodeRefuses.l0 k y0 y1 y2 y3 y4 y5 y6 y7 y8 y9 y10) (mooringlaw03_CodeRefuses.l0 (k + 1) y0 y1 y2 y3 y4 y5 y6 y7 y8 y9 y10)) ∧ (∀ y0 y1 y2 y3 y4 y5 y6 y7 y8 y9 y10 y11, LeO (mooringlaw03_CodeRefuses.j2 k y0 y1 y2 y3 y4 y5 y6 y7 y8 y9 y10 y11) (mooringlaw03_CodeRefuses.j2 (k + 1) y0 y1 y2 y3 y4 y5 y6 y7 y8 y9 y10 y11)) ∧ (∀ y0 y1 y2 y3 y4 y5 y6, LeO (mooringlaw03_CodeRefuses.j3 k y0 y1 y2 y3 y4 y5 y6) (mooringlaw03_CodeRefuses.j3 (k + 1) y0 y1 y2 y3 y4 y5 y6)) ∧ (∀ y0 y1 y2 y3 y4 y5 y6 y7, LeO (mooringlaw03_CodeRefuses.l1 k y0 y1 y2 y3 y4 y5 y6 y7) (mooringlaw03_CodeRefuses.l1 (k + 1) y0 y1 y2 y3 y4 y5 y6 y7)) ∧ (∀ y0 y1 y2 y3 y4 y5 y6 y7 y8, LeO (mooringlaw03_CodeRefuses.j5 k y0 y1 y2 y3 y4 y5 y6 y7 y8) (mooringlaw03_CodeRefuses.j5 (k + 1) y0 y1 y2 y3 y4 y5 y6 y7 y8))
  | 0 => ⟨fun _ _ _ _ _ _ _ _ _ r h => by simp [mooringlaw03_CodeRefuses.j0] at h, fun _ _ _ _ _ _ _ _ _ _ _ r h => by simp [mooringlaw03_CodeRefuses.l0] at h, fun _ _ _ _ _ _ _ _ _ _ _ _ r h => by simp [mooringlaw03_CodeRefuses.j2] at h, fun _ _ _ _ _ _ _ r h => by simp [mooringlaw03_CodeRefuses.j3] at h, fun _ _ _ _ _ _ _ _ r h => by simp [mooringlaw03_CodeRefuses.l1] at h, fun _ _ _ _ _ _ _ _ _ r h => by simp [mooringlaw03_CodeRefuses.j5] at h⟩
  | k + 1 => by
    obtain ⟨ih0, ih1, ih2, ih3, ih4, ih5⟩ := mooringlaw03_CodeRefuses.mono_l k
    refine ⟨?_, ?_, ?_, ?_, ?_, ?_⟩
    · intro y0 y1 y2 y3 y4 y5 y6 y7 y8
      unfold mooringlaw03_CodeRefuses.j0
      repeat' first
      | (with_reducible exact ih0 _ _ _ _ _ _ _ _ _)
      | (with_reducible exact ih1 _ _ _ _ _ _ _ _ _ _ _)
      | (with_reducible exact ih2 _ _ _ _ _ _ _ _ _ _ _ _)
      | (with_reducible exact ih3 _ _ _ _ _ _ _)
      | (with_reducible exact ih4 _ _ _ _ _ _ _ _)
      | (with_reducible exact ih5 _ _ _ _ _ _ _ _ _)
      | (with_reducible exact mooringlaw03_awake.mono _)
      | (with_reducible exact mooringlaw03_count.mono _ _)
      | (with_reducible exact mooringlaw03_light.mono _ _ _ _)
      | (with_reducible exact mooringref03_Check.mono _ _ _ _)
      | (with_reducible exact LeO.refl _)
      | (with_reducible exact LeO.none _)
      | (with_reducible refine LeO.ite ?_ ?_)
      | (with_reducible refine LeO.bind ?_ (fun _ => ?_))
      | exact ih0 _ _ _ _ _ _ _ _ _
      | exact ih1 _ _ _ _ _ _ _ _ _ _ _
      | exact ih2 _ _ _ _ _ _ _ _ _ _ _ _
      | exact ih3 _ _ _ _ _ _ _
      | exact ih4 _ _ _ _ _ _ _ _
      | exact ih5 _ _ _ _ _ _ _ _ _
      | exact mooringlaw03_awake.mono _
      | exact mooringlaw03_count.mono _ _
      | exact mooringlaw03_light.mono _ _ _ _
      | exact mooringref03_Check.mono _ _ _ _
      | exact LeO.none _
      | refine LeO.ite ?_ ?_
      | refine LeO.bind ?_ (fun _ => ?_)
    · intro y0 y1 y2 y3 y4 y5 y6 y7 y8 y9 y10
      unfold mooringlaw03_CodeRefuses.l0
      repeat' first
      | (with_reducible exact ih0 _ _ _ _ _ _ _ _ _)
      | (with_reducible exact ih1 _ _ _ _ _ _ _ _ _ _ _)
      | (with_reducible exact ih2 _ _ _ _ _ _ _ _ _ _ _ _)
      | (with_reducible exact ih3 _ _ _ _ _ _ _)
      | (with_reducible exact ih4 _ _ _ _ _ _ _ _)
      | (with_reducible exact ih5 _ _ _ _ _ _ _ _ _)
      | (with_reducible exact mooringlaw03_awake.mono _)
      | (with_reducible exact mooringlaw03_count.mono _ _)
      | (with_reducible exact mooringlaw03_light.mono _ _ _ _)
      | (with_reducible exact mooringref03_Check.mono _ _ _ _)
      | (with_reducible exact LeO.refl _)
      | (with_reducible exact LeO.none _)
      | (with_reducible refine LeO.ite ?_ ?_)
      | (with_reducible refine LeO.bind ?_ (fun _ => ?_))
      | exact ih0 _ _ _ _ _ _ _ _ _
      | exact ih1 _ _ _ _ _ _ _ _ _ _ _
      | exact ih2 _ _ _ _ _ _ _ _ _ _ _ _
      | exact ih3 _ _ _ _ _ _ _
      | exact ih4 _ _ _ _ _ _ _ _
      | exact ih5 _ _ _ _ _ _ _ _ _
      | exact mooringlaw03_awake.mono _
      | exact mooringlaw03_count.mono _ _
      | exact mooringlaw03_light.mono _ _ _ _
      | exact mooringref03_Check.mono _ _ _ _
      | exact LeO.none _
      | refine LeO.ite ?_ ?_
      | refine LeO.bind ?_ (fun _ => ?_)
    · intro y0 y1 y2 y3 y4 y5 y6 y7 y8 y9 y10 y11
      unfold mooringlaw03_CodeRefuses.j2
      repeat' first
      | (with_reducible exact ih0 _ _ _ _ _ _ _ _ _)
      | (with_reducible exact ih1 _ _ _ _ _ _ _ _ _ _ _)
      | (with_reducible exact ih2 _ _ _ _ _ _ _ _ _ _ _ _)
      | (with_reducible exact ih3 _ _ _ _ _ _ _)
      | (with_reducible exact ih4 _ _ _ _ _ _ _ _)
      | (with_reducible exact ih5 _ _ _ _ _ _ _ _ _)
      | (with_reducible exact mooringlaw03_awake.mono _)
      | (with_reducible exact mooringlaw03_count.mono _ _)
      | (with_reducible exact mooringlaw03_light.mono _ _ _ _)
      | (with_reducible exact mooringref03_Check.mono _ _ _ _)
      | (with_reducible exact LeO.refl _)
      | (with_reducible exact LeO.none _)
      | (with_reducible refine LeO.ite ?_ ?_)
      | (with_reducible refine LeO.bind ?_ (fun _ => ?_))
      | exact ih0 _ _ _ _ _ _ _ _ _
      | exact ih1 _ _ _ _ _ _ _ _ _ _ _
      | exact ih2 _ _ _ _ _ _ _ _ _ _ _ _
      | exact ih3 _ _ _ _ _ _ _
      | exact ih4 _ _ _ _ _ _ _ _
      | exact ih5 _ _ _ _ _ _ _ _ _
      | exact mooringlaw03_awake.mono _
      | exact mooringlaw03_count.mono _ _
      | exact mooringlaw03_light.mono _ _ _ _
      | exact mooringref03_Check.mono _ _ _ _
      | exact LeO.none _
      | refine LeO.ite ?_ ?_
      | refine LeO.bind ?_ (fun _ => ?_)
    · intro y0 y1 y2 y3 y4 y5 y6
      unfold mooringlaw03_CodeRefuses.j3
      repeat' first
      | (with_reducible exact ih0 _ _ _ _ _ _ _ _ _)
      | (with_reducible exact ih1 _ _ _ _ _ _ _ _ _ _ _)
      | (with_reducible exact ih2 _ _ _ _ _ _ _ _ _ _ _ _)
      | (with_reducible exact ih3 _ _ _ _ _ _ _)
      | (with_reducible exact ih4 _ _ _ _ _ _ _ _)
      | (with_reducible exact ih5 _ _ _ _ _ _ _ _ _)
      | (with_reducible exact mooringlaw03_awake.mono _)
      | (with_reducible exact mooringlaw03_count.mono _ _)
      | (with_reducible exact mooringlaw03_light.mono _ _ _ _)
      | (with_reducible exact mooringref03_Check.mono _ _ _ _)
      | (with_reducible exact LeO.refl _)
      | (with_reducible exact LeO.none _)
      | (with_reducible refine LeO.ite ?_ ?_)
      | (with_reducible refine LeO.bind ?_ (fun _ => ?_))
      | exact ih0 _ _ _ _ _ _ _ _ _
      | exact ih1 _ _ _ _ _ _ _ _ _ _ _
      | exact ih2 _ _ _ _ _ _ _ _ _ _ _ _
      | exact ih3 _ _ _ _ _ _ _
      | exact ih4 _ _ _ _ _ _ _ _
      | exact ih5 _ _ _ _ _ _ _ _ _
      | exact mooringlaw03_awake.mono _
      | exact mooringlaw03_count.mono _ _
      | exact mooringlaw03_light.mono _ _ _ _
      | exact mooringref03_Check.mono _ _ _ _
      | exact LeO.none _
      | refine LeO.ite ?_ ?_
      | refine LeO.bind ?_ (fun _ => ?_)
    · intro y0 y1 y2 y3 y4 y5 y6 y7
      unfold mooringlaw03_CodeRefuses.l1
      repeat' first
      | (with_reducible exact ih0 _ _ _ _ _ _ _ _ _)
      | (with_reducible exact ih1 _ _ _ _ _ _ _ _ _ _ _)
      | (with_reducible exact ih2 _ _ _ _ _ _ _ _ _ _ _ _)
      | (with_reducible exact ih3 _ _ _ _ _ _ _)
      | (with_reducible exact ih4 _ _ _ _ _ _ _ _)
      | (with_reducible exact ih5 _ _ _ _ _ _ _ _ _)
      | (with_reducible exact mooringlaw03_awake.mono _)
      | (with_reducible exact mooringlaw03_count.mono _ _)
      | (with_reducible exact mooringlaw03_light.mono _ _ _ _)
      | (with_reducible exact mooringref03_Check.mono _ _ _ _)
      | (with_reducible exact LeO.refl _)
      | (with_reducible exact LeO.none _)
      | (with_reducible refine LeO.ite ?_ ?_)
      | (with_reducible refine LeO.bind ?_ (fun _ => ?_))
      | exact ih0 _ _ _ _ _ _ _ _ _
      | exact ih1 _ _ _ _ _ _ _ _ _ _ _
      | exact ih2 _ _ _ _ _ _ _ _ _ _ _ _
      | exact ih3 _ _ _ _ _ _ _
      | exact ih4 _ _ _ _ _ _ _ _
      | exact ih5 _ _ _ _ _ _ _ _ _
      | exact mooringlaw03_awake.mono _
      | exact mooringlaw03_count.mono _ _
      | exact mooringlaw03_light.mono _ _ _ _
      | exact mooringref03_Check.mono _ _ _ _
      | exact LeO.none _
      | refine LeO.ite ?_ ?_
      | refine LeO.bind ?_ (fun _ => ?_)
    · intro y0 y1 y2 y3 y4 y5 y6 y7 y8
      unfold mooringlaw03_CodeRefuses.j5
      repeat' first
      | (with_reducible exact ih0 _ _ _ _ _ _ _ _ _)
      | (with_reducible exact ih1 _ _ _ _ _ _ _ _ _ _ _)
      | (with_reducible exact ih2 _ _ _ _ _ _ _ _ _ _ _ _)
      | (with_reducible exact ih3 _ _ _ _ _ _ _)
      | (with_reducible exact ih4 _ _ _ _ _ _ _ _)
      | (with_reducible exact ih5 _ _ _ _ _ _ _ _ _)
      | (with_reducible exact mooringlaw03_awake.mono _)
      | (with_reducible exact mooringlaw03_count.mono _ _)
      | (with_reducible exact mooringlaw03_light.mono _ _ _ _)
      | (with_reducible exact mooringref03_Check.mono _ _ _ _)
      | (with_reducible exact LeO.refl _)
      | (with_reducible exact LeO.none _)
      | (with_reducible refine LeO.ite ?_ ?_)
      | (with_reducible refine LeO.bind ?_ (fun _ => ?_))
      | exact ih0 _ _ _ _ _ _ _ _ _
      | exact ih1 _ _ _ _ _ _ _ _ _ _ _
      | exact ih2 _ _ _ _ _ _ _ _ _ _ _ _
      | exact ih3 _ _ _ _ _ _ _
      | exact ih4 _ _ _ _ _ _ _ _
      | exact ih5 _ _ _ _ _ _ _ _ _
      | exact mooringlaw03_awake.mono _
      | exact mooringlaw03_count.mono _ _
      | exact mooringlaw03_light.mono _ _ _ _
      | exact mooringref03_Check.mono _ _ _ _
      | exact LeO.none _
      | refine LeO.ite ?_ ?_
      | refine LeO.bind ?_ (fun _ => ?_)
theorem mooringlaw03_CodeRefuses.mono : ∀ a0 a1 a2 a3 a4 a5 k, LeO (mooringlaw03_CodeRefuses.f k a0 a1 a2 a3 a4 a5) (mooringlaw03_CodeRefuses.f (k + 1) a0 a1 a2 a3 a4 a5) := by
  intro a0 a1 a2 a3 a4 a5 k
  obtain ⟨ih0, ih1, ih2, ih3, ih4, ih5⟩ := mooringlaw03_CodeRefuses.mono_l k
  unfold mooringlaw03_CodeRefuses.f
  repeat' first
      | (with_reducible exact ih0 _ _ _ _ _ _ _ _ _)
      | (with_reducible exact ih1 _ _ _ _ _ _ _ _ _ _ _)
      | (with_reducible exact ih2 _ _ _ _ _ _ _ _ _ _ _ _)
      | (with_reducible exact ih3 _ _ _ _ _ _ _)
      | (with_reducible exact ih4 _ _ _ _ _ _ _ _)
      | (with_reducible exact ih5 _ _ _ _ _ _ _ _ _)
      | (with_reducible exact mooringlaw03_awake.mono _)
      | (with_reducible exact mooringlaw03_count.mono _ _)
      | (with_reducible exact mooringlaw03_light.mono _ _ _ _)
      | (with_reducible exact mooringref03_Check.mono _ _ _ _)
      | (with_reducible exact LeO.refl _)
      | (with_reducible exact LeO.none _)
      | (with_reducible refine LeO.ite ?_ ?_)
      | (with_reducible refine LeO.bind ?_ (fun _ => ?_))
      | exact ih0 _ _ _ _ _ _ _ _ _
      | exact ih1 _ _ _ _ _ _ _ _ _ _ _
      | exact ih2 _ _ _ _ _ _ _ _ _ _ _ _
      | exact ih3 _ _ _ _ _ _ _
      | exact ih4 _ _ _ _ _ _ _ _
      | exact ih5 _ _ _ _ _ _ _ _ _
      | exact mooringlaw03_awake.mono _
      | exact mooringlaw03_count.mono _ _
      | exact mooringlaw03_light.mono _ _ _ _
      | exact mooringref03_Check.mono _ _ _ _
      | exact LeO.none _
      | refine LeO.ite ?_ ?_
      | refine LeO.bind ?_ (fun _ => ?_)
end Go.Proofs.Ytbogmlckbkogiaa.P
namespace Go.Proofs.Ytbogmlckbkogiaa.Pure
open Go.RowKit Go.Proofs.YtbogmlckbkogiaaW.PrintWords Go.Proofs.Ytbogmlckbkogiaa.Leaf Go.Proofs.Ytbogmlckbkogiaa.P Go.Proofs.Ytbogmlckbkogiaa.Gf Go.Proofs.Ytbogmlckbkogiaa.Red Go.Proofs.Ytbogmlckbkogiaa.H Go.Proofs.Ytbogmlckbkogiaa.Mx
set_option linter.unusedSimpArgs false
set_option linter.unusedVariables false
/-- A codeword is told to be one. -/
theorem chk_code {k m p : Nat} (hk : 1 ≤ k) (hm : 1 ≤ m) (h : k + m ≤ 255) {Y : Mat} (hY : Reg Y k p) (e : (mulM (cauM k m) Y).take k = Y) (hc : codeB (k : Int) (m : Int) = true) : chkR (k : Int) (m : Int) (mulM (cauM k m) Y) = (true, 0) := by
  have hD := mulM_reg (cauM_reg k m) hY hk
  have h0 : (row (mulM (cauM k m) Y) 0).length = p := hD.2 0 (by omega)
  have hY0 : (row Y 0).length = p := hY.2 0 (by omega)
  have e1 : evenB (mulM (cauM k m) Y) ((k : Int) + (m : Int)) = true := by
    rw [← Int.natCast_add]
    exact (evenB_iff _ _).2 (by rw [h0]; exact hD)
  have e2 : evenB Y (k : Int) = true := (evenB_iff _ _).2 (by rw [hY0]; exact hY)
  unfold chkR
  rw [if_pos ⟨hc, e1⟩, Int.toNat_natCast, e]
  unfold encR
  rw [if_pos ⟨hc, e2⟩, Int.toNat_natCast, Int.toNat_natCast]
  rw [beq_self_eq_true]
end Go.Proofs.Ytbogmlckbkogiaa.Pure
namespace Go.Proofs.Ytbogmlckbkogiaa.Pure
open Go.RowKit Go.Proofs.YtbogmlckbkogiaaW.PrintWords Go.Proofs.Ytbogmlckbkogiaa.Leaf Go.Proofs.Ytbogmlckbkogiaa.P Go.Proofs.Ytbogmlckbkogiaa.Gf Go.Proofs.Ytbogmlckbkogiaa.Red Go.Proofs.Ytbogmlckbkogiaa.H Go.Proofs.Ytbogmlckbkogiaa.Mx
set_option linter.unusedSimpArgs false
set_option linter.unusedVariables false
/-- The difference of two rows. -/
def xorL (O F : List B) : List B := am O F 1#8 O.length
theorem xorL_length (O F : List B) : (xorL O F).length = O.length := am_length _ _ _ _
theorem at0_xorL (O F : List B) (j : Nat) (hj : j < O.length) : at0 (xorL O F) j = at0 O j ^^^ at0 F j := by
  unfold xorL
  rw [am_at _ _ _ _ hj, mul_one]
/-- The parity shards' differences, the first r of them. -/
def dM (k m i : Nat) (T : List B) (r : Nat) : Mat := (List.range r).map fun p => (List.range T.length).map fun b => mul (at0 T b) (el (cauM k m) (k + p) i)
theorem dM_reg (k m i : Nat) (T : List B) (r : Nat) : Reg (dM k m i T r) r T.length := ⟨by simp [dM], fun p hp => by unfold dM; rw [row_map _ _ _ hp]; simp⟩
theorem row_dM (k m i : Nat) (T : List B) (r p : Nat) (hp : p < r) : row (dM k m i T r) p = (List.range T.length).map fun b => mul (at0 T b) (el (cauM k m) (k + p) i) := by
  unfold dM
  rw [row_map _ _ _ hp]
theorem am_dM (k m i p : Nat) (T : List B) : am (List.replicate T.length 0#8) T (el (cauM k m) (k + p) i) (List.replicate T.length 0#8).length = (List.range T.length).map fun b => mul (at0 T b) (el (cauM k m) (k + p) i) := by
  refine ext0 (by rw [am_length]; simp) fun j hj => ?_
  rw [am_length, List.length_replicate] at hj
  rw [am_at _ _ _ _ (by rw [List.length_replicate]; exact hj), at0_map _ _ _ hj]
  have e : at0 (List.replicate T.length 0#8) j = 0#8 := by
    unfold at0
    simp [List.getD_eq_getElem?_getD, hj]
  rw [e, BitVec.zero_xor]
theorem dM_snoc (k m i : Nat) (T : List B) (r : Nat) : dM k m i T r ++ [(List.range T.length).map fun b => mul (at0 T b) (el (cauM k m) (k + r) i)] = dM k m i T (r + 1) := by
  unfold dM
  rw [List.range_succ, List.map_append]
  rfl
theorem row_drop (A : Mat) (k i : Nat) : row (A.drop k) i = row A (k + i) := by
  unfold row
  rw [List.getD_eq_getElem?_getD, List.getElem?_drop, List.getD_eq_getElem?_getD]
theorem oM_drop (A : Mat) (k : Nat) : (oM A).drop k = oM (A.drop k) := by unfold oM; rw [List.map_drop]
theorem delta_l0 {k m i : Nat} (hk : 1 ≤ k) (h : k + m ≤ 255) (hi : i < k) (T : List B) (hT : T.length < 2 ^ 48) (d : Nat) : ∀ p : Nat, p + d = m →
    Ev (fun f => code_Delta.l0 f (i : Int) (ofL T) (oM (dM k m i T p)) (oM ((cauM k m).drop k)) (m : Int) (p : Int)) (oM (dM k m i T m), 0) := by
  have hC := cauM_reg k m
  have hl : ((cauM k m).drop k).length = m := by rw [List.length_drop, hC.1]; omega
  induction d with
  | zero =>
    intro p hp
    obtain rfl : p = m := by omega
    refine Ev.step (f := fun _ => some (oM (dM k p i T p), 0)) (fun f => ?_) (Ev.now _)
    simp only [code_Delta.l0]
    rw [if_neg (by omega)]
  | succ d ih =>
    intro p hp
    have hr : row ((cauM k m).drop k) p = row (cauM k m) (k + p) := row_drop _ _ _
    have hrl : (row (cauM k m) (k + p)).length = k := hC.2 _ (by omega)
    refine Ev.step (f := fun f => (gf_AddMul.f f (ofL (List.replicate T.length 0#8)) (ofL T) (ofB (el (cauM k m) (k + p) i))).bind fun bt118 => code_Delta.l0 f (i : Int) (ofL T) (oM (dM k m i T p) ++ [bt118.1]) (oM ((cauM k m).drop k)) (m : Int) ((p + 1 : Nat) : Int)) (fun f => ?_) ?_
    · simp only [code_Delta.l0, ofL_length, oM_length, rd_oM, hr, Int.toNat_natCast, ofL_replicate]
      rw [if_pos (by omega), if_pos (by omega), if_pos (by rw [hl]; omega), if_pos (by omega), if_pos (by omega), if_pos (by omega), if_pos (by rw [hrl]; omega), w64 ((p : Int) + 1) (by omega) (by omega), rd_ofL]
      simp only [show (dM k m i T p).length < 5864062014805 from by rw [(dM_reg k m i T p).1]; omega, if_true]
      rfl
    · refine Ev.bind (gfAddMul _ _ _ (by rw [List.length_replicate]; omega)) ?_
      unfold addMulB
      rw [if_pos (List.length_replicate ..), am_dM]
      show Ev (fun f => code_Delta.l0 f (i : Int) (ofL T) (oM (dM k m i T p) ++ oM [_]) (oM ((cauM k m).drop k)) (m : Int) ((p + 1 : Nat) : Int)) _
      rw [oM_append, dM_snoc]
      exact ih (p + 1) (by omega)
def deltaR (a b i : Int) (O F : List B) : List (List Int) × Int := if codeB a b = true ∧ 0 ≤ i ∧ i < a ∧ O.length = F.length then (oM (dM a.toNat b.toNat i.toNat (xorL O F) b.toNat), 0) else ([], 1)
theorem evDelta (a b i : Int) (ha : -9223372036854775808 ≤ a) (O F : List B) (hO : O.length < 2 ^ 48) : Ev (fun f => code_Delta.f f a b i (ofL O) (ofL F)) (deltaR a b i O F) := by
  have no : ∀ (x0 : Int) X Y, Ev (fun f => code_Delta.j0 f x0 i X Y true) (([] : List (List Int)), (1 : Int)) := fun x0 X Y =>
    Ev.step (f := fun _ => some ([], 1)) (fun f => by simp only [code_Delta.j0, if_true]) (Ev.now _)
  unfold code_Delta.f deltaR
  refine Ev.bind (evCauchy a b ha) ?_
  refine Ev.bind (gfAddMul O F 1#8 hO) ?_
  rcases codeB_form a b with ⟨h1, k, m, rfl, rfl, hk, hm, h, e⟩ | ⟨h1, e⟩
  · simp only [e, h1, if_true, true_and]
    by_cases h2 : i < 0
    · rw [if_neg (by omega)]
      simp only [if_pos h2]
      exact no _ _ _
    · simp only [if_neg h2]
      by_cases h3 : i ≥ (k : Int)
      · rw [if_neg (by omega)]
        simp only [if_pos h3]
        exact no _ _ _
      · simp only [if_neg h3]
        unfold addMulB
        by_cases h4 : O.length = F.length
        · simp only [if_pos h4, Bool.not_true]
          rw [if_pos ⟨by omega, by omega, h4⟩]
          obtain ⟨n, rfl⟩ := Int.eq_ofNat_of_zero_le (show 0 ≤ i by omega)
          simp only [Int.toNat_natCast]
          have hC := cauM_reg k m
          have hl : ((cauM k m).drop k).length = m := by rw [List.length_drop, hC.1]; omega
          have := delta_l0 (k := k) (m := m) (i := n) hk h (by omega) (xorL O F) (by rw [xorL_length]; exact hO) m 0 (by omega)
          refine Ev.step (f := fun f => code_Delta.l0 f (n : Int) (ofL (xorL O F)) (oM (dM k m n (xorL O F) 0)) (oM ((cauM k m).drop k)) (m : Int) ((0 : Nat) : Int)) (fun f => ?_) this
          simp only [code_Delta.j0, Bool.false_eq_true, if_false]
          rw [if_pos (by omega), if_pos (by rw [oM_length, hC.1]; omega), Option.bind_some, Int.toNat_natCast, oM_drop, oM_length, hl]
          rfl
        · simp only [if_neg h4, Bool.not_false]
          rw [if_neg (fun hh => h4 hh.2.2)]
          exact no _ _ _
  · simp only [e, h1, Bool.false_eq_true, false_and, if_false, show ((1 : Int) = 0) = False from eq_false (by decide)]
    exact no _ _ _
/-- The first r shards behind a turn. -/
def apM (k i : Nat) (S : Mat) (F : List B) (D : Mat) (r : Nat) : Mat := (List.range r).map fun j => if j = i then F else if k ≤ j then xorL (row S j) (row D (j - k)) else row S j
theorem apM_snoc (k i : Nat) (S : Mat) (F : List B) (D : Mat) (r : Nat) : apM k i S F D r ++ [if r = i then F else if k ≤ r then xorL (row S r) (row D (r - k)) else row S r] = apM k i S F D (r + 1) := by
  unfold apM
  rw [List.range_succ, List.map_append]
  rfl
theorem apM_length (k i : Nat) (S : Mat) (F : List B) (D : Mat) (r : Nat) : (apM k i S F D r).length = r := by simp [apM]
theorem clone_eq (L : List B) (h : L.length < 140737488355328) : slices_Clone_byte_byte.f (ofL L) = some (ofL L) := by
  unfold slices_Clone_byte_byte.f
  rw [ofL_length, if_pos h]
theorem apply_l0 {k m p i : Nat} (hk : 1 ≤ k) (h : k + m ≤ 255) {S : Mat} (hS : Reg S (k + m) p) {F : List B} (hF : F.length < 140737488355328) (hp : p < 140737488355328) {D : Mat} (hD : Reg D m p) (d : Nat) : ∀ j : Nat, j + d = k + m →
    Ev (fun f => code_Apply.l0 f (k : Int) (i : Int) (ofL F) (oM D) (oM (apM k i S F D j)) (oM S) ((k + m : Nat) : Int) (j : Int)) (oM (apM k i S F D (k + m)), 0) := by
  induction d with
  | zero =>
    intro j hj
    obtain rfl : j = k + m := by omega
    refine Ev.step (f := fun _ => some (oM (apM k i S F D (k + m)), 0)) (fun f => ?_) (Ev.now _)
    simp only [code_Apply.l0]
    rw [if_neg (by omega)]
  | succ d ih =>
    intro j hj
    have hjl : (row S j).length = p := hS.2 j (by omega)
    have hn := ih (j + 1) (by omega)
    rw [← apM_snoc] at hn
    have lim : (oM (apM k i S F D j)).length < 5864062014805 := by rw [oM_length, apM_length]; omega
    have wj : wrap64 ((j : Int) + 1) = ((j + 1 : Nat) : Int) := w64 _ (by omega) (by omega)
    by_cases h1 : j = i
    · rw [if_pos h1] at hn
      refine Ev.step (f := fun f => code_Apply.l0 f (k : Int) (i : Int) (ofL F) (oM D) (oM (apM k i S F D j ++ [F])) (oM S) ((k + m : Nat) : Int) ((j + 1 : Nat) : Int)) (fun f => ?_) hn
      simp only [code_Apply.l0]
      rw [if_pos (by omega), if_pos (by omega), if_pos (by rw [oM_length, hS.1]; omega), if_pos (by omega), clone_eq _ hF, Option.bind_some, if_pos lim, wj, oM_one, oM_append]
    · rw [if_neg h1] at hn
      by_cases h2 : k ≤ j
      · rw [if_pos h2] at hn
        have wk : wrap64 ((j : Int) - (k : Int)) = ((j - k : Nat) : Int) := by rw [w64 _ (by omega) (by omega)]; omega
        have hdl : (row D (j - k)).length = p := hD.2 _ (by omega)
        refine Ev.step (f := fun f => (gf_AddMul.f f (ofL (row S j)) (ofL (row D (j - k))) 1).bind fun bt116 => code_Apply.l0 f (k : Int) (i : Int) (ofL F) (oM D) (oM (apM k i S F D j) ++ [bt116.1]) (oM S) ((k + m : Nat) : Int) ((j + 1 : Nat) : Int)) (fun f => ?_) ?_
        · simp only [code_Apply.l0]
          rw [if_pos (by omega), if_pos (by omega), if_pos (by rw [oM_length, hS.1]; omega), if_neg (by omega), if_pos (by omega), wk, if_pos (by omega), if_pos (by rw [oM_length, hD.1]; omega), rd_oM, rd_oM, wj]
          simp only [lim, if_true]
        · refine Ev.bind (gfAddMul (row S j) (row D (j - k)) 1#8 (by omega)) ?_
          unfold addMulB
          rw [if_pos (by rw [hjl, hdl])]
          show Ev (fun f => code_Apply.l0 f (k : Int) (i : Int) (ofL F) (oM D) (oM (apM k i S F D j) ++ oM [_]) (oM S) ((k + m : Nat) : Int) ((j + 1 : Nat) : Int)) _
          rw [oM_append]
          exact hn
      · rw [if_neg h2] at hn
        refine Ev.step (f := fun f => code_Apply.l0 f (k : Int) (i : Int) (ofL F) (oM D) (oM (apM k i S F D j ++ [row S j])) (oM S) ((k + m : Nat) : Int) ((j + 1 : Nat) : Int)) (fun f => ?_) hn
        simp only [code_Apply.l0]
        rw [if_pos (by omega), if_pos (by omega), if_pos (by rw [oM_length, hS.1]; omega), if_neg (by omega), if_neg (by omega), rd_oM, clone_eq _ (by omega), Option.bind_some, if_pos lim, wj, oM_one, oM_append]
/-- Apply on a codeword. -/
theorem evApply {k m p : Nat} (hk : 1 ≤ k) (hm : 1 ≤ m) (h : k + m ≤ 255) (hc : codeB (k : Int) (m : Int) = true) {X : Mat} (hX : Reg X k p) (hp : p < 140737488355328) (i : Int) (F : List B) (hF : F.length < 140737488355328) :
    Ev (fun f => code_Apply.f f (k : Int) (m : Int) (oM (mulM (cauM k m) X)) i (ofL F)) (if 0 ≤ i ∧ i < (k : Int) ∧ p = F.length then (oM (apM k i.toNat (mulM (cauM k m) X) F (dM k m i.toNat (xorL (row X i.toNat) F) m) (k + m)), 0) else ([], 1)) := by
  have hL := mulM_reg (cauM_reg k m) hX hk
  have htake : (mulM (cauM k m) X).take k = X := by rw [mulM_take (cauM_reg k m) hX hk (Nat.le_add_right k m), cauM_take, mulM_id hX hk]
  have hrow : ∀ j, j < k → row (mulM (cauM k m) X) j = row X j := fun j hj => by rw [← row_take3 _ k j hj, htake]
  have hchk := chk_code hk hm h hX htake hc
  generalize mulM (cauM k m) X = L at *
  have no : Ev (fun f => code_Apply.j0 f (k : Int) (m : Int) (oM L) i (ofL F) true) (([] : List (List Int)), (1 : Int)) :=
    Ev.step (f := fun _ => some ([], 1)) (fun f => by simp only [code_Apply.j0, if_true]) (Ev.now _)
  unfold code_Apply.f
  refine Ev.bind (evCheck3 (k : Int) (m : Int) (by omega) L (fun i hi => by rw [hL.2 i (by rw [← hL.1]; exact hi)]; omega)) ?_
  simp only [hchk, if_true]
  by_cases h2 : i < 0
  · rw [if_neg (by omega)]
    simp only [if_pos h2]
    exact no
  · simp only [if_neg h2]
    by_cases h3 : i ≥ (k : Int)
    · rw [if_neg (by omega), decide_eq_true h3]
      exact no
    · rw [decide_eq_false h3]
      obtain ⟨n, rfl⟩ := Int.eq_ofNat_of_zero_le (show 0 ≤ i by omega)
      have hn : n < k := by omega
      refine Ev.step (f := fun f => (code_Delta.f f (k : Int) (m : Int) (n : Int) (ofL (row L n)) (ofL F)).bind fun bt104 => (if bt104.2 = 0 then (code_Apply.l0 f (k : Int) (n : Int) (ofL F) bt104.1 ([] : List (List Int)) (oM L) ((oM L).length : Int) 0) else (some (([] : List (List Int)), bt104.2)))) (fun f => ?_) ?_
      · simp only [code_Apply.j0, Bool.false_eq_true, if_false]
        rw [if_pos (by omega), if_pos (by rw [oM_length, hL.1]; omega), rd_oM]
      · refine Ev.bind (evDelta (k : Int) (m : Int) (n : Int) (by omega) (row L n) F (by rw [hL.2 n (by omega)]; omega)) ?_
        unfold deltaR
        rw [hrow n hn, hX.2 n hn]
        by_cases h4 : p = F.length
        · rw [if_pos ⟨hc, by omega, by omega, h4⟩, if_pos ⟨by omega, by omega, h4⟩]
          simp only [if_true, Int.toNat_natCast, oM_length, hL.1]
          have hD := dM_reg k m n (xorL (row X n) F) m
          rw [xorL_length, hX.2 n hn] at hD
          exact apply_l0 hk h hL hF hp hD (k + m) 0 (by omega)
        · rw [if_neg (fun hh => h4 hh.2.2.2), if_neg (fun hh => h4 hh.2.2)]
          simp only [show ((1 : Int) = 0) = False from eq_false (by decide), if_false]
          exact Ev.now _
/-- The codeword of the turned data: elementwise. -/
theorem el_set {X : Mat} {k p i : Nat} (hX : Reg X k p) (hi : i < k) (F : List B) (l b : Nat) (hb : b < p) : el (X.set i F) l b = el X l b ^^^ (if l = i then at0 (xorL (row X i) F) b else 0#8) := by
  unfold el
  by_cases h : l = i
  · subst h
    have e : row (X.set l F) l = F := by
      unfold row
      rw [List.getD_eq_getElem?_getD, List.getElem?_set, if_pos rfl, if_pos (by rw [hX.1]; exact hi)]
      rfl
    rw [if_pos rfl, e, at0_xorL _ _ _ (by rw [hX.2 l hi]; exact hb), ← BitVec.xor_assoc, BitVec.xor_self, BitVec.zero_xor]
  · have e : row (X.set i F) l = row X l := by
      unfold row
      rw [List.getD_eq_getElem?_getD, List.getElem?_set, if_neg (fun e => h e.symm), List.getD_eq_getElem?_getD]
    rw [if_neg h, e, BitVec.xor_zero]
theorem set_reg {X : Mat} {k p i : Nat} (hX : Reg X k p) {F : List B} (hF : F.length = p) : Reg (X.set i F) k p := by
  refine ⟨by rw [List.length_set]; exact hX.1, fun l hl => ?_⟩
  unfold row
  rw [List.getD_eq_getElem?_getD, List.getElem?_set]
  by_cases h : i = l
  · subst h
    rw [if_pos rfl, if_pos (by rw [hX.1]; exact hl)]
    exact hF
  · rw [if_neg h, ← List.getD_eq_getElem?_getD]
    exact hX.2 l hl
theorem el_turned {k m p i : Nat} (hk : 1 ≤ k) {X : Mat} (hX : Reg X k p) (hi : i < k) {F : List B} (hF : F.length = p) (j b : Nat) (hj : j < k + m) (hb : b < p) :
    el (mulM (cauM k m) (X.set i F)) j b = el (mulM (cauM k m) X) j b ^^^ mul (at0 (xorL (row X i) F) b) (el (cauM k m) j i) := by
  rw [el_mulM (cauM_reg k m) (set_reg hX hF) hk hj hb, el_mulM (cauM_reg k m) hX hk hj hb]
  unfold mm
  rw [sm_congr (g := fun l => mul (el (cauM k m) j l) (el X l b) ^^^ mul (el (cauM k m) j l) (if l = i then at0 (xorL (row X i) F) b else 0#8)) (fun l hl => by rw [el_set hX hi F l b hb, mul_add]), sm_add]
  rw [sm_single (i := i) (f := fun l => mul (el (cauM k m) j l) (if l = i then at0 (xorL (row X i) F) b else 0#8)) hi (fun l hl hne => by rw [if_neg hne, mul_zero])]
  rw [if_pos rfl, mul_comm (el (cauM k m) j i)]
theorem apM_turned {k m p i : Nat} (hk : 1 ≤ k) {X : Mat} (hX : Reg X k p) (hi : i < k) {F : List B} (hF : F.length = p) :
    apM k i (mulM (cauM k m) X) F (dM k m i (xorL (row X i) F) m) (k + m) = mulM (cauM k m) (X.set i F) := by
  have hL := mulM_reg (cauM_reg k m) hX hk
  have hL' := mulM_reg (cauM_reg k m) (set_reg (i := i) hX hF) hk
  have hD := dM_reg k m i (xorL (row X i) F) m
  rw [xorL_length, hX.2 i hi] at hD
  have hr : ∀ j, j < k + m → row (apM k i (mulM (cauM k m) X) F (dM k m i (xorL (row X i) F) m) (k + m)) j = if j = i then F else if k ≤ j then xorL (row (mulM (cauM k m) X) j) (row (dM k m i (xorL (row X i) F) m) (j - k)) else row (mulM (cauM k m) X) j := fun j hj => by
    unfold apM
    rw [row_map _ _ _ hj]
  have htop : ∀ {Y : Mat}, Reg Y k p → ∀ j, j < k → row (mulM (cauM k m) Y) j = row Y j := fun hY j hj => by
    rw [← row_take3 _ k j hj, mulM_take (cauM_reg k m) hY hk (Nat.le_add_right k m), cauM_take, mulM_id hY hk]
  have hrow : ∀ j, j < k + m → row (apM k i (mulM (cauM k m) X) F (dM k m i (xorL (row X i) F) m) (k + m)) j = row (mulM (cauM k m) (X.set i F)) j := fun j hj => by
    rw [hr j hj]
    by_cases h1 : j = i
    · subst h1
      rw [if_pos rfl, htop (set_reg hX hF) j hi]
      unfold row
      rw [List.getD_eq_getElem?_getD, List.getElem?_set, if_pos rfl, if_pos (by rw [hX.1]; exact hi)]
      rfl
    · rw [if_neg h1]
      by_cases h2 : k ≤ j
      · rw [if_pos h2]
        refine ext0 (by rw [xorL_length, hL.2 j hj, hL'.2 j hj]) fun b hb => ?_
        rw [xorL_length] at hb
        have hb' : b < p := by rw [← hL.2 j hj]; exact hb
        have e1 := el_turned hk hX hi hF j b hj hb'
        unfold el at e1
        rw [e1, at0_xorL _ _ _ hb, row_dM _ _ _ _ _ _ (by omega), at0_map _ _ _ (by rw [xorL_length, hX.2 i hi]; exact hb'), show k + (j - k) = j by omega]
        rfl
      · rw [if_neg h2, htop hX j (by omega), htop (set_reg hX hF) j (by omega)]
        refine Eq.symm ?_
        unfold row
        rw [List.getD_eq_getElem?_getD, List.getElem?_set, if_neg (fun e => h1 e.symm), List.getD_eq_getElem?_getD]
  refine mat_ext (n := k + m) (m := p) ⟨apM_length .., fun j hj => by rw [hrow j hj]; exact hL'.2 j hj⟩ hL' fun j b hj hb => ?_
  unfold el
  rw [hrow j hj]
end Go.Proofs.Ytbogmlckbkogiaa.Pure
namespace Go.Proofs.Ytbogmlckbkogiaa.Red
open Go.RowKit Go.Proofs.YtbogmlckbkogiaaW.PrintWords Go.Proofs.Ytbogmlckbkogiaa.Leaf Go.Proofs.Ytbogmlckbkogiaa.Gf Go.Proofs.Ytbogmlckbkogiaa.H Go.Proofs.Ytbogmlckbkogiaa.Mx Go.Proofs.Ytbogmlckbkogiaa.P
set_option linter.unusedVariables false
set_option linter.unusedSimpArgs false
def ixS (k i x : Nat) : Nat := (x / 16 * k + i) * 16 + x % 16
theorem ix_eq (k i x : Nat) (hk : k ≤ 254) (hi : i ≤ 254) (hx : x ≤ 70000) : (wrap64 ((wrap64 ((wrap64 ((wrap64 ((wrap64 (Int.tdiv (x : Int) 16)) * (k : Int))) + (i : Int))) * 16)) + (Int.tmod (x : Int) 16))) = ((ixS k i x : Nat) : Int) := by
  have h1 : x / 16 * k ≤ 70000 * 254 := Nat.mul_le_mul (by omega) hk
  rw [Int.tdiv_eq_ediv_of_nonneg (by omega), Int.tmod_eq_emod_of_nonneg (by omega), w64 ((x : Int) / 16) (by omega) (by omega)]
  have e1 : ((x : Int) / 16) * (k : Int) = ((x / 16 * k : Nat) : Int) := by rw [Int.natCast_mul, Int.natCast_ediv]; rfl
  rw [e1]
  unfold ixS
  generalize x / 16 * k = q at *
  rw [w64 (q : Int) (by omega) (by omega), w64 ((q : Int) + (i : Int)) (by omega) (by omega), w64 (((q : Int) + (i : Int)) * 16) (by omega) (by omega), w64 _ (by omega) (by omega)]
  omega
def rowS (k : Nat) (L : List B) (i : Nat) (n : Nat) : List B := (List.range n).map fun x => at0 L (ixS k i x)
theorem rowS_eq (k n : Nat) (L : List B) (i : Nat) (hn : n % 16 = 0) : rowS k L i n = spR k n L i (n / 16) := by
  unfold rowS spR
  refine List.map_congr_left fun x hx => ?_
  rw [if_pos (by have := List.mem_range.1 hx; omega)]
  rfl
theorem split_l1 (k n : Nat) (L : List B) (hL : L.length ≤ 4096) (hk : k ≤ 254) (hn : n ≤ 70000) (hn16 : n % 16 = 0) (b : Int) (r : List (List Int) × Int) (i : Nat) (hi : i < k) (X : List (List Int)) (hX : X.length ≤ 255)
    (hnext : Ev (fun f => mooringref20_Split.l0 f (k : Int) b (ofL L) (n : Int) (X ++ [ofL (spR k n L i (n / 16))]) ((i + 1 : Nat) : Int)) r) (d : Nat) : ∀ x : Nat, x + d = n →
    Ev (fun f => mooringref20_Split.l1 f (k : Int) b (ofL L) (n : Int) X (i : Int) (ofL (rowS k L i x)) (x : Int)) r := by
  induction d with
  | zero =>
    intro x hx
    obtain rfl : x = n := by omega
    refine Ev.step (f := fun f => mooringref20_Split.l0 f (k : Int) b (ofL L) (x : Int) (X ++ [ofL (spR k x L i (x / 16))]) ((i + 1 : Nat) : Int)) (fun f => ?_) hnext
    simp only [mooringref20_Split.l1]
    rw [if_neg (by omega), if_pos (by omega), rowS_eq k x L i hn16, w64 _ (by omega) (by omega)]
    rfl
  | succ d ih =>
    intro x hx
    refine Ev.step (f := fun f => mooringref20_Split.l1 f (k : Int) b (ofL L) (n : Int) X (i : Int) (ofL (rowS k L i (x + 1))) ((x + 1 : Nat) : Int)) (fun f => ?_) (ih (x + 1) (by omega))
    have hl : (rowS k L i x).length = x := by simp [rowS]
    have e : ofL (rowS k L i x) ++ [ofB (at0 L (ixS k i x))] = ofL (rowS k L i (x + 1)) := by
      unfold rowS
      rw [List.range_succ, List.map_append]
      unfold ofL
      rw [List.map_append]
      rfl
    simp only [mooringref20_Split.l1, ix_eq k i x hk (by omega) (by omega), ofL_length, hl, rd_ofL]
    rw [if_pos (by omega), w64 ((x : Int) + 1) (by omega) (by omega)]
    by_cases h : ixS k i x < L.length
    · rw [if_pos (by omega), if_pos (by omega), if_pos (by omega), e]
      rfl
    · rw [if_neg (by omega), if_pos (by omega)]
      have : (0 : Int) = ofB (at0 L (ixS k i x)) := by rw [at0_out _ _ (by omega)]; rfl
      rw [this, e]
      rfl
theorem split_l0 (k n : Nat) (L : List B) (hL : L.length ≤ 4096) (hk : k ≤ 254) (hn : n ≤ 70000) (hn16 : n % 16 = 0) (b : Int) (d : Nat) : ∀ i : Nat, i + d = k →
    Ev (fun f => mooringref20_Split.l0 f (k : Int) b (ofL L) (n : Int) (rowsTo k n L i) (i : Int)) (encR (k : Int) b (spM k n L)) := by
  induction d with
  | zero =>
    intro i hi
    obtain rfl : i = k := by omega
    refine Ev.step (f := fun f => (mooringref03_Encode.f f (i : Int) b (oM (spM i n L))).bind fun bt107 => some (bt107.1, bt107.2)) (fun f => ?_) ?_
    · simp only [mooringref20_Split.l0]
      rw [if_neg (by omega), rowsTo_all]
    · refine Ev.bind (evRefEncode (i : Int) b (by omega) (spM i n L) (by rw [(spM_reg i n L).1]; omega) (fun j hj => by rw [(spM_reg i n L).1] at hj; rw [(spM_reg i n L).2 j hj]; omega)) ?_
      exact Ev.now _
  | succ d ih =>
    intro i hi
    refine Ev.step (f := fun f => mooringref20_Split.l1 f (k : Int) b (ofL L) (n : Int) (rowsTo k n L i) (i : Int) (ofL (rowS k L i 0)) ((0 : Nat) : Int)) (fun f => ?_) (split_l1 k n L hL hk hn hn16 b _ i (by omega) _ (by rw [rowsTo_length]; omega) (by rw [rowsTo_next]; exact ih (i + 1) (by omega)) n 0 (by omega))
    simp only [mooringref20_Split.l0]
    rw [if_pos (by omega)]
    rfl
theorem evRefSplit (a b : Int) (ha : -9223372036854775808 ≤ a) (L : List B) (hL : L.length ≤ 9223372036854775807) : Ev (fun f => mooringref20_Split.f f a b (ofL L)) (splR a b L) := by
  unfold mooringref20_Split.f splR
  simp only [code_eq a b ha, Option.bind_some]
  cases h1 : codeB a b with
  | false =>
    simp only [Bool.false_eq_true, if_false]
    exact Ev.now _
  | true =>
    obtain ⟨k, m, rfl, rfl, hk, hm, hkm⟩ := code_form h1
    simp only [if_true, ofL_length, Int.toNat_natCast]
    refine Ev.bind (evRefLength (k : Int) (L.length : Int)) ?_
    unfold lenR
    rw [if_pos (by omega)]
    by_cases h2 : L.length > 4096
    · rw [if_pos (by omega), if_pos h2]
      simp only [show ((3 : Int) = 0) = False from eq_false (by decide), if_false]
      exact Ev.now _
    · rw [if_neg (by omega), if_neg h2]
      simp only [if_true, Int.toNat_natCast]
      have hle := nS_le k L.length (by omega)
      exact split_l0 k (lenS k L.length) L (by omega) (by omega) (by unfold lenS; omega) (by unfold lenS; omega) (m : Int) k 0 (by omega)
/-- What Split tells, where it tells shards. -/
theorem splR_yes {k m : Nat} (hk : 1 ≤ k) (hm : 1 ≤ m) (hkm : k + m ≤ 255) (L : List B) (hL : L.length ≤ 4096) : splR (k : Int) (m : Int) L = (oM (mulM (cauM k m) (spM k (lenS k L.length) L)), 0) ∧ Reg (mulM (cauM k m) (spM k (lenS k L.length) L)) (k + m) (lenS k L.length) := by
  have hc : codeB (k : Int) (m : Int) = true := by unfold codeB; simp; omega
  have hD := spM_reg k (lenS k L.length) L
  refine ⟨?_, mulM_reg (cauM_reg k m) hD (by omega)⟩
  unfold splR encR
  rw [if_pos hc, if_neg (by omega), Int.toNat_natCast, Int.toNat_natCast, if_pos ⟨hc, (evenB_iff _ k).2 (by rw [hD.2 0 (by omega)]; exact hD)⟩]
theorem evAwake20 : Ev (fun k => mooringlaw20_awake.f k) true := by
  unfold mooringlaw20_awake.f
  simp only [show (20 ≤ 281474976710656) = True from eq_true (by decide), if_true]
  have e : (List.replicate 20 (0 : Int)) = ofL (List.replicate 20 0#8) := ofL_replicate 20
  rw [e]
  obtain ⟨h1, h2⟩ := splR_yes (k := 2) (m := 1) (by omega) (by omega) (by omega) (List.replicate 20 0#8) (by decide)
  have hf : stripe_Split.f 2 1 (ofL (List.replicate 20 0#8)) = some (splR ((2 : Nat) : Int) ((1 : Nat) : Int) (List.replicate 20 0#8)) := stripe_Split.f_ofL 2 1 (by decide) _
  rw [hf, h1]
  simp only [Option.bind_some]
  refine Ev.bind (evLength 2 33) ?_
  have e2 : lenR 2 33 = (32, 0) := by decide +kernel
  have hr0 := h2.2 0 (by omega)
  rw [show lenS 2 (List.replicate 20 0#8).length = 16 by decide +kernel] at h2 hr0 ⊢
  rw [e2]
  simp only [oM_length, h2.1, rd_oM0, ofL_length, hr0]
  exact Ev.now _
theorem light20 (a b : Int) (ha : -9223372036854775808 ≤ a) : ∃ x, mooringlaw20_light.f a b = some x := by
  unfold mooringlaw20_light.f
  rw [code_eq a b ha, Option.bind_some]
  cases codeB a b with
  | false => exact ⟨true, rfl⟩
  | true => exact ⟨_, rfl⟩
end Go.Proofs.Ytbogmlckbkogiaa.Red
namespace Go.Proofs.Ytbogmlckbkogiaa.Pure
open Go.RowKit Go.Proofs.YtbogmlckbkogiaaW.PrintWords Go.Proofs.Ytbogmlckbkogiaa.Leaf Go.Proofs.Ytbogmlckbkogiaa.P Go.Proofs.Ytbogmlckbkogiaa.Gf Go.Proofs.Ytbogmlckbkogiaa.Red Go.Proofs.Ytbogmlckbkogiaa.H Go.Proofs.Ytbogmlckbkogiaa.Mx
set_option linter.unusedSimpArgs false
set_option linter.unusedVariables false
theorem ix_at {k i x t : Nat} (hi : i < k) (h : (x / 16 * k + i) * 16 + x % 16 = t) : t / 16 % k = i := by
  have h1 : t / 16 = x / 16 * k + i := by omega
  rw [h1, Nat.add_comm, Nat.add_mul_mod_self_right, Nat.mod_eq_of_lt hi]
theorem spM_turn (k n : Nat) (hk : 0 < k) (L : List B) (t : Nat) (c : B) (ht : t < L.length) : spM k n (L.set t c) = (spM k n L).set (t / 16 % k) (row (spM k n (L.set t c)) (t / 16 % k)) := by
  have h1 := spM_reg k n (L.set t c)
  have hi : t / 16 % k < k := Nat.mod_lt _ hk
  have h2 := set_reg (i := t / 16 % k) (spM_reg k n L) (h1.2 _ hi)
  have hrow : ∀ j, j < k → row (spM k n (L.set t c)) j = row ((spM k n L).set (t / 16 % k) (row (spM k n (L.set t c)) (t / 16 % k))) j := fun j hj => by
    have e : row ((spM k n L).set (t / 16 % k) (row (spM k n (L.set t c)) (t / 16 % k))) j = if t / 16 % k = j then row (spM k n (L.set t c)) (t / 16 % k) else row (spM k n L) j := by
      unfold row
      rw [List.getD_eq_getElem?_getD, List.getElem?_set]
      by_cases h : t / 16 % k = j
      · rw [if_pos h, if_pos h, if_pos (by rw [(spM_reg k n L).1]; exact hi)]
        rfl
      · rw [if_neg h, if_neg h, List.getD_eq_getElem?_getD]
    rw [e]
    by_cases h : t / 16 % k = j
    · rw [if_pos h, h]
    · rw [if_neg h]
      unfold spM
      rw [row_map _ _ _ hj, row_map _ _ _ hj]
      unfold spR
      refine List.map_congr_left fun x hx => ?_
      by_cases hx2 : x < n / 16 * 16
      · rw [if_pos hx2, if_pos hx2, at0_set _ _ _ _ ht, if_neg (fun e => h (ix_at hj e.symm))]
      · rw [if_neg hx2, if_neg hx2]
  refine mat_ext h1 h2 fun i j hi hj => ?_
  unfold el
  rw [hrow i hi]
theorem StripeTurns (K : Int) (wK : (Lit.int .i64 K).wf = true) (M : Int) (wM : (Lit.int .i64 M).wf = true) (L : List B) (hL : L.length ≤ 140737488351232) (H : List Bool) (hH : H.length ≤ 140737488351232)
    (t : Int) (wt : (Lit.int .i64 t).wf = true) (b : Int) (wb : (Lit.int .u8 b).wf = true) : Ev (fun k => mooringlaw20_StripeTurns.f k K M (ofL L) H t b) true := by
  have ha := bounds_i64 wK
  have hb : 0 ≤ b ∧ b < 256 := by
    have h1 : 0 ≤ b ∧ b ≤ 255 := by simpa [Lit.wf, IntKind.min, IntKind.max, IntKind.signed, IntKind.bits] using wb
    omega
  unfold mooringlaw20_StripeTurns.f
  refine Ev.bind (evRefSplit K M ha.1 L (by omega)) ?_
  have no : ∀ Z, Ev (fun k => mooringlaw20_StripeTurns.j0 k t b Z true K M (ofL L) H) true := fun Z =>
    Ev.step (f := fun k => (mooringlaw20_awake.f k).bind fun t107 => (some t107)) (fun k => by simp only [mooringlaw20_StripeTurns.j0, if_true]) (Ev.bind evAwake20 (Ev.now _))
  rcases codeB_form K M with ⟨h1, k, m, rfl, rfl, hk, hm2, h, e⟩ | ⟨h1, e⟩
  · by_cases h4 : L.length > 4096
    · unfold splR
      rw [if_pos h1, if_pos h4]
      simp only [show ((3 : Int) = 0) = False from eq_false (by decide), if_false]
      exact no _
    · obtain ⟨e1, hR⟩ := splR_yes hk hm2 h L (by omega)
      rw [e1]
      obtain ⟨x, hx⟩ := light20 (k : Int) (m : Int) ha.1
      simp only [if_true, hx, Option.bind_some]
      cases x with
      | false => simp only [Bool.false_eq_true, if_false]; exact no _
      | true =>
        simp only [if_true, ofL_length]
        by_cases h15 : (L.length : Int) > 1500
        · simp only [if_pos h15]; exact no _
        · simp only [if_neg h15]
          by_cases ht0 : t < 0
          · simp only [if_pos ht0]; exact no _
          · simp only [if_neg ht0]
            by_cases ht1 : t ≥ (L.length : Int)
            · rw [decide_eq_true ht1]; exact no _
            · rw [decide_eq_false ht1]
              obtain ⟨n, rfl⟩ := Int.eq_ofNat_of_zero_le (show 0 ≤ t by omega)
              obtain ⟨c, rfl⟩ : ∃ c, b = ofB c := ⟨toB b, (ofB_toB b hb.1 hb.2).symm⟩
              have hn : n < L.length := by omega
              have hl2 : (L.set n (at0 L n ^^^ c)).length = L.length := List.length_set ..
              have htd : wrap64 (Int.tdiv (n : Int) 16) = ((n / 16 : Nat) : Int) := by
                have e0 : Int.tdiv (n : Int) 16 = ((n / 16 : Nat) : Int) := (Int.ofNat_tdiv n 16).symm
                rw [e0]
                exact w64 _ (by omega) (by omega)
              have htm : Int.tmod (wrap64 (Int.tdiv (n : Int) 16)) (k : Int) = ((n / 16 % k : Nat) : Int) := by
                rw [htd]
                exact (Int.ofNat_tmod (n / 16) k).symm
              obtain ⟨e2, hR2⟩ := splR_yes hk hm2 h (L.set n (at0 L n ^^^ c)) (by omega)
              have hX := spM_reg k (lenS k L.length) L
              have hX2 := spM_reg k (lenS k L.length) (L.set n (at0 L n ^^^ c))
              have hturn := spM_turn k (lenS k L.length) hk L n (at0 L n ^^^ c) hn
              rw [hl2] at e2 hR2
              have hi : n / 16 % k < k := Nat.mod_lt _ hk
              have hp : lenS k L.length < 140737488355328 := by
                have := nS_le k L.length hk
                unfold lenS
                omega
              have hF := hX2.2 _ hi
              have hrow : row (mulM (cauM k m) (spM k (lenS k L.length) (L.set n (at0 L n ^^^ c)))) (n / 16 % k) = row (spM k (lenS k L.length) (L.set n (at0 L n ^^^ c))) (n / 16 % k) := by
                rw [← row_take3 _ k _ hi, mulM_take (cauM_reg k m) hX2 hk (Nat.le_add_right k m), cauM_take, mulM_id hX2 hk]
              have hA := evApply hk hm2 h h1 hX hp ((n / 16 % k : Nat) : Int) (row (spM k (lenS k L.length) (L.set n (at0 L n ^^^ c))) (n / 16 % k)) (by rw [hF]; exact hp)
              rw [if_pos ⟨by omega, by omega, hF.symm⟩, Int.toNat_natCast, apM_turned hk hX hi hF, ← hturn] at hA
              refine Ev.step (f := fun f => mooringlaw20_StripeTurns.j1 f (oM (mulM (cauM k m) (spM k (lenS k L.length) L))) (oM (mulM (cauM k m) (spM k (lenS k L.length) (L.set n (at0 L n ^^^ c))))) ((n / 16 % k : Nat) : Int) false (k : Int) (m : Int) (ofL L) H) (fun f => ?_) ?_
              · simp only [mooringlaw20_StripeTurns.j0, Bool.false_eq_true, if_false, Option.bind_some, List.nil_append, List.length_nil, Nat.zero_add, ofL_length]
                rw [if_pos (by omega), if_pos (by omega), if_pos (by omega), rd_ofL, xor_ofB, Int.toNat_natCast, ofL_set, stripe_Split.f_ofL _ _ ha.1, e2, Option.bind_some, if_neg (by omega), if_pos rfl, htm]
                simp only [oM_length, hR.1, hR2.1]
                rw [show (((k + m : Nat) : Int) != ((k + m : Nat) : Int)) = false from bne_eq_false_iff_eq.mpr rfl]
              · refine Ev.step (f := fun f => (code_Apply.f f (k : Int) (m : Int) (oM (mulM (cauM k m) (spM k (lenS k L.length) L))) ((n / 16 % k : Nat) : Int) (ofL (row (spM k (lenS k L.length) (L.set n (at0 L n ^^^ c))) (n / 16 % k)))).bind fun bt121 => (if bt121.2 = 0 then ((mooringref02_Same.f f bt121.1 (oM (mulM (cauM k m) (spM k (lenS k L.length) (L.set n (at0 L n ^^^ c)))))).bind fun t125 => (if t125 = true then ((mooringlaw20_awake.f f).bind fun t126 => (some t126)) else (none))) else (none))) (fun f => ?_) ?_
                · simp only [mooringlaw20_StripeTurns.j1, Bool.false_eq_true, if_false]
                  rw [if_pos (by omega), if_pos (by rw [oM_length, hR2.1]; omega), rd_oM, hrow]
                · refine Ev.bind hA ?_
                  simp only [if_true]
                  refine Ev.bind (evSame _ _ (by rw [hR2.1]; omega)) ?_
                  simp only [decide_true, if_true]
                  exact Ev.bind evAwake20 (Ev.now _)
  · unfold splR
    rw [if_neg (by rw [h1]; decide)]
    simp only [show ((1 : Int) = 0) = False from eq_false (by decide), if_false]
    exact no _
end Go.Proofs.Ytbogmlckbkogiaa.Pure
namespace Go.Proofs.Ytbogmlckbkogiaa.H
open Go.RowKit Go.Proofs.YtbogmlckbkogiaaW.PrintWords Go.Proofs.YtbogmlckbkogiaaW.PrintLast Go.Proofs.Ytbogmlckbkogiaa.Leaf Go.Proofs.Ytbogmlckbkogiaa.Gf Go.Proofs.Ytbogmlckbkogiaa.Red Go.Proofs.Ytbogmlckbkogiaa.P
set_option linter.unusedVariables false
set_option linter.unusedSimpArgs false
def mooringlaw02_awake.f : Option Bool := some true
end Go.Proofs.Ytbogmlckbkogiaa.H
namespace Go.Proofs.Ytbogmlckbkogiaa.H
open Go.RowKit Go.ChangeShapes Go.WideShapes Go.Deep Go.Joins Go.Proofs.YtbogmlckbkogiaaW.PrintWords Go.Proofs.Ytbogmlckbkogiaa.Leaf Go.Proofs.Ytbogmlckbkogiaa.Gf Go.Proofs.Ytbogmlckbkogiaa.Red
set_option linter.unusedVariables false
theorem bools_arg {H : Type} {enc : TypeId × Value → H} {W : World} {a : Option Addr} {len cap : Nat} {d : DataW H} {ps : List MemPlace} (h : DataW.Trod enc Try.prog W 0 (fun _ => true) true 78 (.slice a len cap) d ps) (hw : ∀ x ∈ d.weights Try.prog 78, x ≤ reachBytes) :
    ∃ B : List Bool, len = B.length ∧ len ≤ cap ∧ Kd.C Kd.bool W a len B ∧ len ≤ 140737488351232 := by
  obtain ⟨fuel, hf⟩ := h
  rcases open_bools Try.underlying78 Try.underlying4 (by kernel_rfl) hf with ⟨hcs, _⟩ | ⟨a', len', cap', B, hcs, _, hl, hm, hx, hcell⟩
  · simp [Value.cells] at hcs
    obtain ⟨rfl, rfl, rfl⟩ := hcs
    exact ⟨[], rfl, Nat.le_refl _, Kd.C_nil _ _, by decide⟩
  · simp [Value.cells] at hcs
    obtain ⟨rfl, rfl, rfl⟩ := hcs
    obtain ⟨rfl, _⟩ := Prod.mk.inj hx
    refine ⟨(List.range len).map B, by simp, hl, ?_, ?_⟩
    · refine Kd.C_of_reads (d := false) ⟨by simp, by unfold maxLen at hm; omega, fun h0 => ⟨a', rfl, fun j hj => ?_⟩⟩
      rw [hcell j (by omega), List.getD_eq_getElem?_getD, List.getElem?_map, List.getElem?_range hj]
      rfl
    · have hx := hw ((len + (cap - len)) * Try.prog.bytesOf 4) (by simp [boolRow, DataW.weights, Try.underlying78])
      rw [show Try.prog.bytesOf 4 = 1 by kernel_rfl] at hx
      unfold reachBytes at hx
      omega
end Go.Proofs.Ytbogmlckbkogiaa.H
namespace Go.Proofs.Ytbogmlckbkogiaa.H
open Go.RowKit Go.ChangeShapes Go.WideShapes Go.Deep Go.Joins Go.Proofs.YtbogmlckbkogiaaW.PrintWords Go.Proofs.Ytbogmlckbkogiaa.Leaf Go.Proofs.Ytbogmlckbkogiaa.Gf Go.Proofs.Ytbogmlckbkogiaa.Red
set_option linter.unusedVariables false
theorem bytes_arg {H : Type} {enc : TypeId × Value → H} {W : World} {a : Option Addr} {len cap : Nat} {d : DataW H} {ps : List MemPlace} (h : DataW.Trod enc Try.prog W 0 (fun _ => true) true 22 (.slice a len cap) d ps) (hw : ∀ x ∈ d.weights Try.prog 22, x ≤ reachBytes) :
    ∃ L : List B, len = (ofL L).length ∧ len ≤ cap ∧ Kd.C (Kd.int .u8) W a (ofL L).length (ofL L) ∧ L.length ≤ 140737488351232 := by
  obtain ⟨fuel, hf⟩ := h
  rcases open_ints Try.underlying22 Try.underlying5 (by kernel_rfl) hf with ⟨hcs, _⟩ | ⟨x, l, c, zs, hcs, _, hl, hm, hz, hx, hcell, hwz⟩
  · simp [Value.cells] at hcs
    obtain ⟨rfl, rfl, rfl⟩ := hcs
    exact ⟨[], rfl, Nat.le_refl _, Kd.C_nil _ _, by decide⟩
  · simp [Value.cells] at hcs
    obtain ⟨rfl, rfl, rfl⟩ := hcs
    obtain ⟨rfl, _⟩ := Prod.mk.inj hx
    obtain ⟨l', hl', hr, hm', hw', hc'⟩ := ReadsInt.ofRowC (k := .u8) (w := W) (a := some x) (len := len) (cap := cap) (zs := zs) (.inr ⟨x, rfl, hl, hm, by simpa using hz, hcell, hwz⟩)
    obtain ⟨L, rfl⟩ := row_of hw'
    refine ⟨L, hl', hl, Kd.C_of_reads (d := (0 : Int)) (h1 := fun _ => rfl) hr, ?_⟩
    have hx := hw ((len + (cap - len)) * Try.prog.bytesOf 5) (by
      have hzc : zs.length = cap := by simpa using hz
      simp only [DataW.weights, Try.underlying22, List.mem_cons]
      refine Or.inl ?_
      congr 1
      simp [lits]
      omega)
    rw [show Try.prog.bytesOf 5 = 1 by kernel_rfl] at hx
    unfold reachBytes at hx
    rw [ofL_length] at hl'
    omega
set_option maxRecDepth 100000 in
theorem lost20_arg {H : Type} {enc : TypeId × Value → H} {W : World} {r : Reach} {b0 : Nat} {v : Value} {d : DataW H} {ps : List MemPlace} (hv : Value.okWide Try.prog W r b0 90 v) (h : DataW.Trod enc Try.prog W 0 (fun _ => true) true 90 v d ps) (hw : ∀ x ∈ d.weights Try.prog 90, x ≤ reachBytes) :
    ∃ (K M : Int) (A : Option Addr) (c : Nat) (L : List B) (A' : Option Addr) (c' : Nat) (B : List Bool), v = .agg #[.int .i64 K, .int .i64 M, .slice A (ofL L).length c, .slice A' B.length c'] ∧ (Lit.int .i64 K).wf = true ∧ (Lit.int .i64 M).wf = true ∧
      Kd.C (Kd.int .u8) W A (ofL L).length (ofL L) ∧ (ofL L).length ≤ c ∧ L.length ≤ 140737488351232 ∧ Kd.C Kd.bool W A' B.length B ∧ B.length ≤ c' ∧ B.length ≤ 140737488351232 := by
  obtain ⟨v0, v1, v2, v3, y0, y1, y2, y3, n, rfl, rfl, rfl, h0, h1, h2, h3⟩ := open_agg4 Try.underlying90 (by kernel_rfl) (by kernel_rfl) hv h
  obtain ⟨K, e0, e0', wK⟩ := DataW.trod_int (k := .i64) Try.underlying3 h0
  obtain ⟨M, e1, e1', wM⟩ := DataW.trod_int (k := .i64) Try.underlying3 h1
  obtain rfl : v0 = .int .i64 K := by simpa using e0
  obtain rfl : v1 = .int .i64 M := by simpa using e1
  have hs2 : ∃ a len cap, v2 = .slice a len cap := by
    rcases open_slice Try.underlying22 h2 with ⟨hc, _⟩ | ⟨a, len, cap, _, _, _, _, hc, _⟩
    · exact ⟨none, 0, 0, by simpa using hc⟩
    · exact ⟨some a, len, cap, by simpa using hc⟩
  have hs3 : ∃ a len cap, v3 = .slice a len cap := by
    rcases open_slice Try.underlying78 h3 with ⟨hc, _⟩ | ⟨a, len, cap, _, _, _, _, hc, _⟩
    · exact ⟨none, 0, 0, by simpa using hc⟩
    · exact ⟨some a, len, cap, by simpa using hc⟩
  obtain ⟨A, l2, c2, rfl⟩ := hs2
  obtain ⟨A', l3, c3, rfl⟩ := hs3
  have hw2 : ∀ x ∈ y2.1.weights Try.prog 22, x ≤ reachBytes := fun x hx => hw x (by
    simp only [DataW.weights, Try.underlying90]
    exact DataW.weights_mem_each (j := 2) rfl rfl x hx)
  have hw3 : ∀ x ∈ y3.1.weights Try.prog 78, x ≤ reachBytes := fun x hx => hw x (by
    simp only [DataW.weights, Try.underlying90]
    exact DataW.weights_mem_each (j := 3) rfl rfl x hx)
  obtain ⟨L, hl, hc, hC, hs⟩ := bytes_arg (d := y2.1) (ps := y2.2) ⟨n, h2⟩ hw2
  obtain ⟨B, hl', hc', hC', hs'⟩ := bools_arg (d := y3.1) (ps := y3.2) ⟨n, h3⟩ hw3
  subst hl hl'
  exact ⟨K, M, A, c2, L, A', c3, B, rfl, wK, wM, hC, hc, hs, hC', hc', hs'⟩
end Go.Proofs.Ytbogmlckbkogiaa.H
