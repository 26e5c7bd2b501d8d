/- Words and walks that the claim CodeTurns leans on (what it does not use is left out). -/
import Derived.Test.YtbogmlckbkogiaaMCodeTurns4
import Derived.Test.YtbogmlckbkogiaaMCodeTurns3
import Derived.Deep.RegionHeld3
import Derived.BigQuiet
import Derived.BigRegion
import Derived.Deep.CutRange
import Derived.StillTailTactics
import Derived.Deep.RegionWith
import Derived.Test.YtbogmlckbkogiaaMCodeTurns1
import Derived.Test.YtbogmlckbkogiaaMCodeTurns2
import Derived.Deep.RegionLaw
import Derived.Deep.AppendLies
namespace Go.Proofs.Ytbogmlckbkogiaa.Red
open Go.RowKit Go.Proofs.YtbogmlckbkogiaaW.PrintWords Go.Proofs.Ytbogmlckbkogiaa.Leaf Go.Proofs.Ytbogmlckbkogiaa.Gf Go.Proofs.Ytbogmlckbkogiaa.H Go.Proofs.Ytbogmlckbkogiaa.Mx Go.Proofs.Ytbogmlckbkogiaa.P
set_option linter.unusedVariables false
set_option linter.unusedSimpArgs false
def rowsM (A : Mat) (l : List Int) : Mat := l.map fun i => row A i.toNat
theorem rows_ok (A : Mat) (hr : ∀ i, i < A.length → (row A i).length < 140737488355328) (l : List Int) (hl : l.length ≤ 255) (h : ∀ j, j < l.length → 0 ≤ rd l (j : Int) ∧ rd l (j : Int) < A.length) (d : Nat) : ∀ i : Nat, i + d = l.length →
    Ev (fun k => matrix_Rows.l0 k (oM A) (oM (rowsM A (l.take i))) l (l.length : Int) (i : Int)) (oM (rowsM A l), 0) := by
  induction d with
  | zero =>
    intro i hi
    obtain rfl : i = l.length := by omega
    rw [List.take_length]
    refine Ev.step (f := fun _ => some (oM (rowsM A l), 0)) (fun f => ?_) (Ev.now _)
    simp only [matrix_Rows.l0]
    rw [if_neg (by omega)]
  | succ d ih =>
    intro i hi
    obtain ⟨h1, h2⟩ := h i (by omega)
    refine Ev.step (f := fun k => matrix_Rows.l0 k (oM A) (oM (rowsM A (l.take (i + 1)))) l (l.length : Int) ((i + 1 : Nat) : Int)) (fun f => ?_) (ih (i + 1) (by omega))
    have e1 : rd_L1 (oM A) (rd l (i : Int)) = ofL (row A (rd l (i : Int)).toNat) := map_getD A _
    have e2 : (rowsM A (l.take i)).length = i := by unfold rowsM; rw [List.length_map, List.length_take]; omega
    have e3 : rowsM A (l.take i) ++ [row A (rd l (i : Int)).toNat] = rowsM A (l.take (i + 1)) := by
      unfold rowsM
      rw [List.take_succ_eq_append_getElem (by omega), List.map_append]
      have e4 : rd l (i : Int) = l[i] := by
        unfold rd
        rw [Int.toNat_natCast, List.getD_eq_getElem?_getD, List.getElem?_eq_getElem (by omega)]
        rfl
      rw [e4]
      rfl
    simp only [matrix_Rows.l0, oM_length, e1, slices_Clone_byte_byte.f, ofL_length, e2]
    rw [if_pos (by omega), if_pos (by omega), if_pos (by omega), if_neg (by omega), if_neg (by omega), if_pos (by omega), if_pos (by omega), if_pos (hr _ (by omega)), Option.bind_some, if_pos (by omega), oM_one, oM_append, e3, w64 _ (by omega) (by omega)]
    rfl
theorem rows_bad (A : Mat) (hr : ∀ i, i < A.length → (row A i).length < 140737488355328) (l : List Int) (hl : l.length ≤ 255) (j : Nat) (hj : j < l.length) (hb : rd l (j : Int) < 0 ∨ rd l (j : Int) ≥ A.length) (d : Nat) : ∀ (i : Nat) (X : List (List Int)), i + d = j → X.length = i →
    Ev (fun k => matrix_Rows.l0 k (oM A) X l (l.length : Int) (i : Int)) ([], 1) := by
  induction d with
  | zero =>
    intro i X hi hX
    obtain rfl : i = j := by omega
    refine Ev.step (f := fun _ => some ([], 1)) (fun f => ?_) (Ev.now _)
    simp only [matrix_Rows.l0, oM_length]
    rw [if_pos (by omega), if_pos (by omega), if_pos (by omega)]
    by_cases h1 : rd l (i : Int) < 0
    · rw [if_pos h1]
    · rw [if_neg h1, if_pos (by omega)]
  | succ d ih =>
    intro i X hi hX
    by_cases h1 : rd l (i : Int) < 0
    · refine Ev.step (f := fun _ => some ([], 1)) (fun f => ?_) (Ev.now _)
      simp only [matrix_Rows.l0, oM_length]
      rw [if_pos (by omega), if_pos (by omega), if_pos (by omega), if_pos h1]
    · by_cases h2 : rd l (i : Int) ≥ A.length
      · refine Ev.step (f := fun _ => some ([], 1)) (fun f => ?_) (Ev.now _)
        simp only [matrix_Rows.l0, oM_length]
        rw [if_pos (by omega), if_pos (by omega), if_pos (by omega), if_neg h1, if_pos (by omega)]
      · have e1 : rd_L1 (oM A) (rd l (i : Int)) = ofL (row A (rd l (i : Int)).toNat) := map_getD A _
        refine Ev.step (f := fun k => matrix_Rows.l0 k (oM A) (X ++ [ofL (row A (rd l (i : Int)).toNat)]) l (l.length : Int) ((i + 1 : Nat) : Int)) (fun f => ?_) (ih (i + 1) _ (by omega) (by rw [List.length_append, hX]; rfl))
        simp only [matrix_Rows.l0, oM_length, e1, slices_Clone_byte_byte.f, ofL_length, hX]
        rw [if_pos (by omega), if_pos (by omega), if_pos (by omega), if_neg (by omega), if_neg (by omega), if_pos (by omega), if_pos (by omega), if_pos (hr _ (by omega)), Option.bind_some, if_pos (by omega), w64 _ (by omega) (by omega)]
        rfl
/-- May such rows be had? -/
def rowsB (A : Mat) (l : List Int) : Bool := mayB A && decide (0 < l.length) && decide (l.length ≤ 255) && l.all fun v => decide (0 ≤ v) && decide (v < A.length)
def rowsR (A : Mat) (l : List Int) : List (List Int) × Int := if rowsB A l = true then (oM (rowsM A l), 0) else ([], 1)
theorem rd_mem (l : List Int) (j : Nat) (hj : j < l.length) : rd l (j : Int) ∈ l := by
  unfold rd
  rw [Int.toNat_natCast, List.getD_eq_getElem?_getD, List.getElem?_eq_getElem hj]
  exact List.getElem_mem hj
theorem evRows (A : Mat) (hs : A.length ≤ 9223372036854775807) (l : List Int) : Ev (fun k => matrix_Rows.f k (oM A) l) (rowsR A l) := by
  have j1 : Ev (fun k => matrix_Rows.j0 k (oM A) l true) ([], 1) := Ev.step (f := fun _ => some ([], 1)) (fun k => by simp only [matrix_Rows.j0, if_true]) (Ev.now _)
  unfold matrix_Rows.f rowsR
  refine Ev.bind (evCheck A hs) ?_
  cases h1 : mayB A with
  | false =>
    rw [show rowsB A l = false by unfold rowsB; rw [h1]; rfl]
    simp only [Bool.false_eq_true, if_false, show ((1 : Int) = 0) = False from eq_false (by decide)]
    exact j1
  | true =>
    simp only [if_true]
    by_cases h2 : l.length = 0
    · rw [show rowsB A l = false by unfold rowsB; rw [decide_eq_false (by omega)]; simp]
      simp only [show ((l.length : Int) = 0) = True from eq_true (by omega), if_true, Bool.false_eq_true, if_false]
      exact j1
    · simp only [show ((l.length : Int) = 0) = False from eq_false (by omega), if_false]
      by_cases h3 : l.length > 255
      · rw [show rowsB A l = false by unfold rowsB; rw [decide_eq_false (show ¬ l.length ≤ 255 by omega)]; simp]
        simp only [show decide ((l.length : Int) > 255) = true from decide_eq_true (by omega), Bool.false_eq_true, if_false]
        exact j1
      · simp only [show decide ((l.length : Int) > 255) = false from decide_eq_false (by omega)]
        obtain ⟨hA, a1, a2, a3, a4⟩ := mayB_reg h1
        have hr : ∀ i, i < A.length → (row A i).length < 140737488355328 := fun i hi => by rw [hA.2 i hi]; omega
        refine Ev.step (f := fun k => matrix_Rows.l0 k (oM A) (oM (rowsM A (l.take 0))) l (l.length : Int) ((0 : Nat) : Int)) (fun k => by simp only [matrix_Rows.j0, Bool.false_eq_true, if_false]; rfl) ?_
        cases h4 : (l.all fun v => decide (0 ≤ v) && decide (v < A.length)) with
        | true =>
          rw [show rowsB A l = true by unfold rowsB; rw [h1, h4, decide_eq_true (show 0 < l.length by omega), decide_eq_true (show l.length ≤ 255 by omega)]; rfl, if_pos rfl]
          refine rows_ok A hr l (by omega) (fun j hj => ?_) l.length 0 (by omega)
          have := List.all_eq_true.1 h4 _ (rd_mem l j hj)
          simpa using this
        | false =>
          rw [show rowsB A l = false by unfold rowsB; rw [h4]; simp]
          simp only [Bool.false_eq_true, if_false]
          obtain ⟨v, hv, hb⟩ := List.all_eq_false.1 h4
          obtain ⟨j, hj, e⟩ := List.mem_iff_getElem.1 hv
          have e2 : rd l (j : Int) = v := by
            unfold rd
            rw [Int.toNat_natCast, List.getD_eq_getElem?_getD, List.getElem?_eq_getElem hj]
            exact e
          refine rows_bad A hr l (by omega) j hj ?_ j 0 _ (by omega) rfl
          rw [e2]
          have hb' : ¬ (0 ≤ v ∧ v < A.length) := by simpa using hb
          omega
end Go.Proofs.Ytbogmlckbkogiaa.Red
namespace Go.Proofs.Ytbogmlckbkogiaa.H
open Go.RowKit Go.Proofs.YtbogmlckbkogiaaW.PrintWords Go.Proofs.YtbogmlckbkogiaaW.PrintLast Go.Proofs.YtbogmlckbkogiaaW.PrintMore Go.Proofs.Ytbogmlckbkogiaa.Leaf Go.Proofs.Ytbogmlckbkogiaa.Gf Go.Proofs.Ytbogmlckbkogiaa.Mx Go.Proofs.Ytbogmlckbkogiaa.P Go.Proofs.Ytbogmlckbkogiaa.Red
set_option linter.unusedVariables false
theorem rows_calls (A0 : Option Addr) (c0 : Nat) (l0 : List (List Int)) (A1 : Option Addr) (c1 : Nat) (l1 : List Int) (r1 : List (List Int)) (r2 : Int) (w : World) (hr0 : Kd.C (Kd.slice 5 (Kd.int .u8)) w A0 l0.length l0) (hc0 : l0.length ≤ c0) (hr1 : Kd.C (Kd.int .i64) w A1 l1.length l1) (hc1 : l1.length ≤ c1) (h : Ev (fun k => matrix_Rows.f k l0 l1) (r1, r2)) :
    Calls Try.prog 69 #[.slice A0 l0.length c0, .slice A1 l1.length c1] w fun e w' => ∃ v0_ : Value, e = .returned (.tuple #[v0_, .int .i64 r2]) ∧ Kd.S (Kd.slice 5 (Kd.int .u8)) 22 w' w.heap.size (fun _ => True) v0_ r1 ∧ Below w.heap.size w w' := by
  obtain ⟨k, h⟩ := h.rounds
  exact matrix_Rows.calls k A0 c0 l0 A1 c1 l1 r1 r2 w hr0 hc0 hr1 hc1 h
/-- Rows that came in, read in what made them a row of the call's own: read now. -/
theorem fixed_C {w wr : World} {A : Option Addr} {n : Nat} {X : List (List Int)} (hb : Below w.heap.size w wr) (h : (Kd.fixed (Kd.slice 5 (Kd.int .u8)) w).C wr A n X) : Kd.C (Kd.slice 5 (Kd.int .u8)) wr A n X :=
  ReadsRow.imp_ (R' := (Kd.slice 5 (Kd.int .u8)).K wr) h (Below.refl _ _) (fun _ _ hp => (Kd.slice 5 (Kd.int .u8)).K_below hb hp)
theorem fixed_ne (w : World) (t : Nat) (h : 22 ≠ t) : ∀ q, q ∈ 22 :: (Kd.fixed (Kd.slice 5 (Kd.int .u8)) w).E → q ≠ t := by
  intro q hq
  rcases List.mem_cons.1 hq with rfl | hq
  · exact h
  · exact absurd (show q ∈ ([] : List Nat) from hq) List.not_mem_nil
end Go.Proofs.Ytbogmlckbkogiaa.H
namespace Go.Proofs.Ytbogmlckbkogiaa.H
open Go.RowKit Go.Proofs.YtbogmlckbkogiaaW.PrintWords Go.Proofs.Ytbogmlckbkogiaa.Leaf Go.Proofs.Ytbogmlckbkogiaa.Gf Go.Proofs.Ytbogmlckbkogiaa.Red
set_option linter.unusedVariables false
/-- Two matrices of the call's own, apart. -/
def St (w : World) (base ga ca gb cb n m p : Nat) (A Z : Mat) : Prop :=
  ∃ ida capa idb capb, Mt w base ga ca ida capa (A.map ofL) ∧ Mt w base gb cb idb capb (Z.map ofL) ∧ (∀ i j, i < n → j < n → ida i ≠ idb j) ∧ ga ≠ gb ∧ Reg A n m ∧ Reg Z n p
section
variable {w w1 : World} {base ga ca gb cb n m p : Nat} {A Z : Mat}
theorem St.symm (h : St w base ga ca gb cb n m p A Z) : St w base gb cb ga ca n p m Z A := by
  obtain ⟨a, b, c, d, h1, h2, h3, h4, h5, h6⟩ := h
  exact ⟨c, d, a, b, h2, h1, fun i j hi hj e => h3 j i hj hi e.symm, h4.symm, h6, h5⟩
theorem St.below (h : St w base ga ca gb cb n m p A Z) (hb : Below w.heap.size w w1) : St w1 base ga ca gb cb n m p A Z := by
  obtain ⟨a, b, c, d, h1, h2, h3⟩ := h
  exact ⟨a, b, c, d, h1.below hb, h2.below hb, h3⟩
theorem St.reg (h : St w base ga ca gb cb n m p A Z) : Reg A n m ∧ Reg Z n p ∧ base ≤ ga ∧ base ≤ gb ∧ ga < w.heap.size ∧ gb < w.heap.size := by
  obtain ⟨a, b, c, d, h1, h2, h3, h4, h5, h6⟩ := h
  exact ⟨h5, h6, h1.gbase, h2.gbase, h1.glt, h2.glt⟩
theorem St.read (h : St w base ga ca gb cb n m p A Z) (i : Nat) (hi : i < n) :
    ∃ b c, w.cell? ⟨ga, i, none⟩ = some (.slice (some ⟨b, 0, none⟩) m c) ∧ w.frozen? ⟨ga, i, none⟩ = false ∧ Rw w base b c (ofL (row A i)) := by
  obtain ⟨a, b, c, d, h1, h2, h3, h4, h5, h6⟩ := h
  have hi' : i < (A.map ofL).length := by rw [List.length_map, h5.1]; exact hi
  have hat := h1.at_ i hi'
  have hr := h1.rows i hi'
  rw [map_getD] at hr
  refine ⟨a i, b i, ?_, hat.2, hr⟩
  rw [hat.1]
  unfold sl
  rw [map_getD, ofL_length, h5.2 i hi]
theorem St.swapA (h : St w base ga ca gb cb n m p A Z) {i j : Nat} (hi : i < n) (hj : j < n) {u v : Value} (hu : w.cell? ⟨ga, i, none⟩ = some u) (hv : w.cell? ⟨ga, j, none⟩ = some v) :
    St ((w.setCell ⟨ga, i, none⟩ v).setCell ⟨ga, j, none⟩ u) base ga ca gb cb n m p (swapM A i j) Z := by
  obtain ⟨a, b, c, d, h1, h2, h3, h4, h5, h6⟩ := h
  have hi' : i < (A.map ofL).length := by rw [List.length_map, h5.1]; exact hi
  have hj' : j < (A.map ofL).length := by rw [List.length_map, h5.1]; exact hj
  have e1 := (h1.at_ i hi').1
  have e2 := (h1.at_ j hj').1
  rw [hu] at e1
  rw [hv] at e2
  obtain rfl := Option.some.inj e1
  obtain rfl := Option.some.inj e2
  have hs := h1.swap i j hi' hj'
  rw [map_swap] at hs
  have hz : ∀ (W : World) (q : Nat) (x : Value), Mt W base gb cb c d (Z.map ofL) → (∃ cells, W.heap[ga]? = some (.cells cells 22 (0, 0))) → Mt (W.setCell ⟨ga, q, none⟩ x) base gb cb c d (Z.map ofL) := by
    intro W q x hW ⟨cells, hc⟩
    refine hW.far h4 (fun k hk e => ?_) x
    obtain ⟨cs, hcs⟩ := (hW.rows k hk).typed
    have e' : ga = c k := e
    rw [← e', hc] at hcs
    simp at hcs
  have ht2 : ∃ cells, (w.setCell ⟨ga, i, none⟩ (sl a b (A.map ofL) j)).heap[ga]? = some (.cells cells 22 (0, 0)) := own_typed (h1.outer.stored i _).1 ga rfl
  refine ⟨tw a i j, tw b i j, c, d, hs, hz _ _ _ (hz _ _ _ h2 h1.typed) ht2, fun x y hx hy => ?_, h4, h5.swap hi hj, h6⟩
  unfold tw
  by_cases e : x = j
  · rw [if_pos e]; exact h3 i y hi hy
  · rw [if_neg e]
    by_cases e2 : x = i
    · rw [if_pos e2]; exact h3 j y hj hy
    · rw [if_neg e2]; exact h3 x y hx hy
theorem St.putA (h : St w base ga ca gb cb n m p A Z) {i : Nat} (hi : i < n) {b c : Nat} (hb : w.cell? ⟨ga, i, none⟩ = some (.slice (some ⟨b, 0, none⟩) m c)) (j : Nat) (x : B) :
    St (w.setCell ⟨b, j, none⟩ (.int .u8 (ofB x))) base ga ca gb cb n m p (A.set i ((row A i).set j x)) Z ∧ base ≤ b ∧ b ≠ ga ∧ b ≠ gb ∧ b < w.heap.size := by
  obtain ⟨a, b', c', d, h1, h2, h3, h4, h5, h6⟩ := h
  have hi' : i < (A.map ofL).length := by rw [List.length_map, h5.1]; exact hi
  have e1 := (h1.at_ i hi').1
  rw [hb] at e1
  have e2 : b = a i := by
    have := Option.some.inj e1
    unfold sl at this
    injection this with t1 t2 t3
    injection t1 with t1
    injection t1 with t1
  subst e2
  have hp := h1.put i hi' j (ofB x)
  have hbg := h2.ne (h1.rows i hi')
  rw [map_getD, ofL_set, map_set] at hp
  refine ⟨⟨a, b', c', d, hp, h2.far hbg (fun k hk => h3 i k hi (by rw [List.length_map, h6.1] at hk; exact hk)) _, h3, h4, h5.set hi (by rw [List.length_set]; exact h5.2 i hi), h6⟩, (h1.rows i hi').base_, h1.ne (h1.rows i hi'), hbg, (h1.rows i hi').lt⟩
theorem St.rowA (h : St w base ga ca gb cb n m p A Z) {i : Nat} (hi : i < n) (hbl : Below w.heap.size w w1) {b c : Nat} {r : List B} (hr : Rw w1 base b c (ofL r)) (hn : w.heap.size ≤ b) (hl : r.length = m) :
    St (w1.setCell ⟨ga, i, none⟩ (.slice (some ⟨b, 0, none⟩) m c)) base ga ca gb cb n m p (A.set i r) Z := by
  obtain ⟨a, b', c', d, h1, h2, h3, h4, h5, h6⟩ := h
  have hi' : i < (A.map ofL).length := by rw [List.length_map, h5.1]; exact hi
  have h1' := h1.below hbl
  have h2' := h2.below hbl
  have hs := h1'.setRow i hi' hr (fun k hk _ => by have := (h1.rows k hk).lt; omega)
  rw [map_set, ofL_length, hl] at hs
  refine ⟨up a i b, up b' i c, c', d, hs, h2'.far h4 (fun k hk e => ?_) _, fun x y hx hy => ?_, h4, h5.set hi hl, h6⟩
  · obtain ⟨cs, hcs⟩ := (h2'.rows k hk).typed
    obtain ⟨cs', hcs'⟩ := h1'.typed
    have e' : ga = c' k := e
    rw [← e', hcs'] at hcs
    simp at hcs
  · unfold up
    by_cases e : x = i
    · rw [if_pos e]
      have := (h2.rows y (by rw [List.length_map, h6.1]; exact hy)).lt
      omega
    · rw [if_neg e]; exact h3 x y hx hy
theorem St.cap (h : St w base ga ca gb cb n m p A Z) : n ≤ ca ∧ n ≤ cb := by
  obtain ⟨a, b, c, d, h1, h2, h3, h4, h5, h6⟩ := h
  have e1 := own_le h1.outer
  have e2 := own_le h2.outer
  rw [List.length_map] at e1 e2
  exact ⟨by have := h5.1; omega, by have := h6.1; omega⟩
theorem info22h : (Try.prog.info? 22).map (fun i => (i.zero, i.size, i.bytes)) = some (some (.slice none 0 0), 1, 24) := by kernel_rfl
theorem cut_run (g n c d : Nat) (hd : d < n) (hc : n ≤ c) : ∀ W : World, (Instr.slice 51 (.slice (some ⟨g, 0, none⟩) n c) (some (.int .i64 (d : Int))) none none).run Try.prog W = .ok (.slice (some ⟨g, d, none⟩) (n - d) (c - d)) W := by
  intro W
  obtain ⟨i0, hi, hz⟩ := Option.map_eq_some_iff.1 info22h
  simp only [Prod.mk.injEq] at hz
  have hel : Try.prog.elem 51 = 22 := by simp [Program.elem, Try.underlying51]
  have hu : Try.prog.underlying 51 = some (.slice (Try.prog.elem 51)) := by rw [hel]; exact Try.underlying51
  rw [run_slice_l W 51 _ n c hu .i64 (d : Int) (by omega) (by omega), hel]
  have hcd : c ≠ d := by omega
  simp [sizeOf, typeInfo, hi, hz.2.1, sliced, Result.andThen, hcd, Addr.add]
  exact fun e => e.symm
theorem idx_calls (h : St w base ga ca gb cb n m p A Z) {d c : Nat} (hd : d < n) (hn : n ≤ 255) (hc : c < m) {q : Addr} {W : World} (hq : W.cell? q = some (.int .i64 (c : Int))) (hb : Below w.heap.size w W) :
    Calls Try.prog 99 #[.slice (some ⟨ga, d, none⟩) (n - d) (ca - d), .func (.func 100) #[] #[.pointer (some q)]] W fun e w' => e = .returned (.int .i64 (pivot A d c)) ∧ Below W.heap.size W w' := by
  have h' := h.below hb
  obtain ⟨a, b, c', d', h1, h2, h3, h4, h5, h6⟩ := h'
  have eg := enters_id Try.func100 (by kernel_rfl) rfl
  have hat : ∀ j, j < n - d → d + j < (A.map ofL).length := fun j hj => by rw [List.length_map, h5.1]; omega
  unfold pivot
  rw [h5.1]
  refine indexFunc_calls (fun j => rd (ofL (row A (d + j))) (c : Int) != 0) 100 #[.pointer (some q)] eg (some ⟨ga, d, none⟩) (n - d) (ca - d) (fun j => sl a b (A.map ofL) (d + j)) W (by omega) (fun _ => ⟨⟨ga, d, none⟩, rfl, fun j hj => ?_⟩) (fun j hj => rfl) (fun W2 j hj hb2 => ?_)
  · have e : (⟨ga, d, none⟩ : Addr).add j = ⟨ga, d + j, none⟩ := by simp [Addr.add]
    rw [e]
    exact (h1.at_ (d + j) (hat j hj)).1
  · have hr := ((h1.below hb2).rows (d + j) (hat j hj))
    rw [map_getD] at hr
    show Calls Try.prog 100 #[sl a b (A.map ofL) (d + j), .pointer (some q)] W2 _
    unfold sl
    rw [map_getD]
    exact (pred_calls (a (d + j)) (b (d + j)) (ofL (row A (d + j))) c q W2 base hr (by rw [ofL_length, h5.2 _ (by omega)]; exact hc) (pw_cell_below hb2 hq)).mono fun e w' ⟨he, hb3⟩ => ⟨he, below_step hb2 hb3⟩
/-- The variable that the closure looks at. -/
def Col (w : World) (q kk : Nat) : Prop := (∃ cs, w.heap[q]? = some (.cells cs 3 (0, 0))) ∧ w.cell? ⟨q, 0, none⟩ = some (.int .i64 (kk : Int))
theorem Col.below {q kk : Nat} (h : Col w q kk) (hb : Below w.heap.size w w1) : Col w1 q kk := by
  obtain ⟨⟨cs, hc⟩, h2⟩ := h
  exact ⟨⟨cs, (hb.block q (blk_lt hc)).trans hc⟩, pw_cell_below hb h2⟩
theorem Col.far {q kk b j t : Nat} {cells : Array Value} (h : Col w q kk) (hb : w.heap[b]? = some (.cells cells t (0, 0))) (ht : t ≠ 3) (u : Value) : Col (w.setCell ⟨b, j, none⟩ u) q kk := by
  obtain ⟨⟨cs, hc⟩, h2⟩ := h
  have hne : q ≠ b := by
    rintro rfl
    rw [hc] at hb
    simp at hb
    exact ht hb.2.symm
  have hh := Below.heap_setCell w ⟨b, j, none⟩ u q hne
  exact ⟨⟨cs, hh.trans hc⟩, (World.cell?_of_block (w := w) hh).trans h2⟩
theorem St.types (h : St w base ga ca gb cb n m p A Z) : (∃ cells, w.heap[ga]? = some (.cells cells 22 (0, 0))) ∧ ∃ cells, w.heap[gb]? = some (.cells cells 22 (0, 0)) := by
  obtain ⟨a, b, c, d, h1, h2, h3⟩ := h
  exact ⟨h1.typed, h2.typed⟩
theorem St.drew (h : St w base ga ca gb cb n m p A Z) : St w.drew base ga ca gb cb n m p A Z := h.below (below_drew (Below.refl _ _))
end
end Go.Proofs.Ytbogmlckbkogiaa.H
namespace Go.Proofs.Ytbogmlckbkogiaa.H
open Go.RowKit Go.Proofs.YtbogmlckbkogiaaW.PrintWords Go.Proofs.Ytbogmlckbkogiaa.Leaf Go.Proofs.Ytbogmlckbkogiaa.Gf Go.Proofs.Ytbogmlckbkogiaa.Red
set_option linter.unusedVariables false
theorem typed_set {w : World} {b t : Nat} (h : ∃ cs, w.heap[b]? = some (.cells cs t (0, 0))) (p : Addr) (u : Value) : ∃ cs, (w.setCell p u).heap[b]? = some (.cells cs t (0, 0)) := by
  obtain ⟨cs, hc⟩ := h
  by_cases e : b = p.block
  · subst e
    simp only [World.setCell, Array.getElem?_modify, if_true, hc]
    exact ⟨_, rfl⟩
  · exact ⟨cs, (Below.heap_setCell w p u b e).trans hc⟩
theorem cell_far {w : World} {p q : Addr} {v : Value} (h : w.cell? q = some v) (hne : q.block ≠ p.block) (u : Value) : (w.setCell p u).cell? q = some v :=
  (World.cell?_of_block (w := w) (Below.heap_setCell w p u q.block hne)).trans h
section
variable {w0 w w1 : World} {base ga ca gb cb n m p q kk dd : Nat} {A Z : Mat}
theorem Col.drew (h : Col w q kk) : Col w.drew q kk := h.below (below_drew (Below.refl _ _))
theorem St.exch (h : St w base ga ca gb cb n m p A Z) (hB : Below base w0 w) (hC : Col w q kk) {i j : Nat} (hi : i < n) (hj : j < n) {u v : Value} (hu : w.cell? ⟨ga, i, none⟩ = some u) (hv : w.cell? ⟨ga, j, none⟩ = some v) :
    St ((w.setCell ⟨ga, i, none⟩ v).setCell ⟨ga, j, none⟩ u).drew base ga ca gb cb n m p (swapM A i j) Z ∧ Below base w0 ((w.setCell ⟨ga, i, none⟩ v).setCell ⟨ga, j, none⟩ u).drew ∧ Col ((w.setCell ⟨ga, i, none⟩ v).setCell ⟨ga, j, none⟩ u).drew q kk := by
  obtain ⟨_, _, hg, _, _, _⟩ := h.reg
  obtain ⟨cs, hc⟩ := h.types.1
  obtain ⟨cs', hc'⟩ := typed_set h.types.1 ⟨ga, i, none⟩ v
  exact ⟨(h.swapA hi hj hu hv).drew, below_drew ((hB.setCell hg _).setCell hg _), ((hC.far hc (by decide) _).far hc' (by decide) _).drew⟩
/-- Behind the exchange: the two rows at dd are known by their blocks. -/
structure Sc (W w0 : World) (base ga ca gb cb n m p : Nat) (A Z : Mat) (q kk dd bA cA bZ cZ : Nat) : Prop where
  st : St W base ga ca gb cb n m p A Z
  bl : Below base w0 W
  col : Col W q kk
  ra : W.cell? ⟨ga, dd, none⟩ = some (.slice (some ⟨bA, 0, none⟩) m cA)
  rz : W.cell? ⟨gb, dd, none⟩ = some (.slice (some ⟨bZ, 0, none⟩) p cZ)
variable {bA cA bZ cZ : Nat}
theorem Sc.symm (h : Sc w w0 base ga ca gb cb n m p A Z q kk dd bA cA bZ cZ) : Sc w w0 base gb cb ga ca n p m Z A q kk dd bZ cZ bA cA := ⟨h.st.symm, h.bl, h.col, h.rz, h.ra⟩
theorem Sc.below (h : Sc w w0 base ga ca gb cb n m p A Z q kk dd bA cA bZ cZ) (hs : base ≤ w.heap.size) (hb : Below w.heap.size w w1) : Sc w1 w0 base ga ca gb cb n m p A Z q kk dd bA cA bZ cZ :=
  ⟨h.st.below hb, below_then h.bl hs hb, h.col.below hb, pw_cell_below hb h.ra, pw_cell_below hb h.rz⟩
theorem Sc.rw_ (h : Sc w w0 base ga ca gb cb n m p A Z q kk dd bA cA bZ cZ) (hd : dd < n) : Rw w base bA cA (ofL (row A dd)) := by
  obtain ⟨b, c, h1, _, h2⟩ := h.st.read dd hd
  rw [h.ra] at h1
  have := Option.some.inj h1
  injection this with t1 t2 t3
  injection t1 with t1
  injection t1 with t1
  subst t1 t3
  exact h2
theorem Sc.size (h : Sc w w0 base ga ca gb cb n m p A Z q kk dd bA cA bZ cZ) : base ≤ w.heap.size := by
  obtain ⟨_, _, h1, _, h2, _⟩ := h.st.reg
  omega
theorem Sc.put (h : Sc w w0 base ga ca gb cb n m p A Z q kk dd bA cA bZ cZ) (hd : dd < n) (j : Nat) (x : B) :
    Sc (w.setCell ⟨bA, j, none⟩ (.int .u8 (ofB x))) w0 base ga ca gb cb n m p (A.set dd ((row A dd).set j x)) Z q kk dd bA cA bZ cZ := by
  obtain ⟨h1, h2, h3, h4, h5⟩ := h.st.putA hd h.ra j x
  obtain ⟨cs, hc⟩ := (h.rw_ hd).typed
  exact ⟨h1, h.bl.setCell h2 _, h.col.far hc (by decide) _, cell_far h.ra (Ne.symm h3) _, cell_far h.rz (Ne.symm h4) _⟩
/-- The short list of the two rows. -/
def Pr (w : World) (g : Nat) (v : Nat → Value) : Prop := (∃ cs, w.heap[g]? = some (.cells cs 22 (0, 0))) ∧ ∀ i, i < 2 → w.cell? ⟨g, i, none⟩ = some (v i)
theorem Pr.below {g : Nat} {v : Nat → Value} (h : Pr w g v) (hb : Below w.heap.size w w1) : Pr w1 g v := by
  obtain ⟨⟨cs, hc⟩, h2⟩ := h
  exact ⟨⟨cs, (hb.block g (blk_lt hc)).trans hc⟩, fun i hi => pw_cell_below hb (h2 i hi)⟩
theorem Pr.put {g b t j : Nat} {v : Nat → Value} {cells : Array Value} (h : Pr w g v) (hb : w.heap[b]? = some (.cells cells t (0, 0))) (ht : t ≠ 22) (u : Value) : Pr (w.setCell ⟨b, j, none⟩ u) g v := by
  obtain ⟨⟨cs, hc⟩, h2⟩ := h
  have hne : g ≠ b := by
    rintro rfl
    rw [hc] at hb
    simp at hb
    exact ht hb.2.symm
  exact ⟨typed_set ⟨cs, hc⟩ _ _, fun i hi => cell_far (h2 i hi) hne _⟩
/-- Rows exchanged for new ones: the elimination's store. -/
theorem St.sum (h : St w base ga ca gb cb n m p A Z) (hB : Below base w0 w) (hC : Col w q kk) (hs : base ≤ w.heap.size) (hbl : Below w.heap.size w w1) {i : Nat} (hi : i < n) {v : Value} {r : List B} (hr : Kd.R (Kd.int .u8) 5 w1 w.heap.size (fun _ => True) v (ofL r)) (hl : r.length = m) (hm : 0 < m) :
    ∃ b c, v = .slice (some ⟨b, 0, none⟩) m c ∧ St (w1.setCell ⟨ga, i, none⟩ (.slice (some ⟨b, 0, none⟩) m c)) base ga ca gb cb n m p (A.set i r) Z ∧ Below base w0 (w1.setCell ⟨ga, i, none⟩ (.slice (some ⟨b, 0, none⟩) m c)) ∧ Col (w1.setCell ⟨ga, i, none⟩ (.slice (some ⟨b, 0, none⟩) m c)) q kk ∧
      w1.frozen? ⟨ga, i, none⟩ = false ∧ ∃ u, w1.cell? ⟨ga, i, none⟩ = some u := by
  obtain ⟨b, c, e, hR⟩ := Rw.of_R hr (by rw [ofL_length, hl]; exact hm)
  rw [ofL_length, hl] at e
  have hS1 := h.below hbl
  obtain ⟨_, _, hg, _⟩ := hS1.reg
  obtain ⟨cs, hc⟩ := hS1.types.1
  obtain ⟨b', c', h1, h2, _⟩ := hS1.read i hi
  have hR' : Rw w1 base b c (ofL r) := own_weaken hR hs
  exact ⟨b, c, e, h.rowA hi hbl hR' hR.base_ hl, (below_then hB hs hbl).setCell hg _, (hC.below hbl).far hc (by decide) _, h2, _, h1⟩
end
theorem set_self (A : Mat) (i : Nat) (hi : i < A.length) : A.set i (row A i) = A := by
  unfold row
  rw [List.getD_eq_getElem?_getD, List.getElem?_eq_getElem hi]
  simp
theorem set_set' (A : Mat) (i : Nat) (r s : List B) : (A.set i r).set i s = A.set i s := by rw [List.set_set]
theorem row_set_self (A : Mat) (i : Nat) (r : List B) (hi : i < A.length) : row (A.set i r) i = r := by rw [row_set _ _ _ _ hi, if_pos rfl]
def vv (u v : Value) (i : Nat) : Value := if i = 0 then u else v
theorem Sc.start {w0 w : World} {base ga ca gb cb n m p q kk dd bA cA bZ cZ : Nat} {A Z : Mat} (h : Sc w w0 base ga ca gb cb n m p A Z q kk dd bA cA bZ cZ) :
    Aside0 (Sc (w.alloc (.cells #[.slice (some ⟨bA, 0, none⟩) m cA, .slice (some ⟨bZ, 0, none⟩) p cZ] 22 (0, 0))).drew w0 base ga ca gb cb n m p A Z q kk dd bA cA bZ cZ) ∧ Aside0 (Pr (w.alloc (.cells #[.slice (some ⟨bA, 0, none⟩) m cA, .slice (some ⟨bZ, 0, none⟩) p cZ] 22 (0, 0))).drew w.heap.size (vv (.slice (some ⟨bA, 0, none⟩) m cA) (.slice (some ⟨bZ, 0, none⟩) p cZ))) := by
  refine ⟨⟨h.below h.size (below_drew ((Below.refl _ _).alloc (Nat.le_refl _) _))⟩, ⟨⟨_, heap_alloc_last w _⟩, fun i hi => ?_⟩⟩
  show (w.alloc _).cell? _ = _
  rw [cell_of_row _ _ i _ 22 (0, 0) (heap_alloc_new w _)]
  rcases (by omega : i = 0 ∨ i = 1) with rfl | rfl <;> rfl
/-- One of the two rows, whichever. -/
theorem Sc.pick {w0 w : World} {base ga ca gb cb n m p q kk dd bA cA bZ cZ : Nat} {A Z A2 Z2 : Mat} {iv : B} (hd : dd < n) (hm : 0 < m) (hp : 0 < p) (hA2 : A2 = A.set dd (scale iv (row A dd))) (hZ2 : Z2 = Z.set dd (scale iv (row Z dd))) (i : Nat) (hi : i < 2)
    (h : Sc w w0 base ga ca gb cb n m p (if 1 ≤ i then A2 else A) (if 2 ≤ i then Z2 else Z) q kk dd bA cA bZ cZ) :
    ∃ gX cX gY cY mX mY X Y bX kX bY kY, vv (.slice (some ⟨bA, 0, none⟩) m cA) (.slice (some ⟨bZ, 0, none⟩) p cZ) i = .slice (some ⟨bX, 0, none⟩) mX kX ∧ 0 < mX ∧ Aside0 (Sc w w0 base gX cX gY cY n mX mY X Y q kk dd bX kX bY kY) ∧
      Aside0 (∀ W, Sc W w0 base gX cX gY cY n mX mY (X.set dd (scale iv (row X dd))) Y q kk dd bX kX bY kY → Sc W w0 base ga ca gb cb n m p (if 1 ≤ i + 1 then A2 else A) (if 2 ≤ i + 1 then Z2 else Z) q kk dd bA cA bZ cZ) := by
  rcases (by omega : i = 0 ∨ i = 1) with rfl | rfl
  · refine ⟨ga, ca, gb, cb, m, p, A, Z, bA, cA, bZ, cZ, rfl, hm, ⟨by simpa using h⟩, ⟨fun W hW => ?_⟩⟩
    rw [← hA2] at hW
    simpa using hW
  · refine ⟨gb, cb, ga, ca, p, m, Z, A2, bZ, cZ, bA, cA, rfl, hp, ⟨by simpa using h.symm⟩, ⟨fun W hW => ?_⟩⟩
    rw [← hZ2] at hW
    simpa using hW.symm
theorem St.addm {w0 W : World} {base ga ca gb cb n m p q kk : Nat} {A Z : Mat} (h : St W base ga ca gb cb n m p A Z) (hB : Below base w0 W) (hC : Col W q kk) {i d : Nat} (hi : i < n) (hd : d < n) {bi ci bd cd : Nat} (hci : W.cell? ⟨ga, i, none⟩ = some (.slice (some ⟨bi, 0, none⟩) m ci)) (hcd : W.cell? ⟨ga, d, none⟩ = some (.slice (some ⟨bd, 0, none⟩) m cd)) (hm : 0 < m) (hm2 : m ≤ 255) (x : B) :
    Calls Try.prog 48 #[.slice (some ⟨bi, 0, none⟩) m ci, .slice (some ⟨bd, 0, none⟩) m cd, .int .u8 (ofB x)] W fun e w' => ∃ b c, e = .returned (.tuple #[.slice (some ⟨b, 0, none⟩) m c, .bool true]) ∧ w'.frozen? ⟨ga, i, none⟩ = false ∧ (∃ u, w'.cell? ⟨ga, i, none⟩ = some u) ∧
      Aside0 (St (w'.setCell ⟨ga, i, none⟩ (.slice (some ⟨b, 0, none⟩) m c)) base ga ca gb cb n m p (A.set i (am (row A i) (row A d) x (row A i).length)) Z) ∧ Aside0 (Below base w0 (w'.setCell ⟨ga, i, none⟩ (.slice (some ⟨b, 0, none⟩) m c))) ∧ Aside0 (Col (w'.setCell ⟨ga, i, none⟩ (.slice (some ⟨b, 0, none⟩) m c)) q kk) ∧ Below W.heap.size W w' := by
  obtain ⟨hA, _, hg, _, hg2, _⟩ := h.reg
  have hs : base ≤ W.heap.size := by omega
  have look : ∀ (k b c : Nat), k < n → W.cell? ⟨ga, k, none⟩ = some (.slice (some ⟨b, 0, none⟩) m c) → Rw W base b c (ofL (row A k)) := by
    intro k b c hk hc
    obtain ⟨b', c', h1, _, h2⟩ := h.read k hk
    rw [hc] at h1
    have := Option.some.inj h1
    injection this with t1 t2 t3
    injection t1 with t1
    injection t1 with t1
    subst t1 t3
    exact h2
  obtain ⟨r1, r1'⟩ := (look i bi ci hi hci).reads
  obtain ⟨r2, r2'⟩ := (look d bd cd hd hcd).reads
  have l1 : (row A i).length = m := hA.2 i hi
  have l2 : (row A d).length = m := hA.2 d hd
  obtain ⟨k0, hk0⟩ := gfAddMul (row A i) (row A d) x (by omega)
  have hf := hk0 k0 (Nat.le_refl _)
  unfold addMulB at hf
  rw [if_pos (by omega)] at hf
  have hcall := P.gf_AddMul.calls k0 _ ci (ofL (row A i)) _ cd (ofL (row A d)) (ofB x) _ _ W r1 r1' r2 r2' hf
  rw [ofL_length, ofL_length, l1, l2] at hcall
  rw [l1]
  refine hcall.mono ?_
  rintro e w' ⟨v, rfl, hR, hb⟩
  obtain ⟨b, c, rfl, s1, s2, s3, s4, s5⟩ := h.sum hB hC hs hb hi hR (by rw [am_length]; exact l1) hm
  exact ⟨b, c, rfl, s4, s5, ⟨s1⟩, ⟨s2⟩, ⟨s3⟩, hb⟩
end Go.Proofs.Ytbogmlckbkogiaa.H
namespace Go.Proofs.Ytbogmlckbkogiaa.H
open Go.RowKit Go.Proofs.YtbogmlckbkogiaaW.PrintWords Go.Proofs.YtbogmlckbkogiaaW.PrintLast Go.Proofs.Ytbogmlckbkogiaa.Leaf Go.Proofs.Ytbogmlckbkogiaa.Gf Go.Proofs.Ytbogmlckbkogiaa.Red
set_option linter.unusedVariables false
set_option linter.unusedSimpArgs false
def red_T : Bool × List (List Nat × List Nat) := (true, [([], []), ([], []), ([], []), ([], []), ([2, 3], [2, 3]), ([4], [4]), ([], []), ([], []), ([6, 7], [6, 7]), ([8], [8]), ([], []), ([5, 9, 10], [5, 9, 10]), ([11], [11]), ([12], [12]), ([12], [12]), ([0, 1, 0, 1, 2, 3, 4, 5, 6, 7, 8, 9, 10, 11, 12, 13], [0, 1]), ([15, 13, 11, 0, 1, 2, 3, 4, 5, 6, 7, 8, 9, 10, 11, 12, 13], [13, 15])])
def red_B : List Nat := [0, 0, 0, 0, 12, 28, 0, 0, 192, 448, 0, 2044, 4092, 8188, 8188, 16383, 49151]
theorem red_tab25 : rtab .any (opsOf Try.f90 25) = red_T := by kernel_rfl
theorem red_tab26 : rtab .any (opsOf Try.f90 26) = red_T := by kernel_rfl
theorem red_bits25 : waitsOk red_T.2 red_B = true := by kernel_rfl
theorem red_bits26 : waitsOk red_T.2 red_B = true := by kernel_rfl
set_option maxHeartbeats 8000000 in
set_option maxRecDepth 100000 in
theorem reduce_calls (w : World) (base ga ca gb cb n m p : Nat) (A Z : Mat) (hS : St w base ga ca gb cb n m p A Z) (hn : 0 < n) (hm : 0 < m) (hp : 0 < p) (hpp : p ≤ 255) (hnm : n ≤ 255) (hmm : m ≤ 255) (hbase : base ≤ w.heap.size) :
    Calls Try.prog 90 #[.slice (some ⟨ga, 0, none⟩) n ca, .slice (some ⟨gb, 0, none⟩) n cb] w fun e w' => e = .returned (.int .i64 ((redF m 0 0 A Z).1 : Int)) ∧ St w' base ga ca gb cb n m p (redF m 0 0 A Z).2.1 (redF m 0 0 A Z).2.2 ∧ Below base w w' := by
  obtain ⟨b0, c0, hcell0, _, hrw0⟩ := hS.read 0 hn
  have HS := Aside0.mk hS
  clear hS
  have hn0 : (0 : Int) < (n : Int) := by omega
  go_enter Try.func90, Try.ntmps90
  go_wp2
  go_loopg [5, 19] m (fun g d k wr => ∃ dd kk A' Z', d = .int .i64 ((dd : Nat) : Int) ∧ k = .int .i64 ((kk : Nat) : Int) ∧ kk + g = m ∧ dd < n ∧ St wr base ga ca gb cb n m p A' Z' ∧ Below base w wr ∧ redF g kk dd A' Z' = redF m 0 0 A Z)
  case atStart => exact ⟨0, 0, A, Z, rfl, rfl, Nat.zero_add _, hn, HS.out, Below.refl _ _, rfl⟩
  case round =>
    
    obtain ⟨dd, kk, A', Z', rfl, rfl, hk, hd, hS, hB, hR⟩ := hrel
    by_cases hlt : kk < m
    · have hlt' : (kk : Int) < (m : Int) := by omega
      have hcut := cut_run ga n ca dd hd hS.cap.1
      have hidx := Aside0.mk (fun q W (hq : W.cell? q = some (.int .i64 (kk : Int))) (hb : Below wr.heap.size wr W) => idx_calls hS hd hnm hlt hq hb)
      have HS := Aside0.mk hS
      have HB := Aside0.mk hB
      have hR2 : redF ((gk - 1) + 1) kk dd A' Z' = redF m 0 0 A Z := by rw [show (gk - 1) + 1 = gk by omega]; exact hR
      simp only [redF] at hR2
      clear hS hB
      by_cases hneg : pivot A' dd kk < 0
      · rw [if_pos hneg] at hR2
        have hR3 := Aside0.mk hR2
        clear hR2 hR
        have hd1 : decide (pivot A' dd kk < 0) = true := decide_eq_true hneg
        generalize pivot A' dd kk = pv at *
        go_wp2_with (first | (go_at_call 99; refine (hidx.out _ _ (by simp) (by repeat (first | exact Below.refl _ _ | apply below_alloc | apply below_drew))).mono ?_; rintro e w' ⟨rfl, hb⟩))
        go_roundg (gk - 1)
        case rel =>
          have hbb := below_step (below_alloc (Below.refl _ _) _) hb
          exact ⟨dd, kk + 1, A', Z', rfl, by first | rfl | go_num, by omega, hd, HS.out.below hbb, below_then HB.out (Nat.le_trans hbase HB.out.size) hbb, hR3.out⟩
        case measure => omega
      · rw [if_neg hneg] at hR2
        have hd1 : decide (pivot A' dd kk < 0) = false := decide_eq_false hneg
        obtain ⟨t, ht, htn, htx, hnone⟩ := pivot_hit HS.out.reg.1 hneg
        have HX := Aside0.mk htx
        have hAl : Aside0 (A'.length = n) := ⟨HS.out.reg.1.1⟩
        clear htx hnone
        rw [ht] at hR2 hd1 hidx
        rw [show gk - 1 = m - (kk + 1) by omega, Int.toNat_natCast] at hR2
        have hR3 := Aside0.mk hR2
        clear hR2 hR
        have hadd : IntKind.i64.wrap ((t : Int) + (dd : Int)) = ((dd + t : Nat) : Int) := by rw [IntWalk.i64_in _ (by omega)]; omega
        go_upto_region 8 with (first | (go_at_call 99; refine (hidx.out _ _ (by simp) (by repeat (first | exact Below.refl _ _ | apply below_alloc | apply below_drew))).mono ?_; rintro e w' ⟨rfl, hb⟩))
        have hbb := below_step (below_alloc (Below.refl _ _) _) hb
        have hS1 := HS.out.below hbb
        have hB1 := below_then HB.out (Nat.le_trans hbase HB.out.size) hbb
        have hC0 : Col (wr.alloc (Obj.cells #[Value.int IntKind.i64 ↑kk] 3)) wr.heap.size kk := ⟨⟨#[Value.int IntKind.i64 ↑kk], heap_alloc_last wr _⟩, by simp⟩
        have hC1 := hC0.below hb
        clear hC0 hbb hb hidx HS HB hcut hd1 ht hneg hadd
        generalize wr.heap.size = q at *
        clear wr
        have hi1 : (0 : Int) ≤ ((dd + t : Nat) : Int) := by omega
        have hi2 : ((dd + t : Nat) : Int) < (n : Int) := by omega
        have hi3 : (0 : Int) ≤ (dd : Int) := by omega
        have hi4 : (dd : Int) < (n : Int) := by omega
        obtain ⟨bt, ct, hct, hft, hrt⟩ := hS1.read (dd + t) htn
        obtain ⟨bd, cd, hcd, hfd, hrd⟩ := hS1.read dd hd
        clear hrt hrd
        have HS := Aside0.mk hS1
        have HB := Aside0.mk hB1
        have HC := Aside0.mk hC1
        clear hS1 hB1 hC1
        obtain ⟨v1, hv1⟩ := cell?_setCell_some (w := w') (p := ⟨ga, dd + t, none⟩) (x := .slice (some ⟨bd, 0, none⟩) m cd) (q := ⟨ga, dd, none⟩) (v := .slice (some ⟨bd, 0, none⟩) m cd) hcd
        have hv1f : (w'.setCell ⟨ga, dd + t, none⟩ (.slice (some ⟨bd, 0, none⟩) m cd)).frozen? ⟨ga, dd, none⟩ = false := by rw [World.frozen?_setCell]; exact hfd
        go_region
        obtain ⟨hS1, hB1, hC1⟩ := HS.out.exch HB.out HC.out htn hd hct hcd
        clear HS HB HC hv1 hv1f hct hft hcd hfd
        generalize ((w'.setCell ⟨ga, dd + t, none⟩ (.slice (some ⟨bd, 0, none⟩) m cd)).setCell ⟨ga, dd, none⟩ (.slice (some ⟨bt, 0, none⟩) m ct)).drew = w2 at *
        obtain ⟨bt, ct, hct, hft, hrt⟩ := hS1.symm.read (dd + t) htn
        obtain ⟨bd, cd, hcd, hfd, hrd⟩ := hS1.symm.read dd hd
        clear hrt hrd
        have HS := Aside0.mk hS1
        have HB := Aside0.mk hB1
        have HC := Aside0.mk hC1
        clear hS1 hB1 hC1
        obtain ⟨v1, hv1⟩ := cell?_setCell_some (w := w2) (p := ⟨gb, dd + t, none⟩) (x := .slice (some ⟨bd, 0, none⟩) p cd) (q := ⟨gb, dd, none⟩) (v := .slice (some ⟨bd, 0, none⟩) p cd) hcd
        have hv1f : (w2.setCell ⟨gb, dd + t, none⟩ (.slice (some ⟨bd, 0, none⟩) p cd)).frozen? ⟨gb, dd, none⟩ = false := by rw [World.frozen?_setCell]; exact hfd
        go_wp2
        go_region
        obtain ⟨hS1', hB1, hC1⟩ := HS.out.symm.exch HB.out HC.out htn hd hct hcd
        have hS1 := hS1'.symm
        clear HS HB HC hv1 hv1f hct hft hcd hfd hS1' hi1 hi2
        generalize ((w2.setCell ⟨gb, dd + t, none⟩ (.slice (some ⟨bd, 0, none⟩) p cd)).setCell ⟨gb, dd, none⟩ (.slice (some ⟨bt, 0, none⟩) p ct)).drew = w3 at *
        -- inv
        obtain ⟨bA, cA, hcA, hfA, hrA⟩ := hS1.read dd hd
        obtain ⟨bZ, cZ, hcZ, hfZ, hrZ⟩ := hS1.symm.read dd hd
        clear hrZ
        have hxc := (hrA.cell kk (by rw [ofL_length, hS1.reg.1.2 dd hd]; exact hlt)).1
        rw [rd_ofL] at hxc
        have hqc := hC1.2
        have HSc := Aside0.mk (Sc.mk hS1 hB1 hC1 hcA hcZ)
        clear hS1 hB1 hC1 hrA
        have hk0 : (0 : Int) ≤ (kk : Int) := by omega
        have hinv := fun W => gf_Inv.calls (ofB (at0 (row (swapM A' (dd + t) dd) dd) kk)) _ _ W (gfInv_eq _)
        generalize hxx : ofB (at0 (row (swapM A' (dd + t) dd) dd) kk) = x at hxc hinv
        generalize hiv : inv (at0 (row (swapM A' (dd + t) dd) dd) kk) = iv at hinv
        generalize decide (at0 (row (swapM A' (dd + t) dd) dd) kk ≠ 0#8) = bb at hinv
        have HXX := Aside0.mk hxx
        have HIV := Aside0.mk hiv
        have hInv : Aside0 (∀ W, (Below w3.heap.size w3 W ∧ W.cell? ⟨ga, dd, none⟩ = some (.slice (some ⟨bA, 0, none⟩) m cA) ∧ W.cell? ⟨q, 0, none⟩ = some (.int .i64 (kk : Int)) ∧ W.cell? ⟨bA, kk, none⟩ = some (.int .u8 x)) →
            Calls Try.prog 28 #[.int .u8 x] W fun e w' => e = .returned (.tuple #[.int .u8 (ofB iv), .bool bb]) ∧ (Below w3.heap.size w3 w' ∧ w'.cell? ⟨ga, dd, none⟩ = some (.slice (some ⟨bA, 0, none⟩) m cA) ∧ w'.cell? ⟨q, 0, none⟩ = some (.int .i64 (kk : Int)) ∧ w'.cell? ⟨bA, kk, none⟩ = some (.int .u8 x))) :=
          ⟨fun W h => (hinv W).mono fun e w' ⟨he, hb⟩ => ⟨he, below_step h.1 hb, pw_cell_below hb h.2.1, pw_cell_below hb h.2.2.1, pw_cell_below hb h.2.2.2⟩⟩
        clear hxx hiv hinv
        go_wp2
        go_region_held3 (fun w' => Below w3.heap.size w3 w' ∧ w'.cell? ⟨ga, dd, none⟩ = some (.slice (some ⟨bA, 0, none⟩) m cA) ∧ w'.cell? ⟨q, 0, none⟩ = some (.int .i64 (kk : Int)) ∧ w'.cell? ⟨bA, kk, none⟩ = some (.int .u8 x)) (first | assumption | exact ⟨(Below.refl _ _).drew, hcA, hqc, hxc⟩)
          (first | (go_at_call 28; refine (hInv.out _ (by assumption)).mono ?_; rintro e w' ⟨rfl, hb⟩))
        obtain ⟨hb1, hcA', hqc', hxc'⟩ := hb
        have hSc := HSc.out.below HSc.out.size hb1
        clear hcA hcZ hqc hxc hInv HSc hfA hfZ hcA' hqc' hxc' hb1
        have hcA := hSc.ra
        have hcZ := hSc.rz
        have HSc := Aside0.mk hSc
        clear hSc
        go_wp2
        go_region
        obtain ⟨HSc4, HPr⟩ := HSc.out.start
        clear HSc hcA hcZ
        generalize (w'.alloc (.cells #[.slice (some ⟨bA, 0, none⟩) m cA, .slice (some ⟨bZ, 0, none⟩) p cZ] 22 (0, 0))).drew = w4 at *
        generalize w'.heap.size = g2 at *
        obtain ⟨A1, hA1⟩ : ∃ A1, A1 = swapM A' (dd + t) dd := ⟨_, rfl⟩
        obtain ⟨Z1, hZ1⟩ : ∃ Z1, Z1 = swapM Z' (dd + t) dd := ⟨_, rfl⟩
        rw [← hA1, ← hZ1] at HSc4
        obtain ⟨A2, hA2⟩ : ∃ A2, A2 = A1.set dd (scale iv (row A1 dd)) := ⟨_, rfl⟩
        obtain ⟨Z2, hZ2⟩ : ∃ Z2, Z2 = Z1.set dd (scale iv (row Z1 dd)) := ⟨_, rfl⟩
        have EA1 := Aside0.mk hA1
        have EZ1 := Aside0.mk hZ1
        have EA2 := Aside0.mk hA2
        have EZ2 := Aside0.mk hZ2
        clear hA1 hZ1 hA2 hZ2
        go_wp2
        go_loopg [81] 2 (fun gg s81 wr => ∃ i : Nat, i + gg = 2 ∧ s81 = .int .i64 (i : Int) ∧ Aside0 (Sc wr w base ga ca gb cb n m p (if 1 ≤ i then A2 else A1) (if 2 ≤ i then Z2 else Z1) q kk dd bA cA bZ cZ) ∧ Aside0 (Pr wr g2 (vv (.slice (some ⟨bA, 0, none⟩) m cA) (.slice (some ⟨bZ, 0, none⟩) p cZ))))
        case atStart => exact ⟨0, rfl, rfl, by simpa using HSc4, HPr⟩
        case round =>
          clear HSc4 HPr
          obtain ⟨i, hig, rfl, HSc, HPr⟩ := hrel
          by_cases hi2 : i < 2
          · have hi2' : (i : Int) < 2 := by omega
            have hi0' : (0 : Int) ≤ (i : Int) := by omega
            obtain ⟨gX, cX, gY, cY, mX, mY, X, Y, bX, kX, bY, kY, hvv, hmX, HX1, HX2⟩ := Sc.pick hd hm hp EA2.out EZ2.out i hi2 HSc.out
            have hp2 := HPr.out.2 i hi2
            rw [hvv] at hp2
            clear hvv HSc
            have hle := (HX1.out.rw_ hd).reads.1.2.1
            rw [ofL_length, HX1.out.st.reg.1.2 dd hd] at hle
            go_wp2
            go_loopg [87] mX (fun gg s87 wr => ∃ (j : Nat) (r : List B), j + gg = mX ∧ s87 = .int .i64 (j : Int) ∧ r.length = mX ∧ Aside0 (scF iv gg j r = scale iv (row X dd)) ∧ Aside0 (Sc wr w base gX cX gY cY n mX mY (X.set dd r) Y q kk dd bX kX bY kY) ∧ Aside0 (Pr wr g2 (vv (.slice (some ⟨bA, 0, none⟩) m cA) (.slice (some ⟨bZ, 0, none⟩) p cZ))))
            case atStart => exact ⟨0, row X dd, Nat.zero_add _, rfl, HX1.out.st.reg.1.2 dd hd, ⟨by unfold scale; rw [HX1.out.st.reg.1.2 dd hd]⟩, ⟨by rw [set_self _ _ (by rw [HX1.out.st.reg.1.1]; exact hd)]; exact HX1.out⟩, HPr⟩
            case round =>
              have hXl : Aside0 (dd < X.length) := ⟨by rw [HX1.out.st.reg.1.1]; exact hd⟩
              clear HX1 HPr hp2
              obtain ⟨j, r, hjg, rfl, hrl, HE, HX1, HPr⟩ := hrel
              by_cases hj : j < mX
              · have hj' : (j : Int) < (mX : Int) := by omega
                have hj0 : (0 : Int) ≤ (j : Int) := by omega
                have HRW : Aside0 (∀ W, Sc W w base gX cX gY cY n mX mY (X.set dd r) Y q kk dd bX kX bY kY → Rw W base bX kX (ofL r)) := ⟨fun W h => by have := h.rw_ hd; rw [row_set_self _ _ _ hXl.out] at this; exact this⟩
                obtain ⟨hcell, hfrz⟩ := (HRW.out _ HX1.out).cell j (by rw [ofL_length, hrl]; exact hj)
                have hC2 : Aside0 (∀ W, Below wr.heap.size wr W → W.cell? ⟨bX, j, none⟩ = some (.int .u8 (rd (ofL r) (j : Int))) ∧ W.frozen? ⟨bX, j, none⟩ = false) := ⟨fun W hb => (HRW.out _ (HX1.out.below HX1.out.size hb)).cell j (by rw [ofL_length, hrl]; exact hj)⟩
                have hmul : Aside0 (∀ W, Calls Try.prog 26 #[.int .u8 (rd (ofL r) (j : Int)), .int .u8 (ofB iv)] W fun e w' => e = .returned (.int .u8 (ofB (mul (at0 r j) iv))) ∧ Below W.heap.size W w') := ⟨fun W => by rw [rd_ofL]; exact gf_Mul.calls _ _ _ W (gfMul_eq _ _)⟩
                obtain ⟨y, hy⟩ : ∃ y, y = mul (at0 r j) iv := ⟨_, rfl⟩
                rw [← hy] at hmul
                have HY := Aside0.mk hy
                clear hy
                generalize rd (ofL r) (j : Int) = x at *
                go_wp2_with (go_at_call 26; refine (hmul.out _).mono ?_; rintro e w' ⟨rfl, hb⟩; obtain ⟨hcell2, hfrz2⟩ := hC2.out _ hb; have HB2 := Aside0.mk hb; clear hb)
                go_roundg (mX - (j + 1))
                case measure => omega
                case rel =>
                  have hs := HX1.out.below HX1.out.size HB2.out
                  have hp3 := HPr.out.below HB2.out
                  obtain ⟨cs, hcs⟩ := (HRW.out _ hs).typed
                  have hput := hs.put hd j y
                  rw [row_set_self _ _ _ hXl.out, set_set'] at hput
                  refine ⟨j + 1, r.set j y, by omega, by go_num, by rw [List.length_set]; exact hrl, ⟨?_⟩, ⟨hput⟩, ⟨hp3.put hcs (by decide) _⟩⟩
                  rw [← HE.out, show gk = (mX - (j + 1)) + 1 by omega, HY.out]
                  rfl
              · have hj' : ¬ (j : Int) < (mX : Int) := by omega
                have hjm : gk = 0 := by omega
                have HE2 : Aside0 (r = scale iv (row X dd)) := ⟨by rw [← HE.out, hjm]; rfl⟩
                clear HE hjm
                go_wp2
                go_roundg (2 - (i + 1))
                case measure => omega
                case rel =>
                  have := HX1.out
                  rw [HE2.out] at this
                  exact ⟨i + 1, by omega, by go_num, ⟨HX2.out _ this⟩, HPr⟩
          · have hi2' : ¬ (i : Int) < 2 := by omega
            have hii : 2 ≤ i := by omega
            have hSc := HSc.out
            rw [if_pos (by omega), if_pos hii] at hSc
            have HSc := Aside0.mk hSc
            have EZ2' := EZ2.out
            have HZ2 := Aside0.mk EZ2'
            clear EZ2'
            clear hSc hii HPr
            clear hig
            have hA2l : Aside0 (A2.length = n) := ⟨HSc.out.st.reg.1.1⟩
            go_wp2
            go_loopg [103] n (fun gg s103 wr => ∃ (i : Nat) (Ai Zi : Mat), i + gg = n ∧ s103 = .int .i64 (i : Int) ∧ Aside0 (elF kk dd gg i Ai Zi = elF kk dd n 0 A2 Z2) ∧ Aside0 (St wr base ga ca gb cb n m p Ai Zi) ∧ Aside0 (Below base w wr) ∧ Aside0 (Col wr q kk))
            case atStart => exact ⟨0, A2, Z2, Nat.zero_add _, rfl, ⟨rfl⟩, ⟨HSc.out.st⟩, ⟨HSc.out.bl⟩, ⟨HSc.out.col⟩⟩
            case round =>
              clear HSc
              obtain ⟨i, Ai, Zi, hig, rfl, HE, HS, HB, HC⟩ := hrel
              by_cases hin : i < n
              · have hin' : (i : Int) < (n : Int) := by omega
                have hi0 : (0 : Int) ≤ (i : Int) := by omega
                obtain ⟨bi, ci, hci, hfi, hri⟩ := HS.out.read i hin
                have hxc := (hri.cell kk (by rw [ofL_length, HS.out.reg.1.2 i hin]; exact hlt)).1
                rw [rd_ofL] at hxc
                have hqc := HC.out.2
                have HRI := Aside0.mk hri
                clear hri
                have HE1 : Aside0 ((if i ≠ dd ∧ el Ai i kk ≠ 0#8 then elF kk dd (gk - 1) (i + 1) (Ai.set i (am (row Ai i) (row Ai dd) (el Ai i kk) (row Ai i).length)) (Zi.set i (am (row Zi i) (row Zi dd) (el Ai i kk) (row Zi i).length)) else elF kk dd (gk - 1) (i + 1) Ai Zi) = elF kk dd n 0 A2 Z2) := ⟨by rw [← HE.out, show elF kk dd gk i Ai Zi = elF kk dd ((gk - 1) + 1) i Ai Zi by rw [show (gk - 1) + 1 = gk by omega]]; rfl⟩
                clear HE
                by_cases hskip : i ≠ dd ∧ el Ai i kk ≠ 0#8
                · have HE : Aside0 (elF kk dd (gk - 1) (i + 1) (Ai.set i (am (row Ai i) (row Ai dd) (el Ai i kk) (row Ai i).length)) (Zi.set i (am (row Zi i) (row Zi dd) (el Ai i kk) (row Zi i).length)) = elF kk dd n 0 A2 Z2) := ⟨by have := HE1.out; rw [if_pos hskip] at this; exact this⟩
                  clear HE1
                  have t1 : ((i : Int) != (dd : Int)) = true := by simp; omega
                  have t2 : (i == dd) = false := by simp [hskip.1]
                  have t3 : (i != dd) = true := by simp [hskip.1]
                  have hx0 : ofB (at0 (row Ai i) kk) ≠ 0 := fun h => hskip.2 ((ofB_eq_zero _).1 h)
                  have t4 : (ofB (at0 (row Ai i) kk) != 0) = true := by simp [hx0]
                  have t5 : (ofB (at0 (row Ai i) kk) == 0) = false := by simp [hx0]
                  obtain ⟨bd, cd, hcd, hfd, hrd⟩ := HS.out.read dd hd
                  clear hrd hfd
                  have hadd : Aside0 (∀ W, St W base ga ca gb cb n m p Ai Zi → Below base w W → Col W q kk → W.cell? ⟨ga, i, none⟩ = some (.slice (some ⟨bi, 0, none⟩) m ci) → W.cell? ⟨ga, dd, none⟩ = some (.slice (some ⟨bd, 0, none⟩) m cd) → _) := ⟨fun W h1 h2 h3 h4 h5 => h1.addm h2 h3 hin hd h4 h5 hm hmm (el Ai i kk)⟩
                  have HXE : Aside0 (ofB (el Ai i kk) = ofB (at0 (row Ai i) kk)) := ⟨rfl⟩
                  rw [HXE.out] at hadd
                  clear hx0 hskip
                  generalize ofB (at0 (row Ai i) kk) = x at *
                  go_wp2
                  go_quiet (fail)
                  have HS5 : Aside0 (St (wr.drewN nq) base ga ca gb cb n m p Ai Zi) := ⟨HS.out.below (pw_below_drewN (Below.refl _ _) _)⟩
                  have HB5 : Aside0 (Below base w (wr.drewN nq)) := ⟨pw_below_drewN HB.out _⟩
                  have HC5 : Aside0 (Col (wr.drewN nq) q kk) := ⟨HC.out.below (pw_below_drewN (Below.refl _ _) _)⟩
                  have hci5 : (wr.drewN nq).cell? ⟨ga, i, none⟩ = some (.slice (some ⟨bi, 0, none⟩) m ci) := hci
                  have hcd5 : (wr.drewN nq).cell? ⟨ga, dd, none⟩ = some (.slice (some ⟨bd, 0, none⟩) m cd) := hcd
                  clear HS HB HC hci hcd hqc hxc hfi HRI
                  generalize wr.drewN nq = w5 at *
                  go_upto_region 25 with (fail)
                  refine start_ (n := 17) (S := (fun w' => w'.cell? ⟨ga, i, none⟩ = some (.slice (some ⟨bi, 0, none⟩) m ci) ∧ w'.cell? ⟨ga, dd, none⟩ = some (.slice (some ⟨bd, 0, none⟩) m cd))) (ds := [16]) #[false, false, false, false, false, false, false, false, false, false, false, false, false, false, false, false, false] (by kernel_rfl) rfl rfl ⟨hci5, hcd5⟩ (fun hHeld => ?_); refine with_tabW red_tab25 red_bits25 (fun HT_ HW_ => ?_)
                  replace HS5 : Aside0 (St w5.drew _ _ _ _ _ _ _ _ _ _) := ⟨HS5.out.drew⟩
                  replace HB5 : Aside0 (Below base w w5.drew) := ⟨below_drew HB5.out⟩
                  replace HC5 : Aside0 (Col w5.drew q kk) := ⟨HC5.out.drew⟩
                  replace hci5 : w5.drew.cell? ⟨ga, i, none⟩ = some (.slice (some ⟨bi, 0, none⟩) m ci) := hci5
                  replace hcd5 : w5.drew.cell? ⟨ga, dd, none⟩ = some (.slice (some ⟨bd, 0, none⟩) m cd) := hcd5
                  generalize w5.drew = w6 at HS5 HB5 HC5 hci5 hcd5 hHeld ⊢
                  refine pure_ (i := 0) (N := some 121) (v := ?_) (a' := ?_) #[true, false, false, false, false, false, false, false, false, false, false, false, false, false, false, false, false] rfl rfl (any_of HT_.out (by kernel_rfl)) (fun _ _ _ h => h) (Or.inl ⟨by rfl, ?_⟩) ?_ ?_
                  rotate_left
                  · intro w'
                    go_simp
                    with_reducible rfl
                  rotate_left
                  · simp only [Act.put, List.setIfInBounds_toArray, List.set_cons_zero, List.set_cons_succ, i64_w, i32_w]
                    rfl
                  refine pure_ (i := 1) (N := some 122) (v := ?_) (a' := ?_) #[true, true, false, false, false, false, false, false, false, false, false, false, false, false, false, false, false] rfl rfl (any_of HT_.out (by kernel_rfl)) (fun _ _ _ h => h) (Or.inl ⟨by rfl, ?_⟩) ?_ ?_
                  rotate_left
                  · intro w'
                    go_simp
                    with_reducible rfl
                  rotate_left
                  · simp only [Act.put, List.setIfInBounds_toArray, List.set_cons_zero, List.set_cons_succ, i64_w, i32_w]
                    rfl
                  refine pure_ (i := 2) (N := some 123) (v := ?_) (a' := ?_) #[true, true, true, false, false, false, false, false, false, false, false, false, false, false, false, false, false] rfl rfl (any_of HT_.out (by kernel_rfl)) (fun _ _ _ h => h) (Or.inl ⟨by rfl, ?_⟩) ?_ ?_
                  rotate_left
                  · intro w'
                    go_simp
                    with_reducible rfl
                  rotate_left
                  · simp only [Act.put, List.setIfInBounds_toArray, List.set_cons_zero, List.set_cons_succ, i64_w, i32_w]
                    rfl
                  refine pure_ (i := 3) (N := some 124) (v := ?_) (a' := ?_) #[true, true, true, true, false, false, false, false, false, false, false, false, false, false, false, false, false] rfl rfl (any_of HT_.out (by kernel_rfl)) (fun _ _ _ h => h) (Or.inl ⟨by rfl, ?_⟩) ?_ ?_
                  rotate_left
                  · intro w'
                    go_simp
                    with_reducible rfl
                  rotate_left
                  · simp only [Act.put, List.setIfInBounds_toArray, List.set_cons_zero, List.set_cons_succ, i64_w, i32_w]
                    rfl
                  refine pure_ (i := 4) (N := some 125) (v := ?_) (a' := ?_) #[true, true, true, true, true, false, false, false, false, false, false, false, false, false, false, false, false] rfl rfl (any_of HT_.out (by kernel_rfl)) (fun _ _ _ h => h) (Or.inl ⟨by rfl, ?_⟩) ?_ ?_
                  rotate_left
                  · intro w'
                    go_simp
                    with_reducible rfl
                  rotate_left
                  · simp only [Act.put, List.setIfInBounds_toArray, List.set_cons_zero, List.set_cons_succ, i64_w, i32_w]
                    rfl
                  refine pure_ (i := 6) (N := some 127) (v := ?_) (a' := ?_) #[true, true, true, true, true, false, true, false, false, false, false, false, false, false, false, false, false] rfl rfl (any_of HT_.out (by kernel_rfl)) (fun _ _ _ h => h) (Or.inl ⟨by rfl, ?_⟩) ?_ ?_
                  rotate_left
                  · intro w'
                    go_simp
                    with_reducible rfl
                  rotate_left
                  · simp only [Act.put, List.setIfInBounds_toArray, List.set_cons_zero, List.set_cons_succ, i64_w, i32_w]
                    rfl
                  refine pure_ (i := 7) (N := some 128) (v := ?_) (a' := ?_) #[true, true, true, true, true, false, true, true, false, false, false, false, false, false, false, false, false] rfl rfl (any_of HT_.out (by kernel_rfl)) (fun _ _ _ h => h) (Or.inl ⟨by rfl, ?_⟩) ?_ ?_
                  rotate_left
                  · intro w'
                    go_simp
                    with_reducible rfl
                  rotate_left
                  · simp only [Act.put, List.setIfInBounds_toArray, List.set_cons_zero, List.set_cons_succ, i64_w, i32_w]
                    rfl
                  refine pure_ (i := 8) (N := some 129) (v := ?_) (a' := ?_) #[true, true, true, true, true, false, true, true, true, false, false, false, false, false, false, false, false] rfl rfl (any_of HT_.out (by kernel_rfl)) (fun _ _ _ h => h) (Or.inl ⟨by rfl, ?_⟩) ?_ ?_
                  rotate_left
                  · intro w'
                    go_simp
                    with_reducible rfl
                  rotate_left
                  · simp only [Act.put, List.setIfInBounds_toArray, List.set_cons_zero, List.set_cons_succ, i64_w, i32_w]
                    rfl
                  refine pure_ (i := 10) (N := some 131) (v := ?_) (a' := ?_) #[true, true, true, true, true, false, true, true, true, false, true, false, false, false, false, false, false] rfl rfl (any_of HT_.out (by kernel_rfl)) (fun _ _ _ h => h) (Or.inl ⟨by rfl, ?_⟩) ?_ ?_
                  rotate_left
                  · intro w'
                    go_simp
                    with_reducible rfl
                  rotate_left
                  · simp only [Act.put, List.setIfInBounds_toArray, List.set_cons_zero, List.set_cons_succ, i64_w, i32_w]
                    rfl
                  refine take_ (i := 5) (N := some 126) (v := ?_) (a' := ?_) #[true, true, true, true, true, true, true, true, true, false, true, false, false, false, false, false, false] rfl rfl (take_ofW HT_.out HW_.out (by kernel_rfl)) (fun _ _ _ h => h) (Or.inl ⟨by rfl, ?_⟩) hHeld ?_ ?_
                  rotate_left
                  · rintro w' ⟨s0, s1⟩
                    go_simp
                    with_reducible rfl
                  rotate_left
                  · simp only [Act.put, List.setIfInBounds_toArray, List.set_cons_zero, List.set_cons_succ, i64_w, i32_w]
                    rfl
                  refine take_ (i := 9) (N := some 130) (v := ?_) (a' := ?_) #[true, true, true, true, true, true, true, true, true, true, true, false, false, false, false, false, false] rfl rfl (take_ofW HT_.out HW_.out (by kernel_rfl)) (fun _ _ _ h => h) (Or.inl ⟨by rfl, ?_⟩) hHeld ?_ ?_
                  rotate_left
                  · rintro w' ⟨s0, s1⟩
                    go_simp
                    with_reducible rfl
                  rotate_left
                  · simp only [Act.put, List.setIfInBounds_toArray, List.set_cons_zero, List.set_cons_succ, i64_w, i32_w]
                    rfl
                  refine one_ (i := 11) (N := some 132) #[true, true, true, true, true, true, true, true, true, true, true, true, false, false, false, false, false] rfl rfl (one_of HT_.out (by kernel_rfl)) (by decide) (fun K hK => ?_)
                  refine goes_ Try.func48 (by kernel_rfl) rfl #[.slice (some ⟨bi, 0, none⟩) m ci, .slice (some ⟨bd, 0, none⟩) m cd, .int .u8 x] (by rfl) rfl rfl (by (try simp only [List.map_toArray, List.map_cons, List.map_nil]); first | done | rfl) ?_
                  refine (hadd.out _ HS5.out HB5.out HC5.out hci5 hcd5).mono ?_
                  rintro e w7 ⟨b2, c2, rfl, hf2, ⟨u2, hu2⟩, HS2, HB2, HC2, hb2⟩
                  have hh2 := pw_cell_below hb2 hHeld.1
                  have hh3 := pw_cell_below hb2 hHeld.2
                  refine ⟨_, rfl, ?_⟩
                  clear hb2 hu2
                  refine hK.out _ _ ⟨hh2, hh3⟩ (fun hHeld => ?_)
                  clear hK K
                  refine norm_ (a' := ?_) ?_ ?_
                  rotate_left
                  · show Act.put _ (some 132) _ = _
                    simp only [Act.put, List.setIfInBounds_toArray, List.set_cons_zero, List.set_cons_succ, i64_w, i32_w]
                    rfl
                  refine pure_ (i := 12) (N := some 120) (v := ?_) (a' := ?_) #[true, true, true, true, true, true, true, true, true, true, true, true, true, false, false, false, false] rfl rfl (any_of HT_.out (by kernel_rfl)) (fun _ _ _ h => h) (Or.inl ⟨by rfl, ?_⟩) ?_ ?_
                  rotate_left
                  · intro w'
                    go_simp
                    with_reducible rfl
                  rotate_left
                  · simp only [Act.put, List.setIfInBounds_toArray, List.set_cons_zero, List.set_cons_succ, i64_w, i32_w]
                    rfl
                  refine pure_ (i := 13) (N := some 133) (v := ?_) (a' := ?_) #[true, true, true, true, true, true, true, true, true, true, true, true, true, true, false, false, false] rfl rfl (any_of HT_.out (by kernel_rfl)) (fun _ _ _ h => h) (Or.inl ⟨by rfl, ?_⟩) ?_ ?_
                  rotate_left
                  · intro w'
                    go_simp
                    with_reducible rfl
                  rotate_left
                  · simp only [Act.put, List.setIfInBounds_toArray, List.set_cons_zero, List.set_cons_succ, i64_w, i32_w]
                    rfl
                  refine pure_ (i := 14) (N := some 134) (v := ?_) (a' := ?_) #[true, true, true, true, true, true, true, true, true, true, true, true, true, true, true, false, false] rfl rfl (any_of HT_.out (by kernel_rfl)) (fun _ _ _ h => h) (Or.inl ⟨by rfl, ?_⟩) ?_ ?_
                  rotate_left
                  · intro w'
                    go_simp
                    with_reducible rfl
                  rotate_left
                  · simp only [Act.put, List.setIfInBounds_toArray, List.set_cons_zero, List.set_cons_succ, i64_w, i32_w]
                    rfl
                  refine pure_ (i := 15) (N := some 135) (v := ?_) (a' := ?_) #[true, true, true, true, true, true, true, true, true, true, true, true, true, true, true, true, false] rfl rfl (any_of HT_.out (by kernel_rfl)) (fun _ _ _ h => h) (Or.inl ⟨by rfl, ?_⟩) ?_ ?_
                  rotate_left
                  · intro w'
                    go_simp
                    with_reducible rfl
                  rotate_left
                  · simp only [Act.put, List.setIfInBounds_toArray, List.set_cons_zero, List.set_cons_succ, i64_w, i32_w]
                    rfl
                  refine last_ (i := 16) (N := none) #[true, true, true, true, true, true, true, true, true, true, true, true, true, true, true, true, true] rfl rfl (one_of HT_.out (by kernel_rfl)) (by decide) (fun K hK => ?_)
                  refine skip_ (w1 := ?_) (by rfl) rfl ?_ ?_
                  rotate_left
                  · go_simp
                    rfl
                  refine hK.out _ _ ?_
                  clear hK K
                  refine done_ (done_of HT_.out (by kernel_rfl)) ?_
                  clear hh2 hh3 hHeld hf2 hci5 hcd5 hadd HS5 HB5 HC5
                  clear HT_ HW_
                  have hz1 := HS2.out.symm
                  obtain ⟨bi, ci, hci5, hfi, hri⟩ := hz1.read i hin
                  obtain ⟨bd, cd, hcd5, hfd, hrd⟩ := hz1.read dd hd
                  clear hri hrd hfd
                  have HS5 := Aside0.mk hz1
                  clear hz1 HS2
                  have HB5 := HB2
                  have HC5 := HC2
                  clear HB2 HC2
                  have hadd : Aside0 (∀ W, St W base gb cb ga ca n p m Zi (Ai.set i (am (row Ai i) (row Ai dd) (el Ai i kk) (row Ai i).length)) → Below base w W → Col W q kk → W.cell? ⟨gb, i, none⟩ = some (.slice (some ⟨bi, 0, none⟩) p ci) → W.cell? ⟨gb, dd, none⟩ = some (.slice (some ⟨bd, 0, none⟩) p cd) → _) := ⟨fun W h1 h2 h3 h4 h5 => h1.addm h2 h3 hin hd h4 h5 hp hpp (el Ai i kk)⟩
                  rw [HXE.out] at hadd
                  generalize w7.setCell ⟨ga, i, none⟩ (.slice (some ⟨b2, 0, none⟩) m c2) = w5 at *
                  go_upto_region 26 with (fail)
                  refine start_ (n := 17) (S := (fun w' => w'.cell? ⟨gb, i, none⟩ = some (.slice (some ⟨bi, 0, none⟩) p ci) ∧ w'.cell? ⟨gb, dd, none⟩ = some (.slice (some ⟨bd, 0, none⟩) p cd))) (ds := [16]) #[false, false, false, false, false, false, false, false, false, false, false, false, false, false, false, false, false] (by kernel_rfl) rfl rfl ⟨hci5, hcd5⟩ (fun hHeld => ?_); refine with_tabW red_tab26 red_bits26 (fun HT_ HW_ => ?_)
                  replace HS5 : Aside0 (St w5.drew _ _ _ _ _ _ _ _ _ _) := ⟨HS5.out.drew⟩
                  replace HB5 : Aside0 (Below base w w5.drew) := ⟨below_drew HB5.out⟩
                  replace HC5 : Aside0 (Col w5.drew q kk) := ⟨HC5.out.drew⟩
                  replace hci5 : w5.drew.cell? ⟨gb, i, none⟩ = some (.slice (some ⟨bi, 0, none⟩) p ci) := hci5
                  replace hcd5 : w5.drew.cell? ⟨gb, dd, none⟩ = some (.slice (some ⟨bd, 0, none⟩) p cd) := hcd5
                  generalize w5.drew = w6 at HS5 HB5 HC5 hci5 hcd5 hHeld ⊢
                  refine pure_ (i := 0) (N := some 137) (v := ?_) (a' := ?_) #[true, false, false, false, false, false, false, false, false, false, false, false, false, false, false, false, false] rfl rfl (any_of HT_.out (by kernel_rfl)) (fun _ _ _ h => h) (Or.inl ⟨by rfl, ?_⟩) ?_ ?_
                  rotate_left
                  · intro w'
                    go_simp
                    with_reducible rfl
                  rotate_left
                  · simp only [Act.put, List.setIfInBounds_toArray, List.set_cons_zero, List.set_cons_succ, i64_w, i32_w]
                    rfl
                  refine pure_ (i := 1) (N := some 138) (v := ?_) (a' := ?_) #[true, true, false, false, false, false, false, false, false, false, false, false, false, false, false, false, false] rfl rfl (any_of HT_.out (by kernel_rfl)) (fun _ _ _ h => h) (Or.inl ⟨by rfl, ?_⟩) ?_ ?_
                  rotate_left
                  · intro w'
                    go_simp
                    with_reducible rfl
                  rotate_left
                  · simp only [Act.put, List.setIfInBounds_toArray, List.set_cons_zero, List.set_cons_succ, i64_w, i32_w]
                    rfl
                  refine pure_ (i := 2) (N := some 139) (v := ?_) (a' := ?_) #[true, true, true, false, false, false, false, false, false, false, false, false, false, false, false, false, false] rfl rfl (any_of HT_.out (by kernel_rfl)) (fun _ _ _ h => h) (Or.inl ⟨by rfl, ?_⟩) ?_ ?_
                  rotate_left
                  · intro w'
                    go_simp
                    with_reducible rfl
                  rotate_left
                  · simp only [Act.put, List.setIfInBounds_toArray, List.set_cons_zero, List.set_cons_succ, i64_w, i32_w]
                    rfl
                  refine pure_ (i := 3) (N := some 140) (v := ?_) (a' := ?_) #[true, true, true, true, false, false, false, false, false, false, false, false, false, false, false, false, false] rfl rfl (any_of HT_.out (by kernel_rfl)) (fun _ _ _ h => h) (Or.inl ⟨by rfl, ?_⟩) ?_ ?_
                  rotate_left
                  · intro w'
                    go_simp
                    with_reducible rfl
                  rotate_left
                  · simp only [Act.put, List.setIfInBounds_toArray, List.set_cons_zero, List.set_cons_succ, i64_w, i32_w]
                    rfl
                  refine pure_ (i := 4) (N := some 141) (v := ?_) (a' := ?_) #[true, true, true, true, true, false, false, false, false, false, false, false, false, false, false, false, false] rfl rfl (any_of HT_.out (by kernel_rfl)) (fun _ _ _ h => h) (Or.inl ⟨by rfl, ?_⟩) ?_ ?_
                  rotate_left
                  · intro w'
                    go_simp
                    with_reducible rfl
                  rotate_left
                  · simp only [Act.put, List.setIfInBounds_toArray, List.set_cons_zero, List.set_cons_succ, i64_w, i32_w]
                    rfl
                  refine pure_ (i := 6) (N := some 143) (v := ?_) (a' := ?_) #[true, true, true, true, true, false, true, false, false, false, false, false, false, false, false, false, false] rfl rfl (any_of HT_.out (by kernel_rfl)) (fun _ _ _ h => h) (Or.inl ⟨by rfl, ?_⟩) ?_ ?_
                  rotate_left
                  · intro w'
                    go_simp
                    with_reducible rfl
                  rotate_left
                  · simp only [Act.put, List.setIfInBounds_toArray, List.set_cons_zero, List.set_cons_succ, i64_w, i32_w]
                    rfl
                  refine pure_ (i := 7) (N := some 144) (v := ?_) (a' := ?_) #[true, true, true, true, true, false, true, true, false, false, false, false, false, false, false, false, false] rfl rfl (any_of HT_.out (by kernel_rfl)) (fun _ _ _ h => h) (Or.inl ⟨by rfl, ?_⟩) ?_ ?_
                  rotate_left
                  · intro w'
                    go_simp
                    with_reducible rfl
                  rotate_left
                  · simp only [Act.put, List.setIfInBounds_toArray, List.set_cons_zero, List.set_cons_succ, i64_w, i32_w]
                    rfl
                  refine pure_ (i := 8) (N := some 145) (v := ?_) (a' := ?_) #[true, true, true, true, true, false, true, true, true, false, false, false, false, false, false, false, false] rfl rfl (any_of HT_.out (by kernel_rfl)) (fun _ _ _ h => h) (Or.inl ⟨by rfl, ?_⟩) ?_ ?_
                  rotate_left
                  · intro w'
                    go_simp
                    with_reducible rfl
                  rotate_left
                  · simp only [Act.put, List.setIfInBounds_toArray, List.set_cons_zero, List.set_cons_succ, i64_w, i32_w]
                    rfl
                  refine pure_ (i := 10) (N := some 147) (v := ?_) (a' := ?_) #[true, true, true, true, true, false, true, true, true, false, true, false, false, false, false, false, false] rfl rfl (any_of HT_.out (by kernel_rfl)) (fun _ _ _ h => h) (Or.inl ⟨by rfl, ?_⟩) ?_ ?_
                  rotate_left
                  · intro w'
                    go_simp
                    with_reducible rfl
                  rotate_left
                  · simp only [Act.put, List.setIfInBounds_toArray, List.set_cons_zero, List.set_cons_succ, i64_w, i32_w]
                    rfl
                  refine take_ (i := 5) (N := some 142) (v := ?_) (a' := ?_) #[true, true, true, true, true, true, true, true, true, false, true, false, false, false, false, false, false] rfl rfl (take_ofW HT_.out HW_.out (by kernel_rfl)) (fun _ _ _ h => h) (Or.inl ⟨by rfl, ?_⟩) hHeld ?_ ?_
                  rotate_left
                  · rintro w' ⟨s0, s1⟩
                    go_simp
                    with_reducible rfl
                  rotate_left
                  · simp only [Act.put, List.setIfInBounds_toArray, List.set_cons_zero, List.set_cons_succ, i64_w, i32_w]
                    rfl
                  refine take_ (i := 9) (N := some 146) (v := ?_) (a' := ?_) #[true, true, true, true, true, true, true, true, true, true, true, false, false, false, false, false, false] rfl rfl (take_ofW HT_.out HW_.out (by kernel_rfl)) (fun _ _ _ h => h) (Or.inl ⟨by rfl, ?_⟩) hHeld ?_ ?_
                  rotate_left
                  · rintro w' ⟨s0, s1⟩
                    go_simp
                    with_reducible rfl
                  rotate_left
                  · simp only [Act.put, List.setIfInBounds_toArray, List.set_cons_zero, List.set_cons_succ, i64_w, i32_w]
                    rfl
                  refine one_ (i := 11) (N := some 148) #[true, true, true, true, true, true, true, true, true, true, true, true, false, false, false, false, false] rfl rfl (one_of HT_.out (by kernel_rfl)) (by decide) (fun K hK => ?_)
                  refine goes_ Try.func48 (by kernel_rfl) rfl #[.slice (some ⟨bi, 0, none⟩) p ci, .slice (some ⟨bd, 0, none⟩) p cd, .int .u8 x] (by rfl) rfl rfl (by (try simp only [List.map_toArray, List.map_cons, List.map_nil]); first | done | rfl) ?_
                  refine (hadd.out _ HS5.out HB5.out HC5.out hci5 hcd5).mono ?_
                  rintro e w7 ⟨b2, c2, rfl, hf2, ⟨u2, hu2⟩, HS2, HB2, HC2, hb2⟩
                  have hh2 := pw_cell_below hb2 hHeld.1
                  have hh3 := pw_cell_below hb2 hHeld.2
                  refine ⟨_, rfl, ?_⟩
                  clear hb2 hu2
                  refine hK.out _ _ ⟨hh2, hh3⟩ (fun hHeld => ?_)
                  clear hK K
                  refine norm_ (a' := ?_) ?_ ?_
                  rotate_left
                  · show Act.put _ (some 148) _ = _
                    simp only [Act.put, List.setIfInBounds_toArray, List.set_cons_zero, List.set_cons_succ, i64_w, i32_w]
                    rfl
                  refine pure_ (i := 12) (N := some 136) (v := ?_) (a' := ?_) #[true, true, true, true, true, true, true, true, true, true, true, true, true, false, false, false, false] rfl rfl (any_of HT_.out (by kernel_rfl)) (fun _ _ _ h => h) (Or.inl ⟨by rfl, ?_⟩) ?_ ?_
                  rotate_left
                  · intro w'
                    go_simp
                    with_reducible rfl
                  rotate_left
                  · simp only [Act.put, List.setIfInBounds_toArray, List.set_cons_zero, List.set_cons_succ, i64_w, i32_w]
                    rfl
                  refine pure_ (i := 13) (N := some 149) (v := ?_) (a' := ?_) #[true, true, true, true, true, true, true, true, true, true, true, true, true, true, false, false, false] rfl rfl (any_of HT_.out (by kernel_rfl)) (fun _ _ _ h => h) (Or.inl ⟨by rfl, ?_⟩) ?_ ?_
                  rotate_left
                  · intro w'
                    go_simp
                    with_reducible rfl
                  rotate_left
                  · simp only [Act.put, List.setIfInBounds_toArray, List.set_cons_zero, List.set_cons_succ, i64_w, i32_w]
                    rfl
                  refine pure_ (i := 14) (N := some 150) (v := ?_) (a' := ?_) #[true, true, true, true, true, true, true, true, true, true, true, true, true, true, true, false, false] rfl rfl (any_of HT_.out (by kernel_rfl)) (fun _ _ _ h => h) (Or.inl ⟨by rfl, ?_⟩) ?_ ?_
                  rotate_left
                  · intro w'
                    go_simp
                    with_reducible rfl
                  rotate_left
                  · simp only [Act.put, List.setIfInBounds_toArray, List.set_cons_zero, List.set_cons_succ, i64_w, i32_w]
                    rfl
                  refine pure_ (i := 15) (N := some 151) (v := ?_) (a' := ?_) #[true, true, true, true, true, true, true, true, true, true, true, true, true, true, true, true, false] rfl rfl (any_of HT_.out (by kernel_rfl)) (fun _ _ _ h => h) (Or.inl ⟨by rfl, ?_⟩) ?_ ?_
                  rotate_left
                  · intro w'
                    go_simp
                    with_reducible rfl
                  rotate_left
                  · simp only [Act.put, List.setIfInBounds_toArray, List.set_cons_zero, List.set_cons_succ, i64_w, i32_w]
                    rfl
                  refine last_ (i := 16) (N := none) #[true, true, true, true, true, true, true, true, true, true, true, true, true, true, true, true, true] rfl rfl (one_of HT_.out (by kernel_rfl)) (by decide) (fun K hK => ?_)
                  refine skip_ (w1 := ?_) (by rfl) rfl ?_ ?_
                  rotate_left
                  · go_simp
                    rfl
                  refine hK.out _ _ ?_
                  clear hK K
                  refine done_ (done_of HT_.out (by kernel_rfl)) ?_
                  clear hh2 hh3 hHeld hf2 hci5 hcd5 hadd HS5 HB5 HC5
                  clear HT_ HW_
                  go_wp2
                  go_roundg (n - (i + 1))
                  case measure => omega
                  case rel => exact ⟨i + 1, _, _, by omega, by go_num, ⟨by rw [← HE.out, show gk - 1 = n - (i + 1) by omega]⟩, ⟨HS2.out.symm⟩, HB2, HC2⟩
                · have HE : Aside0 (elF kk dd (gk - 1) (i + 1) Ai Zi = elF kk dd n 0 A2 Z2) := ⟨by have := HE1.out; rw [if_neg hskip] at this; exact this⟩
                  clear HE1
                  by_cases hid : i = dd
                  · have t1 : ((i : Int) != (dd : Int)) = false := by simp [hid]
                    have t2 : (i == dd) = true := by simp [hid]
                    have t3 : (i != dd) = false := by simp [hid]
                    generalize ofB (at0 (row Ai i) kk) = x at *
                    clear hskip hid
                    go_wp2
                    go_quiet (fail)
                    go_wp2
                    go_roundg (n - (i + 1))
                    case measure => omega
                    case rel => exact ⟨i + 1, Ai, Zi, by omega, by go_num, ⟨by rw [← HE.out, show gk - 1 = n - (i + 1) by omega]⟩, ⟨HS.out.below (pw_below_drewN (Below.refl _ _) _)⟩, ⟨pw_below_drewN HB.out _⟩, ⟨HC.out.below (pw_below_drewN (Below.refl _ _) _)⟩⟩
                  · have hx0 : ofB (at0 (row Ai i) kk) = 0 := by rw [ofB_eq_zero]; exact Classical.byContradiction fun h => hskip ⟨hid, h⟩
                    have t1 : ((i : Int) != (dd : Int)) = true := by simp; omega
                    have t2 : (i == dd) = false := by simp [hid]
                    have t3 : (i != dd) = true := by simp [hid]
                    rw [hx0] at hxc
                    clear hskip hid hx0
                    go_wp2
                    go_quiet (fail)
                    go_wp2
                    go_roundg (n - (i + 1))
                    case measure => omega
                    case rel => exact ⟨i + 1, Ai, Zi, by omega, by go_num, ⟨by rw [← HE.out, show gk - 1 = n - (i + 1) by omega]⟩, ⟨HS.out.below (pw_below_drewN (Below.refl _ _) _)⟩, ⟨pw_below_drewN HB.out _⟩, ⟨HC.out.below (pw_below_drewN (Below.refl _ _) _)⟩⟩
              · have hin' : ¬ (i : Int) < (n : Int) := by omega
                have hg0 : gk = 0 := by omega
                have HE2 : Aside0 ((Ai, Zi) = stepF kk dd (t + dd) A' Z') := ⟨by
                  have h := HE.out
                  rw [hg0] at h
                  rw [show (Ai, Zi) = elF kk dd n 0 A2 Z2 from h]
                  unfold stepF
                  simp only []
                  rw [Nat.add_comm t dd, ← EA1.out, ← EZ1.out]
                  have hv : inv (el A1 dd kk) = iv := by rw [EA1.out]; exact HIV.out
                  rw [hv, ← EA2.out, hA2l.out, HZ2.out]⟩
                have HR4 := hR3
                clear HE hg0 hig hR3
                have hlen : A'.length = n := hAl.out
                have HR5 : Aside0 ((if dd + 1 = n then (dd + 1, (Ai, Zi)) else redF (m - (kk + 1)) (kk + 1) (dd + 1) Ai Zi) = redF m 0 0 A Z) := ⟨by rw [← HR4.out, ← HE2.out, hlen]⟩
                clear HR4 HE2 hlen
                by_cases hend : dd + 1 = n
                · have e1 : ((dd : Int) + 1 == (n : Int)) = true := by rw [beq_iff_eq]; omega
                  have e2 : (dd + 1 == n) = true := by rw [beq_iff_eq]; exact hend
                  have HF : Aside0 (redF m 0 0 A Z = (dd + 1, (Ai, Zi))) := ⟨by rw [← HR5.out, if_pos hend]⟩
                  clear hend HR5
                  go_wp2
                  go_ret
                  rw [HF.out]
                  exact ⟨by first | rfl | (rw [Int.natCast_add]; rfl), HS.out, HB.out⟩
                · have e1 : ((dd : Int) + 1 == (n : Int)) = false := by rw [beq_eq_false_iff_ne]; omega
                  have e2 : (dd + 1 == n) = false := by rw [beq_eq_false_iff_ne]; exact hend
                  have HF : Aside0 (redF (m - (kk + 1)) (kk + 1) (dd + 1) Ai Zi = redF m 0 0 A Z) := ⟨by rw [← HR5.out, if_neg hend]⟩
                  have hd2 : dd + 1 < n := by omega
                  clear hend HR5
                  go_wp2
                  go_roundg (m - (kk + 1))
                  case measure => omega
                  case rel => exact ⟨dd + 1, kk + 1, Ai, Zi, by go_num, by go_num, by omega, hd2, HS.out, HB.out, HF.out⟩
    · have hkm : kk = m := by omega
      have hlt' : decide ((kk : Int) < (m : Int)) = false := decide_eq_false (by omega)
      rw [show gk = 0 by omega] at hR
      have hR3 := Aside0.mk hR
      have HS := Aside0.mk hS
      have HB := Aside0.mk hB
      clear hR hS hB
      go_wp2
      go_ret
      have hf : redF m 0 0 A Z = (dd, A', Z') := hR3.out.symm
      rw [hf]
      exact ⟨rfl, HS.out, HB.out⟩
end Go.Proofs.Ytbogmlckbkogiaa.H
namespace Go.Proofs.Ytbogmlckbkogiaa.H
open Go.RowKit Go.Proofs.YtbogmlckbkogiaaW.PrintWords Go.Proofs.Ytbogmlckbkogiaa.Leaf Go.Proofs.Ytbogmlckbkogiaa.Gf
set_option linter.unusedVariables false
set_option linter.unusedSimpArgs false
def byteRow (l : List Int) : Bool := l.all fun x => decide (0 ≤ x) && decide (x < 256)
theorem byteRow_ofL (L : List B) : byteRow (ofL L) = true := by
  unfold byteRow ofL
  simp only [List.all_map, List.all_eq_true, Function.comp, Bool.and_eq_true, decide_eq_true_eq]
  exact fun x _ => ofB_range x
theorem ofL_toB (l : List Int) (h : byteRow l = true) : ofL (l.map toB) = l := by
  unfold ofL
  rw [List.map_map]
  refine (List.map_congr_left fun x hx => ?_).trans (List.map_id' l)
  have := List.all_eq_true.1 h x hx
  simp only [Bool.and_eq_true, decide_eq_true_eq] at this
  exact ofB_toB x this.1 this.2
end Go.Proofs.Ytbogmlckbkogiaa.H
namespace Go.Proofs.Ytbogmlckbkogiaa.H
open Go.RowKit Go.Proofs.YtbogmlckbkogiaaW.PrintWords Go.Proofs.YtbogmlckbkogiaaW.PrintLast Go.Proofs.Ytbogmlckbkogiaa.Leaf Go.Proofs.Ytbogmlckbkogiaa.Gf Go.Proofs.Ytbogmlckbkogiaa.Red Go.Proofs.Ytbogmlckbkogiaa.P
set_option linter.unusedVariables false
set_option linter.unusedSimpArgs false
def unM (l : List (List Int)) : Mat := l.map fun r => r.map toB
theorem unM_oM (A : Mat) : unM (oM A) = A := by
  unfold unM oM ofL
  rw [List.map_map]
  refine (List.map_congr_left fun x hx => ?_).trans (List.map_id' A)
  simp only [Function.comp, List.map_map]
  refine (List.map_congr_left fun y _ => ?_).trans (List.map_id' x)
  exact toB_ofB y
theorem bytes_oM (A : Mat) : (oM A).all byteRow = true := by
  unfold oM
  simp only [List.all_map, List.all_eq_true, Function.comp]
  exact fun x _ => byteRow_ofL x
theorem oM_unM (l : List (List Int)) (h : l.all byteRow = true) : oM (unM l) = l := by
  unfold unM oM
  rw [List.map_map]
  refine (List.map_congr_left fun x hx => ?_).trans (List.map_id' l)
  exact ofL_toB x (List.all_eq_true.1 h x hx)
/-- An inverse, if the matrix may be and has one. -/
def invR (A : Mat) : List (List Int) × Int :=
  if mayB A = true ∧ A.length = (row A 0).length then if (redF A.length 0 0 A (idM A.length)).1 < A.length then ([], 4) else (oM (redF A.length 0 0 A (idM A.length)).2.2, 0) else ([], 1)
def matrix_Inverse.f (l0 : List (List Int)) : Option (List (List Int) × Int) := if l0.all byteRow = true then some (invR (unM l0)) else none
def rankR (A : Mat) : Int × Int := if mayB A = true then (((redF (row A 0).length 0 0 A (zeroM A.length 1)).1 : Int), 0) else (0, 1)
def matrix_Rank.f (l0 : List (List Int)) : Option (Int × Int) := if l0.all byteRow = true then some (rankR (unM l0)) else none
theorem matrix_Inverse.f_oM (A : Mat) : matrix_Inverse.f (oM A) = some (invR A) := by unfold matrix_Inverse.f; rw [if_pos (bytes_oM A), unM_oM]
theorem Mt.lower {w : World} {base base' g cp : Nat} {id cap : Nat → Nat} {A : List (List Int)} (h : Mt w base g cp id cap A) (hb : base' ≤ base) : Mt w base' g cp id cap A :=
  ⟨own_weaken h.outer hb, fun i hi => own_weaken (h.rows i hi) hb, h.inj⟩
/-- Two matrices made one behind the other. -/
theorem St.make {w1 w2 : World} {base n m p : Nat} {A Z : Mat} {va vz : Value} (hZ : Kd.S (Kd.slice 5 (Kd.int .u8)) 22 w1 base (fun _ => True) vz (oM Z)) (hb : Below w1.heap.size w1 w2) (hA : Kd.S (Kd.slice 5 (Kd.int .u8)) 22 w2 w1.heap.size (fun _ => True) va (oM A)) (hbase : base ≤ w1.heap.size)
    (rA : Reg A n m) (rZ : Reg Z n p) (hn : 0 < n) (hm : 0 < m) (hp : 0 < p) : ∃ ga ca gz cz, va = .slice (some ⟨ga, 0, none⟩) n ca ∧ vz = .slice (some ⟨gz, 0, none⟩) n cz ∧ St w2 base ga ca gz cz n m p A Z := by
  obtain ⟨ga, ca, ida, capa, e1, h1, _⟩ := Mt.of_S hA (by rw [oM_length, rA.1]; exact hn) (fun i hi => by rw [oM_length, rA.1] at hi; unfold oM; rw [map_getD, ofL_length, rA.2 i hi]; exact hm)
  obtain ⟨gz, cz, idz, capz, e2, h2, _⟩ := Mt.of_S hZ (by rw [oM_length, rZ.1]; exact hn) (fun i hi => by rw [oM_length, rZ.1] at hi; unfold oM; rw [map_getD, ofL_length, rZ.2 i hi]; exact hp)
  rw [oM_length, rA.1] at e1
  rw [oM_length, rZ.1] at e2
  refine ⟨ga, ca, gz, cz, e1, e2, ida, capa, idz, capz, h1.lower hbase, h2.below hb, fun i j hi hj e => ?_, fun e => ?_, rA, rZ⟩
  · have h3 := (h1.rows i (by rw [oM_length, rA.1]; exact hi)).base_
    have h4 := (h2.rows j (by rw [oM_length, rZ.1]; exact hj)).lt
    omega
  · have h3 := h1.gbase
    have h4 := h2.glt
    omega
theorem St.toS {w : World} {base ga ca gb cb n m p : Nat} {A Z : Mat} (h : St w base ga ca gb cb n m p A Z) : Kd.S (Kd.slice 5 (Kd.int .u8)) 22 w base (fun _ => True) (.slice (some ⟨gb, 0, none⟩) n cb) (oM Z) := by
  obtain ⟨a, b, c, d, h1, h2, h3, h4, h5, h6⟩ := h
  have := Kd.S_mono h2.to_S (ok' := fun _ => True) (fun _ _ => trivial)
  rw [show (Z.map ofL).length = n by rw [List.length_map, h6.1]] at this
  exact this
set_option maxHeartbeats 2000000 in
set_option maxRecDepth 100000 in
theorem matrix_Inverse.calls (A0 : Option Addr) (c0 : Nat) (l0 : List (List Int)) (r1 : List (List Int)) (r2 : Int) (w : World) (hr0 : Kd.C (Kd.slice 5 (Kd.int .u8)) w A0 l0.length l0) (hc0 : l0.length ≤ c0) (h : matrix_Inverse.f l0 = some (r1, r2)) :
    Calls Try.prog 52 #[.slice A0 l0.length c0] w fun e w' => ∃ v0_ : Value, e = .returned (.tuple #[v0_, .int .i64 r2]) ∧ Kd.S (Kd.slice 5 (Kd.int .u8)) 22 w' w.heap.size (fun _ => True) v0_ r1 ∧ Below w.heap.size w w' := by
  unfold matrix_Inverse.f at h
  by_cases hby : l0.all byteRow = true
  · rw [if_pos hby] at h
    obtain ⟨A, rfl⟩ : ∃ A, l0 = oM A := ⟨unM l0, (oM_unM l0 hby).symm⟩
    rw [unM_oM] at h
    have hinv := Option.some.inj h
    clear h hby
    have hlen : A.length ≤ 9223372036854775807 := by have := hr0.2.1; rwa [oM_length] at this
    have hchk : Aside0 (Calls Try.prog 65 #[.slice A0 A.length c0] w fun e w' => e = .returned (.int .i64 (if mayB A = true then 0 else 1)) ∧ Drawn0 w w') := ⟨by
      obtain ⟨k, hk⟩ := (evCheck A hlen).rounds
      have := matrix_Check.calls k A0 c0 (oM A) _ w hr0 hc0 hk
      rwa [oM_length] at this⟩
    rw [oM_length]
    rw [oM_length] at hc0
    unfold invR at hinv
    by_cases hm : mayB A = true
    · rw [hm] at hchk
      obtain ⟨hreg, p1, p2, p3, p4⟩ := mayB_reg hm
      obtain ⟨As, cs, hcell, hrows⟩ := rows_vals hr0
      obtain ⟨ad, rfl, hce⟩ := hcell (by rw [oM_length]; exact p1)
      have hz : w.cell? ad = some (.slice (As 0) (row A 0).length (cs 0)) := by
        have := hce 0 (by rw [oM_length]; exact p1)
        rw [Addr.add_zero'] at this
        unfold oM at this
        rw [map_getD, ofL_length] at this
        exact this
      have hn0 : (0 : Int) < (A.length : Int) := by omega
      clear hce hrows hcell
      by_cases hsq : A.length = (row A 0).length
      · rw [if_pos ⟨hm, hsq⟩] at hinv
        have hsq2 : Reg A A.length A.length := by have := hreg; rw [← hsq] at this; exact this
        have hid : Aside0 (∀ W, Calls Try.prog 68 #[.int .i64 (A.length : Int)] W fun e w' => ∃ v, e = .returned (.tuple #[v, .int .i64 0]) ∧ Kd.S (Kd.slice 5 (Kd.int .u8)) 22 w' W.heap.size (fun _ => True) v (oM (idM A.length)) ∧ Below W.heap.size W w') := ⟨fun W => by
          obtain ⟨k, hk⟩ := (evIdentity (A.length : Int)).rounds
          unfold idR at hk
          rw [if_pos (by omega), Int.toNat_natCast] at hk
          exact matrix_Identity.calls k _ _ _ W hk⟩
        have hown : Aside0 (∀ W, Below w.heap.size w W → Calls Try.prog 91 #[.slice (some ad) A.length c0] W fun e w' => ∃ v, e = .returned v ∧ Kd.S (Kd.slice 5 (Kd.int .u8)) 22 w' W.heap.size (fun _ => True) v (oM A) ∧ Below W.heap.size W w') := ⟨fun W hW => by
          obtain ⟨k, hk⟩ := (evOwn A (by omega) (fun i hi => by rw [hreg.2 i hi]; omega)).rounds
          have := matrix_own.calls k _ c0 (oM A) _ W (Kd.C_below hr0 hW) (by rw [oM_length]; exact hc0) hk
          rwa [oM_length] at this⟩
        have t1 : ((A.length : Int) != ((row A 0).length : Int)) = false := by simp [hsq]
        have t2 : (A.length == (row A 0).length) = true := by simp [← hsq]
        have t3 : (A.length != (row A 0).length) = false := by simp [← hsq]
        have HR := Aside0.mk hinv
        have HG := Aside0.mk hsq2
        have HP := Aside0.mk (show 0 < A.length ∧ A.length ≤ 255 from ⟨p1, p2⟩)
        have HSQ := Aside0.mk hsq
        clear hinv hsq2 hsq hm hreg p3 p4 hr0
        go_enter Try.func52, Try.ntmps52
        go_wp2_with fail
        refine hchk.out.mono ?_
        rintro e w' ⟨rfl, ⟨nq, rfl⟩⟩
        clear hchk
        go_wp2_with fail
        refine (hid.out _).mono ?_
        rintro e w1 ⟨vz, rfl, hSz, hb1⟩
        have hbz : Below w.heap.size w w1 := below_step (pw_below_drewN (Below.refl _ _) nq) hb1
        have HZ : Aside0 (Kd.S (Kd.slice 5 (Kd.int .u8)) 22 w1 w.heap.size (fun _ => True) vz (oM (idM A.length))) := ⟨hSz⟩
        have HB1 := Aside0.mk hbz
        clear hid hSz hbz hb1
        go_wp2_with fail
        refine (hown.out _ HB1.out).mono ?_
        rintro e w2 ⟨va, rfl, hSa, hb2⟩
        obtain ⟨ga, ca, gz, cz, rfl, rfl, hSt⟩ := St.make HZ.out hb2 hSa (below_size HB1.out) HG.out (matF_reg _ _ _) HP.out.1 HP.out.1 HP.out.1
        have hb3 := below_step HB1.out hb2
        have hred := reduce_calls w2 w.heap.size ga ca gz cz A.length A.length A.length A (idM A.length) hSt HP.out.1 HP.out.1 HP.out.1 HP.out.2 HP.out.2 HP.out.2 (below_size hb3)
        have HRED := Aside0.mk hred
        have HB3 := Aside0.mk hb3
        clear hred hb3 hSt hSa hb2 HZ HB1 hown
        have hle := redF_le HP.out.1 HG.out (matF_reg A.length A.length Mx.I)
        rw [← idM_eq] at hle
        generalize redF A.length 0 0 A (idM A.length) = R at *
        obtain ⟨cnt, Ra, Rz⟩ := R
        simp only at HR HRED hle
        by_cases hlt : cnt < A.length
        · have HR2 : Aside0 (([], (4 : Int)) = (r1, r2)) := ⟨by have := HR.out; rw [if_pos hlt] at this; exact this⟩
          have u1 : decide ((cnt : Int) < (A.length : Int)) = true := decide_eq_true (by omega)
          have u2 : decide (cnt < A.length) = true := decide_eq_true hlt
          clear HR hlt hle
          go_wp2_with fail
          refine HRED.out.mono ?_
          rintro e w4 ⟨rfl, hst4, hb4⟩
          have HB4 := Aside0.mk (show Below w.heap.size w w4 from HB3.out.trans hb4)
          clear hst4 hb4 HRED
          go_wp2
          go_ret2
          obtain ⟨rfl, rfl⟩ := Prod.mk.inj HR2.out
          exact ⟨_, rfl, Kd.S_nil _ _ _ _ _, HB4.out⟩
        · have HR2 : Aside0 ((oM Rz, (0 : Int)) = (r1, r2)) := ⟨by have := HR.out; rw [if_neg hlt] at this; exact this⟩
          have u1 : decide ((cnt : Int) < (A.length : Int)) = false := decide_eq_false (by omega)
          have u2 : decide (cnt < A.length) = false := decide_eq_false hlt
          clear HR hlt hle
          go_wp2_with fail
          refine HRED.out.mono ?_
          rintro e w4 ⟨rfl, hst4, hb4⟩
          have HB4 := Aside0.mk (show Below w.heap.size w w4 from HB3.out.trans hb4)
          have HS4 := Aside0.mk hst4.toS
          clear hst4 hb4 HRED
          go_wp2
          go_ret2
          obtain ⟨rfl, rfl⟩ := Prod.mk.inj HR2.out
          exact ⟨_, rfl, HS4.out, HB4.out⟩
      · rw [if_neg (fun h => hsq h.2)] at hinv
        obtain ⟨rfl, rfl⟩ := Prod.mk.inj hinv
        have t1 : ((A.length : Int) != ((row A 0).length : Int)) = true := by simp; omega
        have t2 : (A.length == (row A 0).length) = false := by simp [hsq]
        have t3 : (A.length != (row A 0).length) = true := by simp [hsq]
        clear hinv hsq hm hreg hr0
        go_enter Try.func52, Try.ntmps52
        go_wp2_with fail
        refine hchk.out.mono ?_
        rintro e w' ⟨rfl, ⟨nq, rfl⟩⟩
        clear hchk
        go_wp2
        go_ret2
        exact ⟨_, rfl, Kd.S_nil _ _ _ _ _, pw_below_drewN (Below.refl _ _) nq⟩
    · rw [if_neg (fun h => hm h.1)] at hinv
      rw [if_neg hm] at hchk
      obtain ⟨rfl, rfl⟩ := Prod.mk.inj hinv
      clear hinv hm hr0
      go_enter Try.func52, Try.ntmps52
      go_wp2_with fail
      refine hchk.out.mono ?_
      rintro e w' ⟨rfl, ⟨nq, rfl⟩⟩
      clear hchk
      go_wp2
      go_ret2
      exact ⟨_, rfl, Kd.S_nil _ _ _ _ _, pw_below_drewN (Below.refl _ _) nq⟩
  · rw [if_neg hby] at h
    cases h
end Go.Proofs.Ytbogmlckbkogiaa.H
namespace Go.Proofs.Ytbogmlckbkogiaa.H
open Go.RowKit Go.Proofs.YtbogmlckbkogiaaW.PrintWords Go.Proofs.YtbogmlckbkogiaaW.PrintLast Go.Proofs.YtbogmlckbkogiaaW.PrintMore Go.Proofs.Ytbogmlckbkogiaa.Leaf Go.Proofs.Ytbogmlckbkogiaa.Gf Go.Proofs.Ytbogmlckbkogiaa.Mx Go.Proofs.Ytbogmlckbkogiaa.P Go.Proofs.Ytbogmlckbkogiaa.Red
set_option linter.unusedVariables false
set_option linter.unusedSimpArgs false
/-- Which of the first s one has. -/
def selN (H : List Bool) (s : Nat) : List Nat := (List.range s).filter fun i => H.getD i false
def selR (H : List Bool) (s : Nat) : List Int := (selN H s).map fun i : Nat => (i : Int)
def selL (S : List (List Int)) (H : List Bool) (s : Nat) : List (List Int) := (selN H s).map fun i : Nat => rd_L1 S (i : Int)
theorem selN_le (H : List Bool) (s : Nat) : (selN H s).length ≤ s := by
  unfold selN
  exact Nat.le_trans (List.length_filter_le _ _) (by rw [List.length_range]; exact Nat.le_refl _)
theorem selN_yes {H : List Bool} {s : Nat} (h : H.getD s false = true) : selN H (s + 1) = selN H s ++ [s] := by
  unfold selN
  rw [List.range_succ, List.filter_append, List.filter_cons, if_pos h]
  rfl
theorem selN_no {H : List Bool} {s : Nat} (h : H.getD s false = false) : selN H (s + 1) = selN H s := by
  unfold selN
  rw [List.range_succ, List.filter_append, List.filter_cons, if_neg (by rw [h]; simp), List.filter_nil, List.append_nil]
/-- What the callees of Decode tell. -/
structure DecFacts (k m : Int) (S : List (List Int)) (H : List Bool) (a : List (List Int)) (ea : Int) (ev : Bool) (b1 b2 c1 c2 : List (List Int)) (e1 e2 : Int) : Prop where
  cau : Ev (fun f => matrix_Cauchy.f f k m) (a, ea)
  rng : ea = 0 → 1 ≤ k ∧ 1 ≤ m ∧ k + m ≤ 255
  even : code_even.f (selL S H H.length) ((selL S H H.length).length : Int) = some ev
  rows : ea = 0 → ev = true → (S.length : Int) = k + m → (H.length : Int) = k + m → k ≤ (selL S H H.length).length → Ev (fun f => matrix_Rows.f f a ((selR H H.length).take k.toNat)) (b1, e1)
  inv : matrix_Inverse.f b1 = some (b2, e2)
  com1 : ea = 0 → ev = true → (S.length : Int) = k + m → (H.length : Int) = k + m → k ≤ (selL S H H.length).length → Ev (fun f => code_combine.f f b2 ((selL S H H.length).take k.toNat)) c1
  com2 : ea = 0 → ev = true → (S.length : Int) = k + m → (H.length : Int) = k + m → k ≤ (selL S H H.length).length → Ev (fun f => code_combine.f f a c1) c2
/-- What Decode answers. -/
def decO (k m : Int) (S : List (List Int)) (H : List Bool) (ea : Int) (ev : Bool) (c2 : List (List Int)) : List (List Int) × Int :=
  if ea = 0 ∧ (S.length : Int) = k + m ∧ (H.length : Int) = k + m then
    (if 0 < (selL S H H.length).length ∧ ev = false then ([], 1) else if ((selL S H H.length).length : Int) < k then ([], 4) else (c2, 0))
  else ([], 1)
/-- What holds in the loop of Decode: below the call's start nothing turns; a (elder than B0), the rows and the shards picked (from B0 on). -/
structure DW (w : World) (B0 : Nat) (wc : World) (va : Value) (a : List (List Int)) (v12 : Value) (X12 : List Int) (v13 : Value) (X13 : List (List Int)) : Prop where
  hb : Below w.heap.size w wc
  b0 : B0 ≤ wc.heap.size
  a : Kd.S (Kd.slice 5 (Kd.int .u8)) 22 wc w.heap.size (fun k => k < B0) va a
  r : Kd.R (Kd.int .i64) 3 wc w.heap.size (fun k => B0 ≤ k) v12 X12
  l : Kd.R (Kd.fixed (Kd.slice 5 (Kd.int .u8)) w) 22 wc w.heap.size (fun k => B0 ≤ k) v13 X13
theorem DW.below {w wc w1 : World} {B0 : Nat} {va v12 v13 : Value} {a X13 : List (List Int)} {X12 : List Int} (h : DW w B0 wc va a v12 X12 v13 X13) (hb : Below wc.heap.size wc w1) : DW w B0 w1 va a v12 X12 v13 X13 :=
  ⟨below_step h.hb hb, Nat.le_trans h.b0 hb.size, Kd.S_below h.a hb, Kd.R_below h.r hb, Kd.R_below h.l hb⟩
theorem DW.alloc {w wc : World} {B0 : Nat} {va v12 v13 : Value} {a X13 : List (List Int)} {X12 : List Int} (o : Obj) (h : DW w B0 wc va a v12 X12 v13 X13) : DW w B0 (wc.alloc o) va a v12 X12 v13 X13 := h.below (below_alloc (Below.refl _ _) o)
theorem DW.drew {w wc : World} {B0 : Nat} {va v12 v13 : Value} {a X13 : List (List Int)} {X12 : List Int} (h : DW w B0 wc va a v12 X12 v13 X13) : DW w B0 wc.drew va a v12 X12 v13 X13 := h.below (below_drew (Below.refl _ _))
theorem DW.drewN {w wc : World} {B0 : Nat} {va v12 v13 : Value} {a X13 : List (List Int)} {X12 : List Int} (n : Nat) (h : DW w B0 wc va a v12 X12 v13 X13) : DW w B0 (wc.drewN n) va a v12 X12 v13 X13 := h.below (pw_below_drewN (Below.refl _ _) n)
theorem DW.app_r {w wc w1 : World} {B0 : Nat} {va v12 v13 v1 : Value} {a X13 : List (List Int)} {X12 Y : List Int} (h : DW w B0 wc va a v12 X12 v13 X13) (ho : Kd.R (Kd.int .i64) 3 w1 w.heap.size (fun k => B0 ≤ k) v1 Y) (hb : Below w.heap.size w w1) (hg : wc.grownBy w1 v12.ownBlock) : DW w B0 w1 va a v1 Y v13 X13 :=
  ⟨hb, Nat.le_trans h.b0 hg.size, Kd.S_grown h.a hg (fun k hk e => by have := h.r.1 k e.symm; omega), ho, Kd.R_over' h.l (Kd.R_typed h.r) (fixed_ne w 3 (by decide)) hg⟩
theorem DW.app_l {w wc w1 : World} {B0 : Nat} {va v12 v13 v1 : Value} {a X13 Y : List (List Int)} {X12 : List Int} (h : DW w B0 wc va a v12 X12 v13 X13) (ho : Kd.R (Kd.fixed (Kd.slice 5 (Kd.int .u8)) w) 22 w1 w.heap.size (fun k => B0 ≤ k) v1 Y) (hb : Below w.heap.size w w1) (hg : wc.grownBy w1 v13.ownBlock) : DW w B0 w1 va a v12 X12 v1 Y :=
  ⟨hb, Nat.le_trans h.b0 hg.size, Kd.S_grown h.a hg (fun k hk e => by have := h.l.1 k e.symm; omega), Kd.R_over' h.r (Kd.R_typed h.l) (by decide) hg, ho⟩
theorem DW.r_lt {w wc : World} {B0 : Nat} {va v12 v13 : Value} {a X13 : List (List Int)} {X12 : List Int} (h : DW w B0 wc va a v12 X12 v13 X13) (k : Nat) (hk : v12.ownBlock = some k) : k < wc.heap.size := by
  obtain ⟨cells, hc⟩ := Kd.R_typed h.r k hk
  exact (Array.getElem?_eq_some_iff.1 hc).1
theorem lit_row {α : Type} {Rr : α → List Value → Prop} {W : World} {b t : Nat} {fr : Nat × Nat} {v : Value} {p : α} (hb : W.heap[b]? = some (.cells #[v] t fr)) (h : Rr p [v]) : ReadsRow Rr 1 W (some ⟨b, 0, none⟩) 1 [p] := by
  refine ⟨rfl, by decide, fun _ => ⟨_, rfl, fun j q hj => ?_⟩⟩
  match j, hj with
  | 0, hj =>
    obtain rfl : p = q := by simpa using hj
    refine ⟨[v], rfl, h, fun i u hi => ?_⟩
    match i, hi with
    | 0, hi =>
      obtain rfl : v = u := by simpa using hi
      show W.cell? ⟨b, 0, none⟩ = some v
      unfold World.cell?
      rw [hb]
      rfl
theorem lit_top (W : World) (o : Obj) : (W.alloc o).heap[W.heap.size]? = some o := by show (W.heap.push o)[W.heap.size]? = _; rw [Array.getElem?_push, if_pos rfl]
theorem lit_under (W : World) (o o' : Obj) : ((W.alloc o).alloc o').heap[W.heap.size]? = some o := by
  rw [Below.heap_alloc _ _ _ (by show _ < (W.heap.push o).size; simp)]
  exact lit_top W o
theorem lit_top2 (W : World) (o o' : Obj) : ((W.alloc o).alloc o').heap[W.heap.size + 1]? = some o' := by
  have := lit_top (W.alloc o) o'
  rw [show (W.alloc o).heap.size = W.heap.size + 1 by show (W.heap.push o).size = _; simp] at this
  exact this
theorem lit_keep {W w1 : World} {row : Option Nat} {b : Nat} {o : Obj} (hg : W.grownBy w1 row) (hl : W.heap[b]? = some o) (hn : some b ≠ row) : w1.heap[b]? = some o := by
  rw [hg.block b (Array.getElem?_eq_some_iff.1 hl).1 hn]
  exact hl
theorem cauchy_calls (k m : Int) (r1 : List (List Int)) (r2 : Int) (w : World) (h : Ev (fun f => matrix_Cauchy.f f k m) (r1, r2)) :
    Calls Try.prog 71 #[.int .i64 k, .int .i64 m] w fun e w' => ∃ v0_ : Value, e = .returned (.tuple #[v0_, .int .i64 r2]) ∧ Kd.S (Kd.slice 5 (Kd.int .u8)) 22 w' w.heap.size (fun _ => True) v0_ r1 ∧ Below w.heap.size w w' := by
  obtain ⟨f, h⟩ := h.rounds
  exact matrix_Cauchy.calls f k m r1 r2 w h
theorem combine_calls (A0 : Option Addr) (c0 : Nat) (l0 : List (List Int)) (A1 : Option Addr) (c1 : Nat) (l1 : List (List Int)) (r : List (List Int)) (w : World) (hr0 : Kd.C (Kd.slice 5 (Kd.int .u8)) w A0 l0.length l0) (hc0 : l0.length ≤ c0) (hr1 : Kd.C (Kd.slice 5 (Kd.int .u8)) w A1 l1.length l1) (hc1 : l1.length ≤ c1) (h : Ev (fun f => code_combine.f f l0 l1) r) :
    Calls Try.prog 96 #[.slice A0 l0.length c0, .slice A1 l1.length c1] w fun e w' => ∃ v0_ : Value, e = .returned (v0_) ∧ Kd.N (Kd.slice 5 (Kd.int .u8)) 22 w' w.heap.size (fun k_ => (w.heap.size ≤ k_)) v0_ r ∧ Below w.heap.size w w' := by
  obtain ⟨f, h⟩ := h.rounds
  exact code_combine.calls f A0 c0 l0 A1 c1 l1 r w hr0 hc0 hr1 hc1 h
set_option maxHeartbeats 16000000 in
set_option maxRecDepth 100000 in
theorem Decode.calls (k m : Int) (A0 : Option Addr) (c0 : Nat) (S : List (List Int)) (A1 : Option Addr) (c1' : Nat) (H : List Bool) (a : List (List Int)) (ea : Int) (ev : Bool) (b1 b2 c1 c2 : List (List Int)) (e1 e2 : Int) (w : World)
    (hr0 : Kd.C (Kd.slice 5 (Kd.int .u8)) w A0 S.length S) (hc0 : S.length ≤ c0) (hr1 : Kd.C Kd.bool w A1 H.length H) (hc1 : H.length ≤ c1') (hf : DecFacts k m S H a ea ev b1 b2 c1 c2 e1 e2) :
    Calls Try.prog 77 #[.int .i64 k, .int .i64 m, .slice A0 S.length c0, .slice A1 H.length c1'] w fun e w' => ∃ v : Value, e = .returned (.tuple #[v, .int .i64 (decO k m S H ea ev c2).2]) ∧ Kd.N (Kd.slice 5 (Kd.int .u8)) 22 w' w.heap.size (fun k_ => (w.heap.size ≤ k_)) v (decO k m S H ea ev c2).1 ∧ Below w.heap.size w w' := by
  have HR0 := Aside0.mk hr0
  have HC0 := Aside0.mk hc0
  have HR1 := Aside0.mk hr1
  have HC1 := Aside0.mk hc1
  have HF := Aside0.mk hf
  clear hr0 hc0 hr1 hc1 hf
  have HB := Aside0.mk (Below.refl w.heap.size w)
  obtain ⟨R, hR⟩ : ∃ R, R = decO k m S H ea ev c2 := ⟨_, rfl⟩
  rw [← hR]
  have HO := Aside0.mk hR
  clear hR
  go_enter Try.func77, Try.ntmps77
  go_upto_region 2 with (first | ((with_reducible refine gate_callee (f := 71) rfl ?_); refine goesL_ (some 21) rfl rfl Try.func71 (by kernel_rfl) rfl #[.int .i64 k, .int .i64 m] rfl (by (try simp only [List.map_toArray, List.map_cons, List.map_nil]); first | done | rfl) ?_; (with_reducible refine (cauchy_calls k m a ea _ HF.out.cau).mono ?_); rintro e wn_ ⟨v0_, rfl, hS, hb⟩; refine ⟨_, rfl, ?_⟩; obtain ⟨Aa, ca, rfl⟩ := Kd.S_slice hS; have HA := Aside0.mk (Kd.S_lower (Kd.S_mono (ok' := fun k_ => k_ < wn_.heap.size) (Kd.S_bound hS) (fun k_ hk_ => hk_.2.2.1)) (below_size (by repeat (first | (with_reducible first | exact HB.out | apply below_alloc | apply pw_below_drewN | apply below_drew1) | exact HB.out)))); have nb_ := Aside0.mk (below_step (by repeat (first | (with_reducible first | exact HB.out | apply below_alloc | apply pw_below_drewN | apply below_drew1) | exact HB.out)) hb); clear HB; have HB := nb_; clear nb_ hb hS))
  (try simp only [Act.put, List.setIfInBounds_toArray, List.set_cons_zero, List.set_cons_succ])
  go_cut [41] (fun v41 wc => ∃ bad : Bool, v41 = .bool bad ∧ Aside0 (bad = ! decide (ea = 0 ∧ (S.length : Int) = k + m ∧ (H.length : Int) = k + m)) ∧ Aside0 (Kd.S (Kd.slice 5 (Kd.int .u8)) 22 wc w.heap.size (fun k_ => k_ < wc.heap.size) (.slice Aa a.length ca) a) ∧ Aside0 (Below w.heap.size w wc))
  case first =>
    by_cases h1 : ea = 0
    · have h1b : (ea != 0) = false := bne_eq_false_iff_eq.mpr h1
      have hw : IntKind.i64.wrap (k + m) = k + m := IntWalk.i64_in _ (by have := HF.out.rng h1; omega)
      by_cases h2 : (S.length : Int) = k + m
      · have h2b : ((S.length : Int) != k + m) = false := bne_eq_false_iff_eq.mpr h2
        by_cases h3 : (H.length : Int) = k + m
        · have h3b : ((H.length : Int) != k + m) = false := bne_eq_false_iff_eq.mpr h3
          have HS : Aside0 (false = ! decide (ea = 0 ∧ (S.length : Int) = k + m ∧ (H.length : Int) = k + m)) := ⟨by rw [decide_eq_true ⟨h1, h2, h3⟩]; rfl⟩
          clear h1 h2 h3
          go_wp2
          go_meet
          case rel => exact ⟨_, (by first | rfl | (simp; done) | (simp [*]; done)), HS, ⟨HA.out⟩, ⟨(by repeat (first | (with_reducible first | exact HB.out | apply below_alloc | apply pw_below_drewN | apply below_drew1) | exact HB.out))⟩⟩
        · have h3b : ((H.length : Int) != k + m) = true := bne_iff_ne.mpr h3
          have HS : Aside0 (true = ! decide (ea = 0 ∧ (S.length : Int) = k + m ∧ (H.length : Int) = k + m)) := ⟨by rw [decide_eq_false (fun h => h3 h.2.2)]; rfl⟩
          clear h1 h2 h3
          go_wp2
          go_meet
          case rel => exact ⟨_, (by first | rfl | (simp; done) | (simp [*]; done)), HS, ⟨HA.out⟩, ⟨(by repeat (first | (with_reducible first | exact HB.out | apply below_alloc | apply pw_below_drewN | apply below_drew1) | exact HB.out))⟩⟩
      · have h2b : ((S.length : Int) != k + m) = true := bne_iff_ne.mpr h2
        have HS : Aside0 (true = ! decide (ea = 0 ∧ (S.length : Int) = k + m ∧ (H.length : Int) = k + m)) := ⟨by rw [decide_eq_false (fun h => h2 h.2.1)]; rfl⟩
        clear h1 h2
        go_wp2
        go_meet
        case rel => exact ⟨_, (by first | rfl | (simp; done) | (simp [*]; done)), HS, ⟨HA.out⟩, ⟨(by repeat (first | (with_reducible first | exact HB.out | apply below_alloc | apply pw_below_drewN | apply below_drew1) | exact HB.out))⟩⟩
    · have h1b : (ea != 0) = true := bne_iff_ne.mpr h1
      have HS : Aside0 (true = ! decide (ea = 0 ∧ (S.length : Int) = k + m ∧ (H.length : Int) = k + m)) := ⟨by rw [decide_eq_false (fun h => h1 h.1)]; rfl⟩
      clear h1
      go_wp2
      go_meet
      case rel => exact ⟨_, (by first | rfl | (simp; done) | (simp [*]; done)), HS, ⟨HA.out⟩, ⟨(by repeat (first | (with_reducible first | exact HB.out | apply below_alloc | apply pw_below_drewN | apply below_drew1) | exact HB.out))⟩⟩
  case rest =>
    clear HA HB
    obtain ⟨bad, rfl, HBAD, HA, HB⟩ := hcut
    cases bad with
    | true =>
      have hn : ¬ (ea = 0 ∧ (S.length : Int) = k + m ∧ (H.length : Int) = k + m) := fun h => by
        have := HBAD.out
        rw [decide_eq_true h] at this
        cases this
      have hR : R = ([], 1) := by rw [HO.out]; unfold decO; rw [if_neg hn]
      subst hR
      clear hn
      go_wp2
      go_ret2
      exact ⟨_, by first | rfl | (simp; done), Kd.N_nil _ _ _ _ _, (by repeat (first | (with_reducible first | exact HB.out | apply below_alloc | apply pw_below_drewN | apply below_drew1) | exact HB.out))⟩
    | false =>
      have hy : ea = 0 ∧ (S.length : Int) = k + m ∧ (H.length : Int) = k + m := Classical.byContradiction fun h => by
        have := HBAD.out
        rw [decide_eq_false h] at this
        cases this
      have HY := Aside0.mk hy
      obtain rfl := hy.1
      have hrg := HF.out.rng rfl
      have HRG := Aside0.mk hrg
      clear hy hrg HBAD
      obtain ⟨B0, hB0⟩ : ∃ B0, B0 = wc.heap.size := ⟨_, rfl⟩
      have HD0 : Aside0 (DW w B0 wc (.slice Aa a.length ca) a (.slice none 0 0) (selR H 0) (.slice none 0 0) (selL S H 0)) := ⟨HB.out, by omega, Kd.S_mono HA.out (fun k_ hk => by omega), Kd.R_nil _ _ _ _ _, Kd.R_nil _ _ _ _ _⟩
      have HHL : Aside0 (H.length ≤ 255) := ⟨by have := HY.out; have := HRG.out; omega⟩
      clear hB0 HA HB
      go_wp2
      go_loopg [12, 13, 44] H.length (fun gg v12 v13 v44 w' => ∃ (s : Nat) (i : Int), s + gg = H.length ∧ v44 = .int .i64 i ∧ Aside0 (i = (s : Int)) ∧ Aside0 (DW w B0 w' (.slice Aa a.length ca) a v12 (selR H s) v13 (selL S H s)))
      case atStart => exact ⟨0, 0, by omega, rfl, ⟨rfl⟩, HD0⟩
      case round =>
        clear HD0
        obtain ⟨s, i, hsg, rfl, HI, HD⟩ := hrel
        obtain ⟨Ar, cr, rfl⟩ := Kd.R_slice HD.out.r
        obtain ⟨Al, cl, rfl⟩ := Kd.R_slice HD.out.l
        have hi := HI.out
        by_cases hs : s < H.length
        · have hlt : i < (H.length : Int) := by omega
          have h0i : 0 ≤ i := by omega
          have HS := Aside0.mk hs
          have hsw : IntKind.i64.wrap (i + 1) = i + 1 := IntWalk.i64_in _ (by have := HHL.out; omega)
          obtain ⟨ad1, ea1, hx1⟩ := Kd.at_bool HR1.out i h0i hlt
          cases ea1
          replace hx1 := (HD.out.hb.cell (World.block_lt_of_cell? w _ hx1)).trans hx1
          have hrd : rdOf false H i = H.getD s false := by rw [hi]; rfl
          rw [hrd] at hx1
          clear hrd hi
          have H0I := Aside0.mk h0i
          have HLTI := Aside0.mk hlt
          replace h0i := eq_true h0i
          replace hlt := eq_true hlt
          clear hs
          cases hb : H.getD s false with
          | false =>
            rw [hb] at hx1
            have HN := Aside0.mk (selN_no hb)
            clear hb
            go_wp2
            go_roundg (H.length - (s + 1))
            case measure => have := HS.out; omega
            case rel => exact ⟨s + 1, i + 1, by have := HS.out; omega, by go_num, ⟨by have := HI.out; omega⟩, ⟨by unfold selR selL; rw [HN.out]; exact HD.out⟩⟩
          | true =>
            rw [hb] at hx1
            have HN := Aside0.mk (selN_yes hb)
            clear hb
            go_upto_region 10 with (fail)
            (try simp only [Act.put, List.setIfInBounds_toArray, List.set_cons_zero, List.set_cons_succ])
            clear hx1
            have hS := HY.out.2.1
            have hH := HY.out.2.2
            have hltS : i < (S.length : Int) := by have := HLTI.out; omega
            obtain ⟨adr, Ae, ce, er, hxr, hlr, hir⟩ := at_L1 HR0.out i H0I.out hltS
            cases er
            have HXW := Aside0.mk hxr
            have HXL := Aside0.mk (World.block_lt_of_cell? w _ hxr)
            replace hxr := (HD.out.hb.cell (World.block_lt_of_cell? w _ hxr)).trans hxr
            have hxlt : (adr.add i.toNat).block < wr.heap.size := Nat.lt_of_lt_of_le HXL.out (below_size HD.out.hb)
            have HK : Aside0 ((Kd.slice 5 (Kd.int .u8)).K w (rd_L1 S i) [.slice Ae (rd_L1 S i).length ce]) := ⟨⟨Ae, ce, rfl, hlr, hir⟩⟩
            have HLR : Aside0 ((selR H s).length ≤ 255) := ⟨by unfold selR; rw [List.length_map]; have := selN_le H s; have := HHL.out; have := HS.out; omega⟩
            have HLL : Aside0 ((selL S H s).length ≤ 255) := ⟨by unfold selL; rw [List.length_map]; have := selN_le H s; have := HHL.out; have := HS.out; omega⟩
            have HRL : Aside0 (∀ k_, (Value.slice Ar (selR H s).length cr).ownBlock = some k_ → k_ < wr.heap.size) := ⟨DW.r_lt HD.out⟩
            clear hS hH hlr hir
            replace hltS := eq_true hltS
            go_region_law (first | (refine Kd.R_append_rows_step (Kd.int .i64) (Rr := fun (x : Int) cs => cs = [Value.int .i64 x]) (w0 := w) w.heap.size rfl (.tmp 50) (.tmp 52) 72 3 (.int .i64 0) 8 rfl Try.underlying72 Go.Proofs.Ytbogmlckbkogiaa.P.info3 rfl (by decide) (by omega) (.slice Ar (selR H s).length cr) (selR H s) [i] _ 1 1 (fun k_ => B0 ≤ k_) (fun _ => False) rfl rfl ?aO ?aR (fun _ _ h => h) (fun _ h => h.elim) ?aF ?aB ?aS ?aL ?_; (case aO => exact (DW.r (by repeat (first | exact HD.out | apply DW.alloc | apply DW.drew)))); (case aR => (first | exact lit_row HLIT.out (by first | rfl | exact HK.out) | exact lit_row (lit_top _ _) (by first | rfl | exact HK.out) | exact lit_row (lit_under _ _ _) (by first | rfl | exact HK.out) | exact lit_row (lit_top2 _ _ _) (by first | rfl | exact HK.out))); (case aF => exact (fun k_ hk_ => Nat.le_trans (DW.b0 (by repeat (first | exact HD.out | apply DW.alloc | apply DW.drew))) hk_)); (case aB => exact (DW.hb (by repeat (first | exact HD.out | apply DW.alloc | apply DW.drew)))); (case aS => exact (below_size (DW.hb (by repeat (first | exact HD.out | apply DW.alloc | apply DW.drew))))); (case aL => have := HLR.out; omega); intro v1 w1 ho hb hg hat; have HD1 := Aside0.mk (DW.app_r (by repeat (first | exact HD.out | apply DW.alloc | apply DW.drew)) ho hb hg); have hx1 := (hb.cell HXL.out).trans HXW.out; (first | have HLIT := Aside0.mk (show w1.heap[_]? = some (Obj.cells #[Value.slice Ae (rd_L1 S i).length ce] 22 (0, 0)) from lit_keep hg (lit_under _ _ _) (fun e_ => absurd (HRL.out _ e_.symm) (by simp))) | have HLIT := Aside0.mk (show w1.heap[_]? = some (Obj.cells #[Value.slice Ae (rd_L1 S i).length ce] 22 (0, 0)) from lit_keep hg (lit_top2 _ _ _) (fun e_ => absurd (HRL.out _ e_.symm) (by simp))) | skip); clear HD ho hb hg hat; have HD := HD1; clear HD1) | (refine Kd.R_append_rows_step (Kd.fixed (Kd.slice 5 (Kd.int .u8)) w) (Rr := fun (x : List Int) cs => (Kd.slice 5 (Kd.int .u8)).K w x cs) (w0 := w) w.heap.size rfl (.tmp 54) (.tmp 59) 51 22 (.slice none 0 0) 24 rfl Try.underlying51 Go.Proofs.Ytbogmlckbkogiaa.P.info22 rfl Nat.zero_lt_one (by omega) (.slice Al (selL S H s).length cl) (selL S H s) [rd_L1 S i] _ 1 1 (fun k_ => B0 ≤ k_) (fun _ => False) rfl rfl ?aO ?aR (fun _ _ h => h) (fun _ h => h.elim) ?aF ?aB ?aS ?aL ?_; (case aO => exact (DW.l (by repeat (first | exact HD.out | apply DW.alloc | apply DW.drew)))); (case aR => (first | exact lit_row HLIT.out (by first | rfl | exact HK.out) | exact lit_row (lit_top _ _) (by first | rfl | exact HK.out) | exact lit_row (lit_under _ _ _) (by first | rfl | exact HK.out) | exact lit_row (lit_top2 _ _ _) (by first | rfl | exact HK.out))); (case aF => exact (fun k_ hk_ => Nat.le_trans (DW.b0 (by repeat (first | exact HD.out | apply DW.alloc | apply DW.drew))) hk_)); (case aB => exact (DW.hb (by repeat (first | exact HD.out | apply DW.alloc | apply DW.drew)))); (case aS => exact (below_size (DW.hb (by repeat (first | exact HD.out | apply DW.alloc | apply DW.drew))))); (case aL => have := HLL.out; omega); intro v2 w2 ho hb hg hat; have HD1 := Aside0.mk (DW.app_l (by repeat (first | exact HD.out | apply DW.alloc | apply DW.drew)) ho hb hg); clear HD ho hb hg hat; have HD := HD1; clear HD1))
            all_goals (
              have HD2 : Aside0 (DW w B0 _ (.slice Aa a.length ca) a _ (selR H (s + 1)) _ (selL S H (s + 1))) := ⟨by
                have h := HD.out
                unfold selR selL
                rw [HN.out, List.map_append, List.map_append]
                have e := HI.out
                subst e
                exact h⟩
              clear HD
              go_wp2
              go_roundg (H.length - (s + 1))
              case measure => have := HS.out; omega
              case rel => exact ⟨s + 1, i + 1, by have := HS.out; omega, by go_num, ⟨by have := HI.out; omega⟩, HD2⟩)
        · obtain rfl : s = H.length := by have := selN_le H s; omega
          have hE := HF.out.even
          have hRW := HF.out.rows rfl
          have hC1 := HF.out.com1 rfl
          have hC2 := HF.out.com2 rfl
          have hO := HO.out
          unfold decO at hO
          rw [if_pos ⟨rfl, HY.out.2⟩] at hO
          have hlen : (selR H H.length).length = (selL S H H.length).length := by unfold selR selL; rw [List.length_map, List.length_map]
          have hLB : (selL S H H.length).length ≤ 255 := by unfold selL; rw [List.length_map]; have := selN_le H H.length; have := HHL.out; omega
          generalize selL S H H.length = Lx at *
          generalize selR H H.length = Rx at *
          have HE := Aside0.mk hE
          have hlt : ¬ i < (H.length : Int) := by have := HI.out; omega
          have HLB := Aside0.mk hLB
          clear hE hs hi hsg hLB
          by_cases h1 : (0 : Int) < (Lx.length : Int)
          · cases ev with
            | false =>
              rw [if_pos ⟨by omega, rfl⟩] at hO
              subst hO
              clear hRW hC1 hC2 hlen
              go_wp2_with (first | (go_at_call 95; (with_reducible refine (code_even.calls _ _ Lx _ false _ ?side1 ?side2 HE.out).mono ?_); (case side1 => exact (fixed_C (DW.hb (by repeat (first | exact HD.out | apply DW.alloc | apply DW.drew | apply DW.drewN))) (Kd.R_reads' (DW.l (by repeat (first | exact HD.out | apply DW.alloc | apply DW.drew | apply DW.drewN)))).2.2)); (case side2 => exact (Kd.R_reads' HD.out.l).2.1); rintro e wn_ ⟨rfl, hb⟩; have n0_ := Aside0.mk (DW.below (by repeat (first | exact HD.out | apply DW.alloc | apply DW.drew | apply DW.drewN)) hb); clear HD; have HD := n0_; clear n0_; clear hb) | ((with_reducible refine gate_callee (f := 95) rfl ?_); refine goesL_ (some 69) rfl rfl Try.func95 (by kernel_rfl) rfl #[.slice Al Lx.length cl, .int .i64 (Lx.length : Int)] rfl (by (try simp only [List.map_toArray, List.map_cons, List.map_nil]); first | done | rfl) ?_; (with_reducible refine (code_even.calls _ _ Lx _ false _ ?side1 ?side2 HE.out).mono ?_); (case side1 => exact (fixed_C (DW.hb (by repeat (first | exact HD.out | apply DW.alloc | apply DW.drew | apply DW.drewN))) (Kd.R_reads' (DW.l (by repeat (first | exact HD.out | apply DW.alloc | apply DW.drew | apply DW.drewN)))).2.2)); (case side2 => exact (Kd.R_reads' HD.out.l).2.1); rintro e wn_ ⟨rfl, hb⟩; refine ⟨_, rfl, ?_⟩; have n0_ := Aside0.mk (DW.below (by repeat (first | exact HD.out | apply DW.alloc | apply DW.drew | apply DW.drewN)) hb); clear HD; have HD := n0_; clear n0_; clear hb))
              go_ret2
              exact ⟨_, by first | rfl | (simp; done), Kd.N_nil _ _ _ _ _, DW.hb (by repeat (first | exact HD.out | apply DW.alloc | apply DW.drew | apply DW.drewN))⟩
            | true =>
              rw [if_neg (fun h => by cases h.2)] at hO
              by_cases h2 : (Lx.length : Int) < k
              · rw [if_pos h2] at hO
                subst hO
                clear hRW hC1 hC2 hlen
                go_wp2_with (first | (go_at_call 95; (with_reducible refine (code_even.calls _ _ Lx _ true _ ?side1 ?side2 HE.out).mono ?_); (case side1 => exact (fixed_C (DW.hb (by repeat (first | exact HD.out | apply DW.alloc | apply DW.drew | apply DW.drewN))) (Kd.R_reads' (DW.l (by repeat (first | exact HD.out | apply DW.alloc | apply DW.drew | apply DW.drewN)))).2.2)); (case side2 => exact (Kd.R_reads' HD.out.l).2.1); rintro e wn_ ⟨rfl, hb⟩; have n0_ := Aside0.mk (DW.below (by repeat (first | exact HD.out | apply DW.alloc | apply DW.drew | apply DW.drewN)) hb); clear HD; have HD := n0_; clear n0_; clear hb) | ((with_reducible refine gate_callee (f := 95) rfl ?_); refine goesL_ (some 69) rfl rfl Try.func95 (by kernel_rfl) rfl #[.slice Al Lx.length cl, .int .i64 (Lx.length : Int)] rfl (by (try simp only [List.map_toArray, List.map_cons, List.map_nil]); first | done | rfl) ?_; (with_reducible refine (code_even.calls _ _ Lx _ true _ ?side1 ?side2 HE.out).mono ?_); (case side1 => exact (fixed_C (DW.hb (by repeat (first | exact HD.out | apply DW.alloc | apply DW.drew | apply DW.drewN))) (Kd.R_reads' (DW.l (by repeat (first | exact HD.out | apply DW.alloc | apply DW.drew | apply DW.drewN)))).2.2)); (case side2 => exact (Kd.R_reads' HD.out.l).2.1); rintro e wn_ ⟨rfl, hb⟩; refine ⟨_, rfl, ?_⟩; have n0_ := Aside0.mk (DW.below (by repeat (first | exact HD.out | apply DW.alloc | apply DW.drew | apply DW.drewN)) hb); clear HD; have HD := n0_; clear n0_; clear hb))
                go_ret2
                exact ⟨_, by first | rfl | (simp; done), Kd.N_nil _ _ _ _ _, DW.hb (by repeat (first | exact HD.out | apply DW.alloc | apply DW.drew | apply DW.drewN))⟩
              · rw [if_neg h2] at hO
                subst hO
                have hk := HRG.out
                obtain ⟨kn, rfl⟩ := Int.eq_ofNat_of_zero_le (show 0 ≤ k by omega)
                have hRW := hRW rfl HY.out.2.1 HY.out.2.2 (by omega)
                have hC1 := hC1 rfl HY.out.2.1 HY.out.2.2 (by omega)
                have HC2 := Aside0.mk (hC2 rfl HY.out.2.1 HY.out.2.2 (by omega))
                rw [Int.toNat_natCast] at hRW hC1
                have hkr : kn ≤ Rx.length := by omega
                have hkl : kn ≤ Lx.length := by omega
                have hcr : (kn : Int) ≤ (cr : Int) := by have := (Kd.R_reads' HD.out.r).2.1; omega
                have hcl : (kn : Int) ≤ (cl : Int) := by have := (Kd.R_reads' HD.out.l).2.1; omega
                have HRW : Aside0 (∀ W, Kd.C (Kd.slice 5 (Kd.int .u8)) W Aa a.length a → Kd.C (Kd.int .i64) W Ar Rx.length Rx → Calls Try.prog 69 #[.slice Aa a.length ca, .slice Ar kn cr] W fun e w' => ∃ v0_ : Value, e = .returned (.tuple #[v0_, .int .i64 e1]) ∧ Kd.S (Kd.slice 5 (Kd.int .u8)) 22 w' W.heap.size (fun _ => True) v0_ b1 ∧ Below W.heap.size W w') := ⟨fun W hA hR => by
                  have hl : (Rx.take kn).length = kn := by rw [List.length_take]; omega
                  have h := rows_calls Aa ca a Ar cr (Rx.take kn) b1 e1 W hA (Kd.S_reads' HD.out.a).2.1 (Kd.C_take hR hkr) (by rw [hl]; omega) hRW
                  rw [hl] at h
                  exact h⟩
                have HC1 : Aside0 (∀ W A c, Kd.C (Kd.slice 5 (Kd.int .u8)) W A b2.length b2 → b2.length ≤ c → Kd.C (Kd.slice 5 (Kd.int .u8)) W Al Lx.length Lx → Calls Try.prog 96 #[.slice A b2.length c, .slice Al kn cl] W fun e w' => ∃ v0_ : Value, e = .returned (v0_) ∧ Kd.N (Kd.slice 5 (Kd.int .u8)) 22 w' W.heap.size (fun k_ => (W.heap.size ≤ k_)) v0_ c1 ∧ Below W.heap.size W w') := ⟨fun W A c hB hc hL => by
                  have hl : (Lx.take kn).length = kn := by rw [List.length_take]; omega
                  have h := combine_calls A c b2 Al cl (Lx.take kn) c1 W hB hc (Kd.C_take hL hkl) (by rw [hl]; omega) hC1
                  rw [hl] at h
                  exact h⟩
                have h0k : 0 ≤ (kn : Int) := by omega
                clear hRW hC1 hC2 hlen hk hkr hkl
                go_wp2_with (first | (go_at_call 95; (with_reducible refine (code_even.calls _ _ Lx _ true _ ?side1 ?side2 HE.out).mono ?_); (case side1 => exact (fixed_C (DW.hb (by repeat (first | exact HD.out | apply DW.alloc | apply DW.drew | apply DW.drewN))) (Kd.R_reads' (DW.l (by repeat (first | exact HD.out | apply DW.alloc | apply DW.drew | apply DW.drewN)))).2.2)); (case side2 => exact (Kd.R_reads' HD.out.l).2.1); rintro e wn_ ⟨rfl, hb⟩; have n0_ := Aside0.mk (DW.below (by repeat (first | exact HD.out | apply DW.alloc | apply DW.drew | apply DW.drewN)) hb); clear HD; have HD := n0_; clear n0_; clear hb) | ((with_reducible refine gate_callee (f := 95) rfl ?_); refine goesL_ (some 69) rfl rfl Try.func95 (by kernel_rfl) rfl #[.slice Al Lx.length cl, .int .i64 (Lx.length : Int)] rfl (by (try simp only [List.map_toArray, List.map_cons, List.map_nil]); first | done | rfl) ?_; (with_reducible refine (code_even.calls _ _ Lx _ true _ ?side1 ?side2 HE.out).mono ?_); (case side1 => exact (fixed_C (DW.hb (by repeat (first | exact HD.out | apply DW.alloc | apply DW.drew | apply DW.drewN))) (Kd.R_reads' (DW.l (by repeat (first | exact HD.out | apply DW.alloc | apply DW.drew | apply DW.drewN)))).2.2)); (case side2 => exact (Kd.R_reads' HD.out.l).2.1); rintro e wn_ ⟨rfl, hb⟩; refine ⟨_, rfl, ?_⟩; have n0_ := Aside0.mk (DW.below (by repeat (first | exact HD.out | apply DW.alloc | apply DW.drew | apply DW.drewN)) hb); clear HD; have HD := n0_; clear n0_; clear hb) | ((with_reducible refine gate_callee (f := 69) rfl ?_); refine goesL_ (some 81) rfl rfl Try.func69 (by kernel_rfl) rfl #[.slice Aa a.length ca, .slice Ar kn cr] rfl (by (try simp only [List.map_toArray, List.map_cons, List.map_nil]); first | done | rfl) ?_; (with_reducible refine (HRW.out _ ?side1 ?side2).mono ?_); (case side1 => exact (Kd.S_reads' (DW.a (by repeat (first | exact HD.out | apply DW.alloc | apply DW.drew | apply DW.drewN)))).2.2); (case side2 => exact (Kd.R_reads' (DW.r (by repeat (first | exact HD.out | apply DW.alloc | apply DW.drew | apply DW.drewN)))).2.2); rintro e wn_ ⟨v0_, rfl, hS, hb⟩; refine ⟨_, rfl, ?_⟩; obtain ⟨Ab, cb, rfl⟩ := Kd.S_slice hS; have HX1 := Aside0.mk (Kd.S_reads' hS).2.2; have HX1L := Aside0.mk (Kd.S_reads' hS).2.1; clear hS; have n0_ := Aside0.mk (DW.below (by repeat (first | exact HD.out | apply DW.alloc | apply DW.drew | apply DW.drewN)) hb); clear HD; have HD := n0_; clear n0_; clear hb) | ((with_reducible refine gate_callee (f := 52) rfl ?_); refine goesL_ (some 86) rfl rfl Try.func52 (by kernel_rfl) rfl #[.slice Ab b1.length cb] rfl (by (try simp only [List.map_toArray, List.map_cons, List.map_nil]); first | done | rfl) ?_; (with_reducible refine (matrix_Inverse.calls _ _ b1 b2 e2 _ ?side1 ?side2 HF.out.inv).mono ?_); (case side1 => repeat (first | exact HX1.out | (with_reducible refine Kd.C_alloc ?_ _) | (with_reducible refine Kd.C_drewN ?_ _) | (with_reducible refine Kd.C_drew ?_))); (case side2 => exact HX1L.out); rintro e wn_ ⟨v0_, rfl, hS, hb⟩; refine ⟨_, rfl, ?_⟩; obtain ⟨Ac, cc, rfl⟩ := Kd.S_slice hS; have HX2 := Aside0.mk (Kd.S_reads' hS).2.2; have HX2L := Aside0.mk (Kd.S_reads' hS).2.1; clear hS HX1 HX1L; have n0_ := Aside0.mk (DW.below (by repeat (first | exact HD.out | apply DW.alloc | apply DW.drew | apply DW.drewN)) hb); clear HD; have HD := n0_; clear n0_; clear hb) | ((with_reducible refine gate_callee (f := 96) rfl ?_); refine goesL_ (some 94) rfl rfl Try.func96 (by kernel_rfl) rfl #[.slice Ac b2.length cc, .slice Al kn cl] rfl (by (try simp only [List.map_toArray, List.map_cons, List.map_nil]); first | done | rfl) ?_; (with_reducible refine (HC1.out _ _ _ ?side1 ?side2 ?side3).mono ?_); (case side1 => repeat (first | exact HX2.out | (with_reducible refine Kd.C_alloc ?_ _) | (with_reducible refine Kd.C_drewN ?_ _) | (with_reducible refine Kd.C_drew ?_))); (case side2 => exact HX2L.out); (case side3 => exact (fixed_C (DW.hb (by repeat (first | exact HD.out | apply DW.alloc | apply DW.drew | apply DW.drewN))) (Kd.R_reads' (DW.l (by repeat (first | exact HD.out | apply DW.alloc | apply DW.drew | apply DW.drewN)))).2.2)); rintro e wn_ ⟨v0_, rfl, hN, hb⟩; refine ⟨_, rfl, ?_⟩; obtain ⟨Ad, cd, rfl⟩ := Kd.N_slice hN; have HX3 := Aside0.mk (Kd.N_reads' hN).2.2; have HX3L := Aside0.mk (Kd.N_reads' hN).2.1; clear hN HX2 HX2L; have n0_ := Aside0.mk (DW.below (by repeat (first | exact HD.out | apply DW.alloc | apply DW.drew | apply DW.drewN)) hb); clear HD; have HD := n0_; clear n0_; clear hb) | (go_at_call 96; (with_reducible refine (HC1.out _ _ _ ?side1 ?side2 ?side3).mono ?_); (case side1 => repeat (first | exact HX2.out | (with_reducible refine Kd.C_alloc ?_ _) | (with_reducible refine Kd.C_drewN ?_ _) | (with_reducible refine Kd.C_drew ?_))); (case side2 => exact HX2L.out); (case side3 => exact (fixed_C (DW.hb (by repeat (first | exact HD.out | apply DW.alloc | apply DW.drew | apply DW.drewN))) (Kd.R_reads' (DW.l (by repeat (first | exact HD.out | apply DW.alloc | apply DW.drew | apply DW.drewN)))).2.2)); rintro e wn_ ⟨v0_, rfl, hN, hb⟩; obtain ⟨Ad, cd, rfl⟩ := Kd.N_slice hN; have HX3 := Aside0.mk (Kd.N_reads' hN).2.2; have HX3L := Aside0.mk (Kd.N_reads' hN).2.1; clear hN HX2 HX2L; have n0_ := Aside0.mk (DW.below (by repeat (first | exact HD.out | apply DW.alloc | apply DW.drew | apply DW.drewN)) hb); clear HD; have HD := n0_; clear n0_; clear hb) | ((with_reducible refine gate_callee (f := 96) rfl ?_); refine goesL_ (some 95) rfl rfl Try.func96 (by kernel_rfl) rfl #[.slice Aa a.length ca, .slice Ad c1.length cd] rfl (by (try simp only [List.map_toArray, List.map_cons, List.map_nil]); first | done | rfl) ?_; (with_reducible refine (combine_calls _ _ a _ _ c1 c2 _ ?side1 ?side2 ?side3 ?side4 HC2.out).mono ?_); (case side1 => exact (Kd.S_reads' (DW.a (by repeat (first | exact HD.out | apply DW.alloc | apply DW.drew | apply DW.drewN)))).2.2); (case side2 => exact (Kd.S_reads' HD.out.a).2.1); (case side3 => repeat (first | exact HX3.out | (with_reducible refine Kd.C_alloc ?_ _) | (with_reducible refine Kd.C_drewN ?_ _) | (with_reducible refine Kd.C_drew ?_))); (case side4 => exact HX3L.out); rintro e wn_ ⟨v0_, rfl, hN, hb⟩; refine ⟨_, rfl, ?_⟩; have HSZ := Aside0.mk (below_size (DW.hb (by repeat (first | exact HD.out | apply DW.alloc | apply DW.drew | apply DW.drewN)))); have HN := Aside0.mk hN; clear hN HX3 HX3L; have n0_ := Aside0.mk (DW.below (by repeat (first | exact HD.out | apply DW.alloc | apply DW.drew | apply DW.drewN)) hb); clear HD; have HD := n0_; clear n0_; clear hb) | (go_at_call 96; (with_reducible refine (combine_calls _ _ a _ _ c1 c2 _ ?side1 ?side2 ?side3 ?side4 HC2.out).mono ?_); (case side1 => exact (Kd.S_reads' (DW.a (by repeat (first | exact HD.out | apply DW.alloc | apply DW.drew | apply DW.drewN)))).2.2); (case side2 => exact (Kd.S_reads' HD.out.a).2.1); (case side3 => repeat (first | exact HX3.out | (with_reducible refine Kd.C_alloc ?_ _) | (with_reducible refine Kd.C_drewN ?_ _) | (with_reducible refine Kd.C_drew ?_))); (case side4 => exact HX3L.out); rintro e wn_ ⟨v0_, rfl, hN, hb⟩; have HSZ := Aside0.mk (below_size (DW.hb (by repeat (first | exact HD.out | apply DW.alloc | apply DW.drew | apply DW.drewN)))); have HN := Aside0.mk hN; clear hN HX3 HX3L; have n0_ := Aside0.mk (DW.below (by repeat (first | exact HD.out | apply DW.alloc | apply DW.drew | apply DW.drewN)) hb); clear HD; have HD := n0_; clear n0_; clear hb))
                go_ret2
                exact ⟨_, by first | rfl | (simp; done), Kd.N_lower (Kd.N_mono HN.out (fun q hq => Nat.le_trans HSZ.out hq)) HSZ.out, DW.hb (by repeat (first | exact HD.out | apply DW.alloc | apply DW.drew | apply DW.drewN))⟩
          · have h2 : (Lx.length : Int) < k := by have := HRG.out; omega
            rw [if_neg (by omega), if_pos h2] at hO
            subst hO
            clear hRW hC1 hC2 hlen
            go_wp2
            go_ret2
            exact ⟨_, by first | rfl | (simp; done), Kd.N_nil _ _ _ _ _, DW.hb (by repeat (first | exact HD.out | apply DW.alloc | apply DW.drew | apply DW.drewN))⟩
end Go.Proofs.Ytbogmlckbkogiaa.H
namespace Go.Proofs.Ytbogmlckbkogiaa.Red
open Go.RowKit Go.Proofs.YtbogmlckbkogiaaW.PrintWords Go.Proofs.Ytbogmlckbkogiaa.Leaf Go.Proofs.Ytbogmlckbkogiaa.Gf Go.Proofs.Ytbogmlckbkogiaa.H Go.Proofs.Ytbogmlckbkogiaa.Mx Go.Proofs.Ytbogmlckbkogiaa.P
set_option linter.unusedVariables false
set_option linter.unusedSimpArgs false
/-- The product. -/
def mulM (A C : Mat) : Mat := matF A.length (row C 0).length (mm C.length (el A) (el C))
theorem mulM_reg {A C : Mat} {n m p : Nat} (hA : Reg A n m) (hC : Reg C m p) (hm : 0 < m) : Reg (mulM A C) n p := by
  unfold mulM
  rw [hA.1, hC.2 0 hm]
  exact matF_reg n p _
theorem el_mulM {A C : Mat} {n m p : Nat} (hA : Reg A n m) (hC : Reg C m p) (hm : 0 < m) {i j : Nat} (hi : i < n) (hj : j < p) : el (mulM A C) i j = mm m (el A) (el C) i j := by
  unfold mulM
  rw [hA.1, hC.1, hC.2 0 hm, el_matF _ hi hj]
theorem mulM_id {A : Mat} {n m : Nat} (hA : Reg A n m) (hn : 0 < n) : mulM (idM n) A = A := by
  refine mat_ext (mulM_reg (matF_reg n n I) hA hn) hA fun i j hi hj => ?_
  rw [idM_eq, el_mulM (matF_reg n n I) hA hn hi hj]
  refine (mm_congr (fun k hk => el_matF I hi hk) (fun _ _ => rfl)).trans ?_
  exact mm_IL _ _ hi
theorem str_eq (L M : List B) : (strOfNums (ofL L)).toList = (strOfNums (ofL M)).toList ↔ L = M := by
  refine ⟨fun h => ?_, fun h => by rw [h]⟩
  rw [ByteArray.toList_eq, ByteArray.toList_eq, strOfNums_data, strOfNums_data] at h
  have h2 := congrArg (List.map fun c : UInt8 => BitVec.ofNat 8 c.toNat) h
  have hid : ∀ N : List B, ((ofL N).map fun n => UInt8.ofNat n.toNat).map (fun c : UInt8 => BitVec.ofNat 8 c.toNat) = N := by
    intro N
    unfold ofL
    rw [List.map_map, List.map_map]
    refine (List.map_congr_left fun x _ => ?_).trans (List.map_id' N)
    have hx := x.isLt
    simp only [Function.comp, ofB, Int.toNat_natCast]
    apply BitVec.eq_of_toNat_eq
    simp
  rw [hid, hid] at h2
  exact h2
theorem same_l0 (A C : Mat) (hl : A.length = C.length) (hs : A.length ≤ 9223372036854775807) (d : Nat) : ∀ i : Nat, i + d = A.length → (∀ j, j < i → row A j = row C j) → Ev (fun k => mooringref02_Same.l0 k (oM A) (oM C) (i : Int)) (decide (A = C)) := by
  induction d with
  | zero =>
    intro i hi h
    have e : A = C := by
      refine List.ext_getElem hl fun j h1 h2 => ?_
      have h3 := h j (by omega)
      unfold row at h3
      rw [List.getD_eq_getElem?_getD, List.getElem?_eq_getElem h1, List.getD_eq_getElem?_getD, List.getElem?_eq_getElem h2] at h3
      exact h3
    rw [decide_eq_true e]
    refine Ev.step (f := fun _ => some true) (fun k => ?_) (Ev.now _)
    simp only [mooringref02_Same.l0, oM_length]
    rw [if_neg (by omega)]
  | succ d ih =>
    intro i hi h
    by_cases he : row A i = row C i
    · refine Ev.step (f := fun k => mooringref02_Same.l0 k (oM A) (oM C) ((i + 1 : Nat) : Int)) (fun k => ?_) (ih (i + 1) (by omega) (fun j hj => ?_))
      · simp only [mooringref02_Same.l0, oM_length, rd_oM]
        rw [if_pos (by omega), if_pos (by omega), if_pos (by omega), if_pos ((str_eq _ _).2 he), w64 _ (by omega) (by omega)]
        rfl
      · by_cases e : j = i
        · rw [e]; exact he
        · exact h j (by omega)
    · have e : decide (A = C) = false := decide_eq_false (fun e => he (by rw [e]))
      rw [e]
      refine Ev.step (f := fun _ => some false) (fun k => ?_) (Ev.now _)
      simp only [mooringref02_Same.l0, oM_length, rd_oM]
      rw [if_pos (by omega), if_pos (by omega), if_pos (by omega), if_neg (fun h => he ((str_eq _ _).1 h))]
theorem evSame (A C : Mat) (hs : A.length ≤ 9223372036854775807) : Ev (fun k => mooringref02_Same.f k (oM A) (oM C)) (decide (A = C)) := by
  unfold mooringref02_Same.f
  simp only [oM_length]
  by_cases h : A.length = C.length
  · simp only [show ((A.length : Int) = (C.length : Int)) = True from eq_true (by omega), if_true]
    exact same_l0 A C h hs A.length 0 (by omega) (fun j hj => by omega)
  · simp only [show ((A.length : Int) = (C.length : Int)) = False from eq_false (by omega), if_false]
    rw [decide_eq_false (fun e => h (by rw [e]))]
    exact Ev.now _
end Go.Proofs.Ytbogmlckbkogiaa.Red
namespace Go.Proofs.Ytbogmlckbkogiaa.Mx
open Go.Proofs.Ytbogmlckbkogiaa.Gf
set_option linter.unusedVariables false
set_option linter.unusedSimpArgs false
def sq {α : Type} : List α → (α → B) → B
  | [], _ => 0#8
  | x :: l, f => f x ^^^ sq l f
theorem sl_sq (l : List B) (f : B → B) : sl l f = sq l f := by
  induction l with
  | nil => rfl
  | cons x l ih => simp only [sl, sq]; rw [ih]
theorem sq_congr {α : Type} {l : List α} {f g : α → B} (h : ∀ x ∈ l, f x = g x) : sq l f = sq l g := by
  induction l with
  | nil => rfl
  | cons x l ih => simp only [sq]; rw [h x (by simp), ih (fun y hy => h y (by simp [hy]))]
theorem nodup_len {α : Type} [DecidableEq α] : ∀ (l l' : List α), l.Nodup → (∀ x ∈ l, x ∈ l') → l.length ≤ l'.length := by
  intro l
  induction l with
  | nil => intro l' _ _; exact Nat.zero_le _
  | cons a l ih =>
    intro l' hn hs
    rw [List.nodup_cons] at hn
    have h1 := hs a (by simp)
    have h2 := ih (l'.erase a) hn.2 (fun x hx => (List.mem_erase_of_ne (fun e => hn.1 (by rw [← e]; exact hx))).2 (hs x (by simp [hx])))
    rw [List.length_erase_of_mem h1] at h2
    have h3 := List.length_pos_of_mem h1
    rw [List.length_cons]
    omega
theorem filter_split {α : Type} (p : α → Bool) (l : List α) : (l.filter p).length + (l.filter fun x => !p x).length = l.length := by
  induction l with
  | nil => rfl
  | cons a l ih =>
    simp only [List.filter_cons]
    cases p a <;> simp <;> omega
theorem sq_filter {α : Type} (p : α → Bool) (f : α → B) (l : List α) (h : ∀ x ∈ l, p x = false → f x = 0#8) : sq (l.filter p) f = sq l f := by
  induction l with
  | nil => rfl
  | cons a l ih =>
    simp only [List.filter_cons]
    cases hp : p a with
    | true => simp only [if_true, sq]; rw [ih (fun x hx => h x (by simp [hx]))]
    | false => simp only [Bool.false_eq_true, if_false, sq]; rw [ih (fun x hx => h x (by simp [hx])), h a (by simp) hp, BitVec.zero_xor]
theorem sq_map {α β : Type} (g : α → β) (f : β → B) (l : List α) : sq (l.map g) f = sq l (fun x => f (g x)) := by
  induction l with
  | nil => rfl
  | cons a l ih => simp only [List.map_cons, sq]; rw [ih]
theorem sq_append {α : Type} (f : α → B) (l l' : List α) : sq (l ++ l') f = sq l f ^^^ sq l' f := by
  induction l with
  | nil => simp [sq]
  | cons a l ih => simp only [List.cons_append, sq]; rw [ih, BitVec.xor_assoc]
theorem sm_range (n : Nat) (f : Nat → B) : sm n f = sq (List.range n) f := by
  induction n with
  | zero => rfl
  | succ n ih => rw [List.range_succ, sq_append]; simp only [sm, sq]; rw [ih, BitVec.xor_zero]
/-- An element of the code's matrix. -/
def cau (k m : Nat) : Fm := fun v j => if v < k then I v j else inv (BitVec.ofNat 8 (v - k) ^^^ BitVec.ofNat 8 (m + j))
theorem ofNat8_inj {a b : Nat} (ha : a < 256) (hb : b < 256) (h : BitVec.ofNat 8 a = BitVec.ofNat 8 b) : a = b := by
  have := congrArg BitVec.toNat h
  rw [BitVec.toNat_ofNat, BitVec.toNat_ofNat] at this
  omega
theorem nodup_map {α β : Type} (g : α → β) (l : List α) (h : l.Nodup) (hi : ∀ x ∈ l, ∀ y ∈ l, g x = g y → x = y) : (l.map g).Nodup := by
  induction l with
  | nil => exact List.nodup_nil
  | cons a l ih =>
    rw [List.nodup_cons] at h
    rw [List.map_cons, List.nodup_cons]
    refine ⟨fun hm => ?_, ih h.2 (fun x hx y hy => hi x (by simp [hx]) y (by simp [hy]))⟩
    obtain ⟨b, hb, e⟩ := List.mem_map.1 hm
    have := hi b (by simp [hb]) a (by simp) e
    exact h.1 (by rw [← this]; exact hb)
theorem getD_inj {l : List Nat} (h : l.Nodup) {i j : Nat} (hi : i < l.length) (hj : j < l.length) (e : l.getD i 0 = l.getD j 0) : i = j := by
  rw [List.getD_eq_getElem?_getD, List.getElem?_eq_getElem hi, List.getD_eq_getElem?_getD, List.getElem?_eq_getElem hj] at e
  exact (List.getElem_inj h).1 e
theorem getD_mem {l : List Nat} {i : Nat} (hi : i < l.length) : l.getD i 0 ∈ l := by
  rw [List.getD_eq_getElem?_getD, List.getElem?_eq_getElem hi]
  exact List.getElem_mem hi
/-- Any k rows of the code's matrix: no sum of multiples of them is nought but that of nought. -/
theorem cauchy_regular {k m : Nat} (hk : k + m ≤ 255) (ls : List Nat) (hl : ls.length = k) (hnd : ls.Nodup) (hb : ∀ v ∈ ls, v < k + m) (y : Nat → B) (h0 : ∀ j, j < k → sm k (fun i => mul (y i) (cau k m (ls.getD i 0) j)) = 0#8) : ∀ i, i < k → y i = 0#8 := by
  have hlt : ∀ i, i < k → ls.getD i 0 < k + m := fun i hi => hb _ (getD_mem (by rw [hl]; exact hi))
  -- the rows behind the first k
  have hbig : ∀ i, i < k → k ≤ ls.getD i 0 → y i = 0#8 := by
    let Pi : List Nat := (List.range k).filter fun i => decide (k ≤ ls.getD i 0)
    let Ji : List Nat := (List.range k).filter fun j => !decide (j ∈ ls)
    have hPi : ∀ i, i ∈ Pi ↔ i < k ∧ k ≤ ls.getD i 0 := fun i => by simp only [Pi, List.mem_filter, List.mem_range, decide_eq_true_eq]
    have hJi : ∀ j, j ∈ Ji ↔ j < k ∧ ¬ j ∈ ls := fun j => by simp only [Ji, List.mem_filter, List.mem_range, Bool.not_eq_true', decide_eq_false_iff_not]
    let gx : Nat → B := fun i => BitVec.ofNat 8 (ls.getD i 0 - k)
    let gy : Nat → B := fun j => BitVec.ofNat 8 (m + j)
    let c : B → B := fun x => match (List.range k).find? (fun i => ls.getD i 0 == k + x.toNat) with | some i => y i | none => 0#8
    have hc : ∀ i, i ∈ Pi → c (gx i) = y i := by
      intro i hi
      obtain ⟨h1, h2⟩ := (hPi i).1 hi
      have h3 := hlt i h1
      have h4 : (gx i).toNat = ls.getD i 0 - k := by simp only [gx, BitVec.toNat_ofNat]; omega
      have h5 : (List.range k).find? (fun i' => ls.getD i' 0 == k + (gx i).toNat) = some i := by
        rw [List.find?_range_eq_some]
        refine ⟨by rw [h4, beq_iff_eq]; omega, List.mem_range.2 h1, fun j hj => ?_⟩
        rw [h4, Bool.not_eq_true', beq_eq_false_iff_ne]
        intro e
        have := getD_inj hnd (i := j) (j := i) (by omega) (by omega) (by omega)
        omega
      show (match (List.range k).find? (fun i' => ls.getD i' 0 == k + (gx i).toNat) with | some i => y i | none => 0#8) = y i
      rw [h5]
    have hlen : (Pi.map gx).length ≤ (Ji.map gy).length := by
      rw [List.length_map, List.length_map]
      have s1 := filter_split (fun i => decide (k ≤ ls.getD i 0)) (List.range k)
      have s2 := filter_split (fun j => !decide (j ∈ ls)) (List.range k)
      rw [List.length_range] at s1 s2
      have s3 : ((List.range k).filter fun j => !(!decide (j ∈ ls))).length ≤ (((List.range k).filter fun i => !decide (k ≤ ls.getD i 0)).map fun i => ls.getD i 0).length := by
        refine nodup_len _ _ (List.Pairwise.filter _ List.nodup_range) (fun j hj => ?_)
        simp only [List.mem_filter, List.mem_range, Bool.not_not, decide_eq_true_eq] at hj
        obtain ⟨i, hi, e⟩ := List.mem_iff_getElem.1 hj.2
        have e2 : ls.getD i 0 = j := by rw [List.getD_eq_getElem?_getD, List.getElem?_eq_getElem hi]; exact e
        refine List.mem_map.2 ⟨i, ?_, e2⟩
        simp only [List.mem_filter, List.mem_range, Bool.not_eq_true', decide_eq_false_iff_not]
        exact ⟨by omega, by rw [e2]; omega⟩
      rw [List.length_map] at s3
      show ((List.range k).filter fun i => decide (k ≤ ls.getD i 0)).length ≤ ((List.range k).filter fun j => !decide (j ∈ ls)).length
      omega
    have key := cauchy_null (Pi.map gx) (Ji.map gy) ?_ ?_ ?_ hlen c ?_
    · intro i hi h1
      have hm : i ∈ Pi := (hPi i).2 ⟨hi, h1⟩
      rw [← hc i hm]
      exact key _ (List.mem_map.2 ⟨i, hm, rfl⟩)
    · refine nodup_map gx Pi (List.Pairwise.filter _ List.nodup_range) (fun i hi j hj e => ?_)
      obtain ⟨h1, h2⟩ := (hPi i).1 hi
      obtain ⟨h3, h4⟩ := (hPi j).1 hj
      have h5 := hlt i h1
      have h6 := hlt j h3
      have := ofNat8_inj (by omega) (by omega) e
      exact getD_inj hnd (by omega) (by omega) (by omega)
    · refine nodup_map gy Ji (List.Pairwise.filter _ List.nodup_range) (fun i hi j hj e => ?_)
      obtain ⟨h1, h2⟩ := (hJi i).1 hi
      obtain ⟨h3, h4⟩ := (hJi j).1 hj
      have := ofNat8_inj (by omega) (by omega) e
      omega
    · intro x hx z hz e
      obtain ⟨i, hi, rfl⟩ := List.mem_map.1 hx
      obtain ⟨j, hj, rfl⟩ := List.mem_map.1 hz
      obtain ⟨h1, h2⟩ := (hPi i).1 hi
      obtain ⟨h3, h4⟩ := (hJi j).1 hj
      have h5 := hlt i h1
      have := ofNat8_inj (by omega) (by omega) e
      omega
    · intro z hz
      obtain ⟨j, hj, rfl⟩ := List.mem_map.1 hz
      obtain ⟨h3, h4⟩ := (hJi j).1 hj
      rw [← h0 j h3, sm_range, sl_sq, sq_map]
      have e1 : sq Pi (fun i => mul (c (gx i)) (inv (gx i ^^^ gy j))) = sq Pi (fun i => mul (y i) (cau k m (ls.getD i 0) j)) := by
        refine sq_congr (fun i hi => ?_)
        rw [hc i hi]
        unfold cau
        rw [if_neg (by have := ((hPi i).1 hi).2; omega)]
      rw [e1]
      refine sq_filter _ _ _ (fun i hi hp => ?_)
      have h5 : ¬ k ≤ ls.getD i 0 := by simpa using hp
      unfold cau
      rw [if_pos (by omega)]
      unfold I
      rw [if_neg (fun e => h4 (by rw [← e]; exact getD_mem (by rw [hl]; exact List.mem_range.1 hi))), mul_zero]
  intro i hi
  by_cases h1 : k ≤ ls.getD i 0
  · exact hbig i hi h1
  · have h2 := h0 (ls.getD i 0) (by omega)
    rw [sm_single hi (fun j hj hne => ?_)] at h2
    · unfold cau I at h2
      rw [if_pos (by omega), if_pos rfl, mul_one] at h2
      exact h2
    · by_cases h3 : k ≤ ls.getD j 0
      · rw [hbig j hj h3, zero_mul]
      · unfold cau I
        rw [if_pos (by omega), if_neg (fun e => hne (getD_inj hnd (by omega) (by omega) e)), mul_zero]
end Go.Proofs.Ytbogmlckbkogiaa.Mx
