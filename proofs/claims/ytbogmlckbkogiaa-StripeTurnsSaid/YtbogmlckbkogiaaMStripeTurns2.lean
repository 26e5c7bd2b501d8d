/- Words and walks that the claim StripeTurns leans on (what it does not use is left out). -/
import Derived.Test.YtbogmlckbkogiaaMStripeTurns1
import Derived.Laws.CopyOwn
namespace Go.Proofs.Ytbogmlckbkogiaa.H
open Go.RowKit Go.Proofs.YtbogmlckbkogiaaW.PrintWords Go.Proofs.Ytbogmlckbkogiaa.Leaf
set_option linter.unusedVariables false
/-- A row of bytes at the head of a block of the call's own. -/
def Rw (w : World) (base id cap : Nat) (r : List Int) : Prop := w.ownsRow base 5 1 (.slice (some ⟨id, 0, none⟩) r.length cap) r.length (encs (Value.int .u8) r)
/-- The slice that leads to row `i`. -/
def sl (id cap : Nat → Nat) (A : List (List Int)) (i : Nat) : Value := .slice (some ⟨id i, 0, none⟩) (A.getD i []).length (cap i)
def up (f : Nat → Nat) (i x : Nat) : Nat → Nat := fun k => if k = i then x else f k
theorem getD_set (A : List (List Int)) (i k : Nat) (r : List Int) (hi : i < A.length) : (A.set i r).getD k [] = if k = i then r else A.getD k [] := by
  simp only [List.getD_eq_getElem?_getD, List.getElem?_set]
  by_cases h : k = i
  · subst h; simp [hi]
  · simp [h, Ne.symm h]
structure Mt (w : World) (base g cp : Nat) (id cap : Nat → Nat) (A : List (List Int)) : Prop where
  outer : w.ownsRow base 22 1 (.slice (some ⟨g, 0, none⟩) A.length cp) A.length (encs (sl id cap A) (List.range A.length))
  rows : ∀ i, i < A.length → Rw w base (id i) (cap i) (A.getD i [])
  inj : ∀ i j, i < A.length → j < A.length → id i = id j → i = j
section
variable {w w1 : World} {base g cp b c : Nat} {id cap : Nat → Nat} {A : List (List Int)} {r : List Int}
theorem Rw.typed (h : Rw w base b c r) : ∃ cells, w.heap[b]? = some (.cells cells 5 (0, 0)) := own_typed h b rfl
theorem Rw.base_ (h : Rw w base b c r) : base ≤ b := own_base h b rfl
theorem Rw.lt (h : Rw w base b c r) : b < w.heap.size := own_lt h b rfl
theorem Rw.far (h : Rw w base b c r) {p : Addr} (hp : p.block ≠ b) (u : Value) : Rw (w.setCell p u) base b c r := own_setCell h (by simp [Value.ownBlock, hp]) u
theorem Rw.put (h : Rw w base b c r) (j : Nat) (x : Int) : Rw (w.setCell ⟨b, j, none⟩ (.int .u8 x)) base b c (r.set j x) := by
  have := (h.stored j (.int .u8 x)).1
  unfold Rw
  rw [List.length_set, show encs (Value.int .u8) (r.set j x) = (encs (Value.int .u8) r).set j (.int .u8 x) by simp [encs, List.map_set]]
  exact this
theorem Rw.cell (h : Rw w base b c r) (j : Nat) (hj : j < r.length) : w.cell? ⟨b, j, none⟩ = some (.int .u8 (rd r (j : Int))) ∧ w.frozen? ⟨b, j, none⟩ = false := by
  have := own_at_of (d := 0) h (j : Int) (by omega) (by omega)
  simpa [rdOf, rd] using this
theorem Rw.reads (h : Rw w base b c r) : Kd.C (Kd.int .u8) w (some ⟨b, 0, none⟩) r.length r ∧ r.length ≤ c := by
  have hR : Kd.R (Kd.int .u8) 5 w base (fun _ => True) (.slice (some ⟨b, 0, none⟩) r.length c) r := Kd.R_of_own h (fun _ _ => trivial)
  exact ⟨(Kd.R_reads' hR).2.2, (Kd.R_reads' hR).2.1⟩
theorem Mt.typed (h : Mt w base g cp id cap A) : ∃ cells, w.heap[g]? = some (.cells cells 22 (0, 0)) := own_typed h.outer g rfl
theorem Mt.gbase (h : Mt w base g cp id cap A) : base ≤ g := own_base h.outer g rfl
theorem Mt.glt (h : Mt w base g cp id cap A) : g < w.heap.size := own_lt h.outer g rfl
theorem Mt.ne (h : Mt w base g cp id cap A) (h2 : Rw w base b c r) : b ≠ g := by
  obtain ⟨cs, hc⟩ := h.typed
  obtain ⟨cs', hc'⟩ := h2.typed
  rintro rfl
  rw [hc] at hc'
  simp at hc'
theorem Mt.at_ (h : Mt w base g cp id cap A) (i : Nat) (hi : i < A.length) : w.cell? ⟨g, i, none⟩ = some (sl id cap A i) ∧ w.frozen? ⟨g, i, none⟩ = false := by
  have := own_at_of (d := 0) h.outer (i : Int) (by omega) (by omega)
  simpa [rdOf, List.getD_eq_getElem?_getD, List.getElem?_range hi] using this
theorem Mt.move (h : Mt w base g cp id cap A) (hm : ∀ k, (k = g ∨ ∃ i, i < A.length ∧ k = id i) → w1.heap[k]? = w.heap[k]?) : Mt w1 base g cp id cap A :=
  ⟨own_move h.outer (fun k hk => hm k (.inl (by simpa [Value.ownBlock] using hk.symm))), fun i hi => own_move (h.rows i hi) (fun k hk => hm k (.inr ⟨i, hi, by simpa [Value.ownBlock] using hk.symm⟩)), h.inj⟩
theorem Mt.lt (h : Mt w base g cp id cap A) (k : Nat) (hk : k = g ∨ ∃ i, i < A.length ∧ k = id i) : k < w.heap.size ∧ base ≤ k := by
  rcases hk with rfl | ⟨i, hi, rfl⟩
  · exact ⟨h.glt, h.gbase⟩
  · exact ⟨(h.rows i hi).lt, (h.rows i hi).base_⟩
theorem Mt.below (h : Mt w base g cp id cap A) (hb : Below w.heap.size w w1) : Mt w1 base g cp id cap A := h.move (fun k hk => hb.block k (h.lt k hk).1)
theorem Mt.far (h : Mt w base g cp id cap A) {p : Addr} (h0 : p.block ≠ g) (h1 : ∀ i, i < A.length → p.block ≠ id i) (u : Value) : Mt (w.setCell p u) base g cp id cap A :=
  h.move (fun k hk => Below.heap_setCell w p u k (by rcases hk with rfl | ⟨i, hi, rfl⟩; exact Ne.symm h0; exact Ne.symm (h1 i hi)))
theorem Mt.put (h : Mt w base g cp id cap A) (i : Nat) (hi : i < A.length) (j : Nat) (x : Int) : Mt (w.setCell ⟨id i, j, none⟩ (.int .u8 x)) base g cp id cap (A.set i ((A.getD i []).set j x)) := by
  have hsl : ∀ k, sl id cap (A.set i ((A.getD i []).set j x)) k = sl id cap A k := by
    intro k
    unfold sl
    rw [getD_set _ _ _ _ hi]
    by_cases hk : k = i
    · subst hk; rw [if_pos rfl, List.length_set]
    · rw [if_neg hk]
  refine ⟨?_, fun k hk => ?_, fun k l hk hl => h.inj k l (by simpa using hk) (by simpa using hl)⟩
  · rw [List.length_set, show encs (sl id cap (A.set i ((A.getD i []).set j x))) (List.range A.length) = encs (sl id cap A) (List.range A.length) from List.map_congr_left fun k _ => hsl k]
    exact own_setCell h.outer (by simp [Value.ownBlock, h.ne (h.rows i hi)]) _
  · rw [List.length_set] at hk
    rw [getD_set _ _ _ _ hi]
    by_cases e : k = i
    · subst e; rw [if_pos rfl]; exact (h.rows k hk).put j x
    · rw [if_neg e]; exact (h.rows k hk).far (fun e2 => e (h.inj k i hk hi e2.symm)) _
theorem encs_set {enc enc' : Nat → Value} {n i : Nat} {u : Value} (hi : i < n) (hu : enc' i = u) (hne : ∀ k, k < n → k ≠ i → enc' k = enc k) : (encs enc (List.range n)).set i u = encs enc' (List.range n) := by
  unfold encs
  refine List.ext_getElem (by simp) fun k h1 h2 => ?_
  simp only [List.length_set, List.length_map, List.length_range] at h1
  rw [List.getElem_set]
  by_cases e : i = k
  · subst e; simp [hu]
  · simp [e, hne k h1 (fun e2 => e e2.symm)]
theorem Mt.setRow (h : Mt w base g cp id cap A) (i : Nat) (hi : i < A.length) (hr : Rw w base b c r) (hb : ∀ k, k < A.length → k ≠ i → id k ≠ b) :
    Mt (w.setCell ⟨g, i, none⟩ (.slice (some ⟨b, 0, none⟩) r.length c)) base g cp (up id i b) (up cap i c) (A.set i r) := by
  have hbg := h.ne hr
  have h1 : sl (up id i b) (up cap i c) (A.set i r) i = .slice (some ⟨b, 0, none⟩) r.length c := by unfold sl up; rw [getD_set _ _ _ _ hi]; simp
  have h2 : ∀ k, k ≠ i → sl (up id i b) (up cap i c) (A.set i r) k = sl id cap A k := by intro k hk; unfold sl up; rw [getD_set _ _ _ _ hi]; simp [hk]
  refine ⟨?_, fun k hk => ?_, fun k l hk hl => ?_⟩
  · rw [List.length_set, ← encs_set (enc := sl id cap A) hi h1 (fun k _ hk => h2 k hk)]
    exact (h.outer.stored i _).1
  · rw [List.length_set] at hk
    rw [getD_set _ _ _ _ hi]
    unfold up
    by_cases e : k = i
    · rw [if_pos e, if_pos e, if_pos e]; exact hr.far (Ne.symm hbg) _
    · rw [if_neg e, if_neg e, if_neg e]; exact (h.rows k hk).far (Ne.symm (h.ne (h.rows k hk))) _
  · rw [List.length_set] at hk hl
    unfold up
    by_cases e : k = i <;> by_cases e2 : l = i
    · intro _; rw [e, e2]
    · rw [if_pos e, if_neg e2]; intro h3; exact absurd h3.symm (hb l hl e2)
    · rw [if_neg e, if_pos e2]; intro h3; exact absurd h3 (hb k hk e)
    · rw [if_neg e, if_neg e2]; exact h.inj k l hk hl
theorem Mt.of_S {ok : Nat → Prop} {v : Value} (h : Kd.S (Kd.slice 5 (Kd.int .u8)) 22 w base ok v A) (h0 : 0 < A.length) (hr : ∀ i, i < A.length → 0 < (A.getD i []).length) :
    ∃ g cp id cap, v = .slice (some ⟨g, 0, none⟩) A.length cp ∧ Mt w base g cp id cap A ∧ ok g ∧ ∀ i, i < A.length → ok (id i) := by
  obtain ⟨g, cp, hv, _⟩ := Kd.S_form h h0
  obtain ⟨f, hok, inner, ho, hrp⟩ := h
  rw [List.length_zipIdx] at ho
  have hl : inner.length = A.length := by have := ho.1; rw [show (Kd.tag f (Kd.slice 5 (Kd.int .u8))).sz = 1 from rfl] at this; omega
  have key : ∀ i, i < A.length → ∃ b c, inner[i]? = some (.slice (some ⟨b, 0, none⟩) (A.getD i []).length c) ∧ Rw w base b c (A.getD i []) ∧ f b = i ∧ ok b := by
    intro i hi
    have hAi : A[i]? = some (A.getD i []) := by rw [List.getD_eq_getElem?_getD, List.getElem?_eq_getElem hi]; rfl
    obtain ⟨vi, hc, hR⟩ := hrp.2 i (A.getD i [], i) (Kd.zip_at hAi)
    obtain ⟨b, c, rfl, hb⟩ := Kd.R_form hR (hr i hi)
    have hci : (inner.drop i).take 1 = [.slice (some ⟨b, 0, none⟩) (A.getD i []).length c] := by simpa [Kd.tag, Kd.slice] using hc
    refine ⟨b, c, ?_, Kd.own_of_R hR, ?_, ?_⟩
    · have := congrArg (fun l => l[0]?) hci
      simpa [List.getElem?_take, List.getElem?_drop] using this
    · exact (hR.1 b rfl).2
    · exact (hR.1 b rfl).1.1
  let id : Nat → Nat := fun i => if hi : i < A.length then (key i hi).choose else 0
  let cap : Nat → Nat := fun i => if hi : i < A.length then (key i hi).choose_spec.choose else 0
  have kid : ∀ i, i < A.length → inner[i]? = some (.slice (some ⟨id i, 0, none⟩) (A.getD i []).length (cap i)) ∧ Rw w base (id i) (cap i) (A.getD i []) ∧ f (id i) = i ∧ ok (id i) := by
    intro i hi
    have := (key i hi).choose_spec.choose_spec
    simp only [id, cap, hi, dite_true]
    exact this
  subst hv
  refine ⟨g, cp, id, cap, rfl, ⟨?_, fun i hi => (kid i hi).2.1, fun i j hi hj e => ?_⟩, hok g rfl, fun i hi => (kid i hi).2.2.2⟩
  · have e : inner = encs (sl id cap A) (List.range A.length) := by
      unfold encs
      refine List.ext_getElem? fun i => ?_
      by_cases hi : i < A.length
      · rw [(kid i hi).1, List.getElem?_map, List.getElem?_range hi]
        rfl
      · rw [List.getElem?_eq_none (by omega), List.getElem?_eq_none (by simp; omega)]
    rw [← e]
    exact ho
  · have h1 := (kid i hi).2.2.1
    have h2 := (kid j hj).2.2.1
    rw [e] at h1
    omega
theorem Mt.to_S (h : Mt w base g cp id cap A) : Kd.S (Kd.slice 5 (Kd.int .u8)) 22 w base (fun k => k = g ∨ ∃ i, i < A.length ∧ k = id i) (.slice (some ⟨g, 0, none⟩) A.length cp) A := by
  refine ⟨fun k => ((List.range A.length).find? fun i => id i == k).getD 0, fun k hk => .inl (by simpa [Value.ownBlock] using hk.symm), encs (sl id cap A) (List.range A.length), ?_, ?_⟩
  · rw [List.length_zipIdx]; exact h.outer
  · refine ⟨by show (encs (sl id cap A) (List.range A.length)).length = A.zipIdx.length * 1; simp [encs], fun j p hj => ?_⟩
    have hj' : A.zipIdx[j]? = some p := hj
    rw [List.getElem?_zipIdx] at hj'
    obtain ⟨r, hr, rfl⟩ := Option.map_eq_some_iff.1 hj'
    have hlt : j < A.length := (List.getElem?_eq_some_iff.1 hr).1
    have hrD : A.getD j [] = r := by rw [List.getD_eq_getElem?_getD, hr]; rfl
    refine ⟨sl id cap A j, ?_, ?_⟩
    · show ((encs (sl id cap A) (List.range A.length)).drop (j * 1)).take 1 = _
      rw [Nat.mul_one]
      refine List.ext_getElem? fun k => ?_
      cases k with
      | zero => simp [encs, List.getElem?_drop, List.getElem?_range hlt]
      | succ k => simp [List.getElem?_take]
    · unfold sl
      rw [hrD]
      have hro := h.rows j hlt
      rw [hrD] at hro
      refine Kd.R_of_own hro fun k hk => ?_
      have hk' : k = id j := by simpa [Value.ownBlock] using hk.symm
      subst hk'
      refine ⟨⟨.inr ⟨j, hlt, rfl⟩, ?_⟩, ?_⟩
      · simp only [Value.ownBlock]
        intro e
        exact h.ne hro (Option.some.inj e)
      · show ((List.range A.length).find? fun i => id i == id j).getD 0 = 0 + j
        have : (List.range A.length).find? (fun i => id i == id j) = some j := by
          rw [List.find?_range_eq_some]
          refine ⟨by simp, by simpa using hlt, fun i hi => ?_⟩
          have : id i ≠ id j := fun e => by have := h.inj i j (by omega) hlt e; omega
          simpa using this
        rw [this]
        simp
end
end Go.Proofs.Ytbogmlckbkogiaa.H
namespace Go.Proofs.Ytbogmlckbkogiaa.Red
open Go.RowKit Go.Proofs.YtbogmlckbkogiaaW.PrintWords Go.Proofs.Ytbogmlckbkogiaa.Leaf Go.Proofs.Ytbogmlckbkogiaa.Gf Go.Proofs.Ytbogmlckbkogiaa.H
abbrev Mat := List (List B)
def row (A : Mat) (i : Nat) : List B := A.getD i []
def el (A : Mat) (i j : Nat) : B := at0 (row A i) j
def swapM (A : Mat) (i j : Nat) : Mat := (A.set i (row A j)).set j (row A i)
/-- A row's places from `j` on, times `v`. -/
def scF (v : B) : Nat → Nat → List B → List B
  | 0, _, r => r
  | n + 1, j, r => scF v n (j + 1) (r.set j (mul (at0 r j) v))
def scale (v : B) (r : List B) : List B := scF v r.length 0 r
/-- The rows from `i` on, the one at `d` taken off so often that column `c` is nought there. -/
def elF (c d : Nat) : Nat → Nat → Mat → Mat → Mat × Mat
  | 0, _, A, Z => (A, Z)
  | n + 1, i, A, Z => if i ≠ d ∧ el A i c ≠ 0#8 then elF c d n (i + 1) (A.set i (am (row A i) (row A d) (el A i c) (row A i).length)) (Z.set i (am (row Z i) (row Z d) (el A i c) (row Z i).length)) else elF c d n (i + 1) A Z
/-- One column's step: the row at `t` is the pivot. -/
def stepF (c d t : Nat) (A Z : Mat) : Mat × Mat :=
  let A1 := swapM A t d
  let Z1 := swapM Z t d
  let v := inv (el A1 d c)
  let A2 := A1.set d (scale v (row A1 d))
  let Z2 := Z1.set d (scale v (row Z1 d))
  elF c d A2.length 0 A2 Z2
/-- Where the pivot is, counted from `d` on; -1 if there is none. -/
def pivot (A : Mat) (d c : Nat) : Int := firstP (fun j => rd (ofL (row A (d + j))) (c : Int) != 0) (A.length - d)
def redF : Nat → Nat → Nat → Mat → Mat → Nat × Mat × Mat
  | 0, _, d, A, Z => (d, A, Z)
  | n + 1, c, d, A, Z => if pivot A d c < 0 then redF n (c + 1) d A Z else
      if d + 1 = A.length then (d + 1, stepF c d ((pivot A d c).toNat + d) A Z) else redF n (c + 1) (d + 1) (stepF c d ((pivot A d c).toNat + d) A Z).1 (stepF c d ((pivot A d c).toNat + d) A Z).2
/-- All rows of one length. -/
def Reg (A : Mat) (n m : Nat) : Prop := A.length = n ∧ ∀ i, i < n → (row A i).length = m
theorem row_set (A : Mat) (i k : Nat) (r : List B) (hi : i < A.length) : row (A.set i r) k = if k = i then r else row A k := by
  unfold row
  simp only [List.getD_eq_getElem?_getD, List.getElem?_set]
  by_cases h : k = i
  · subst h; simp [hi]
  · simp [h, Ne.symm h]
theorem Reg.set {A : Mat} {n m : Nat} (h : Reg A n m) {i : Nat} (hi : i < n) {r : List B} (hr : r.length = m) : Reg (A.set i r) n m := by
  refine ⟨by rw [List.length_set]; exact h.1, fun k hk => ?_⟩
  rw [row_set _ _ _ _ (by rw [h.1]; exact hi)]
  by_cases e : k = i
  · rw [if_pos e]; exact hr
  · rw [if_neg e]; exact h.2 k hk
theorem map_getD (A : Mat) (i : Nat) : (A.map ofL).getD i [] = ofL (row A i) := by
  unfold row
  simp only [List.getD_eq_getElem?_getD, List.getElem?_map]
  cases A[i]? <;> rfl
theorem map_set (A : Mat) (i : Nat) (r : List B) : (A.map ofL).set i (ofL r) = (A.set i r).map ofL := by rw [List.map_set]
end Go.Proofs.Ytbogmlckbkogiaa.Red
namespace Go.Proofs.Ytbogmlckbkogiaa.Mx
open Go.Proofs.Ytbogmlckbkogiaa.Gf
set_option linter.unusedVariables false
abbrev Fm := Nat → Nat → B
/-- The sum of the first n. -/
def sm : Nat → (Nat → B) → B
  | 0, _ => 0#8
  | n + 1, f => sm n f ^^^ f n
theorem sm_congr {n : Nat} {f g : Nat → B} (h : ∀ i, i < n → f i = g i) : sm n f = sm n g := by
  induction n with
  | zero => rfl
  | succ n ih => simp only [sm]; rw [ih (fun i hi => h i (by omega)), h n (by omega)]
theorem sm_zero {n : Nat} {f : Nat → B} (h : ∀ i, i < n → f i = 0#8) : sm n f = 0#8 := by
  induction n with
  | zero => rfl
  | succ n ih => simp only [sm]; rw [ih (fun i hi => h i (by omega)), h n (by omega)]; rfl
theorem sm_add (n : Nat) (f g : Nat → B) : sm n (fun i => f i ^^^ g i) = sm n f ^^^ sm n g := by
  induction n with
  | zero => simp [sm]
  | succ n ih => simp only [sm]; rw [ih, xor_swap4]
theorem sm_mulL (n : Nat) (c : B) (f : Nat → B) : sm n (fun i => mul c (f i)) = mul c (sm n f) := by
  induction n with
  | zero => exact (mul_zero c).symm
  | succ n ih => simp only [sm]; rw [ih, mul_add]
theorem sm_mulR (n : Nat) (c : B) (f : Nat → B) : sm n (fun i => mul (f i) c) = mul (sm n f) c := by
  induction n with
  | zero => exact (zero_mul c).symm
  | succ n ih => simp only [sm]; rw [ih, add_mul]
theorem sm_swap (n m : Nat) (f : Nat → Nat → B) : sm n (fun i => sm m (f i)) = sm m (fun j => sm n (fun i => f i j)) := by
  induction n with
  | zero => exact (sm_zero (fun _ _ => rfl)).symm
  | succ n ih => simp only [sm]; rw [ih, ← sm_add]
theorem sm_single {n i : Nat} {f : Nat → B} (hi : i < n) (h : ∀ j, j < n → j ≠ i → f j = 0#8) : sm n f = f i := by
  induction n with
  | zero => omega
  | succ n ih =>
    simp only [sm]
    by_cases e : i = n
    · subst e
      rw [sm_zero (fun j hj => h j (by omega) (by omega)), BitVec.zero_xor]
    · rw [ih (by omega) (fun j hj hne => h j (by omega) hne), h n (by omega) (fun e2 => e e2.symm), BitVec.xor_zero]
/-- The product over n places. -/
def mm (n : Nat) (a b : Fm) : Fm := fun i j => sm n (fun k => mul (a i k) (b k j))
def I : Fm := fun i j => if i = j then 1#8 else 0#8
theorem mm_assoc (n p : Nat) (a b c : Fm) (i j : Nat) : mm p (mm n a b) c i j = mm n a (mm p b c) i j := by
  unfold mm
  rw [show (fun k => mul (sm n fun l => mul (a i l) (b l k)) (c k j)) = fun k => sm n fun l => mul (mul (a i l) (b l k)) (c k j) from funext fun k => (sm_mulR _ _ _).symm, sm_swap]
  refine sm_congr fun l _ => ?_
  rw [← sm_mulL]
  exact sm_congr fun k _ => mul_assoc _ _ _
theorem mm_congr {n : Nat} {a a' b b' : Fm} {i j : Nat} (h1 : ∀ k, k < n → a i k = a' i k) (h2 : ∀ k, k < n → b k j = b' k j) : mm n a b i j = mm n a' b' i j := sm_congr fun k hk => by rw [h1 k hk, h2 k hk]
theorem mm_IL {n : Nat} (a : Fm) {i : Nat} (j : Nat) (hi : i < n) : mm n I a i j = a i j := by
  unfold mm
  rw [sm_single hi (fun k _ hne => by unfold I; rw [if_neg (fun e => hne e.symm), zero_mul])]
  unfold I
  rw [if_pos rfl, one_mul]
/-- E and F undo one another. -/
def Inv2 (n : Nat) (E F : Fm) : Prop := (∀ i j, i < n → j < n → mm n E F i j = I i j) ∧ ∀ i j, i < n → j < n → mm n F E i j = I i j
/-- A' is E times A, of n rows and m columns. -/
def Lt (n m : Nat) (E A A' : Fm) : Prop := ∀ i j, i < n → j < m → A' i j = mm n E A i j
/-- Both matrices were turned by one thing that can be undone. -/
def Rturn (n m p : Nat) (A Z A' Z' : Fm) : Prop := ∃ E F, Inv2 n E F ∧ Lt n m E A A' ∧ Lt n p E Z Z'
theorem Inv2.refl (n : Nat) : Inv2 n I I := ⟨fun i j hi _ => mm_IL I j hi, fun i j hi _ => mm_IL I j hi⟩
theorem Lt.refl (n m : Nat) (A : Fm) : Lt n m I A A := fun i j hi _ => (mm_IL A j hi).symm
theorem Rturn.refl (n m p : Nat) (A Z : Fm) : Rturn n m p A Z A Z := ⟨I, I, Inv2.refl n, Lt.refl n m A, Lt.refl n p Z⟩
theorem Lt.trans {n m : Nat} {E E' A A' A'' : Fm} (h : Lt n m E A A') (h' : Lt n m E' A' A'') : Lt n m (mm n E' E) A A'' := by
  intro i j hi hj
  rw [h' i j hi hj, mm_assoc]
  exact mm_congr (fun _ _ => rfl) (fun k hk => h k j hk hj)
theorem Inv2.half {n : Nat} {E F E' F' : Fm} (h : ∀ i j, i < n → j < n → mm n E F i j = I i j) (h' : ∀ i j, i < n → j < n → mm n E' F' i j = I i j) : ∀ i j, i < n → j < n → mm n (mm n E' E) (mm n F F') i j = I i j := by
  intro i j hi hj
  rw [mm_assoc, ← h' i j hi hj]
  refine mm_congr (fun _ _ => rfl) (fun k hk => ?_)
  rw [← mm_assoc, mm_congr (a' := I) (b' := F') (fun l hl => h k l hk hl) (fun _ _ => rfl), mm_IL _ _ hk]
theorem Inv2.trans {n : Nat} {E F E' F' : Fm} (h : Inv2 n E F) (h' : Inv2 n E' F') : Inv2 n (mm n E' E) (mm n F F') := ⟨Inv2.half h.1 h'.1, Inv2.half h'.2 h.2⟩
theorem Rturn.trans {n m p : Nat} {A Z A' Z' A'' Z'' : Fm} (h : Rturn n m p A Z A' Z') (h' : Rturn n m p A' Z' A'' Z'') : Rturn n m p A Z A'' Z'' := by
  obtain ⟨E, F, h1, h2, h3⟩ := h
  obtain ⟨E', F', h1', h2', h3'⟩ := h'
  exact ⟨_, _, h1.trans h1', h2.trans h2', h3.trans h3'⟩
theorem Rturn.congr {n m p : Nat} {A Z A' Z' A'' Z'' : Fm} (h : Rturn n m p A Z A' Z') (hA : ∀ i j, i < n → j < m → A'' i j = A' i j) (hZ : ∀ i j, i < n → j < p → Z'' i j = Z' i j) : Rturn n m p A Z A'' Z'' := by
  obtain ⟨E, F, h1, h2, h3⟩ := h
  exact ⟨E, F, h1, fun i j hi hj => (hA i j hi hj).trans (h2 i j hi hj), fun i j hi hj => (hZ i j hi hj).trans (h3 i j hi hj)⟩
/-- A row is multiplied. -/
theorem Rturn.scale {n m p d : Nat} {v : B} (A Z : Fm) (hv : v ≠ 0#8) : Rturn n m p A Z (fun i j => mul (if i = d then v else 1#8) (A i j)) (fun i j => mul (if i = d then v else 1#8) (Z i j)) := by
  have hE : ∀ (s : Nat → B) (X : Fm) i j, i < n → mm n (fun i l => mul (s i) (I i l)) X i j = mul (s i) (X i j) := by
    intro s X i j hi
    unfold mm
    rw [show (fun k => mul (mul (s i) (I i k)) (X k j)) = fun k => mul (s i) (mul (I i k) (X k j)) from funext fun k => mul_assoc _ _ _, sm_mulL]
    congr 1
    exact mm_IL X j hi
  refine ⟨fun i l => mul (if i = d then v else 1#8) (I i l), fun i l => mul (if i = d then inv v else 1#8) (I i l), ⟨fun i j hi hj => ?_, fun i j hi hj => ?_⟩, fun i j hi hj => (hE (fun i => if i = d then v else 1#8) A i j hi).symm, fun i j hi hj => (hE (fun i => if i = d then v else 1#8) Z i j hi).symm⟩
  · rw [hE (fun i => if i = d then v else 1#8) _ i j hi, ← mul_assoc]
    by_cases e : i = d
    · rw [if_pos e, if_pos e, mul_inv v hv, one_mul]
    · rw [if_neg e, if_neg e, one_mul, one_mul]
  · rw [hE (fun i => if i = d then inv v else 1#8) _ i j hi, ← mul_assoc]
    by_cases e : i = d
    · rw [if_pos e, if_pos e, inv_mul v hv, one_mul]
    · rw [if_neg e, if_neg e, one_mul, one_mul]
/-- A row's multiples are added to the others. -/
theorem Rturn.add {n m p d : Nat} (A Z : Fm) (x : Nat → B) (hd : d < n) (hx : x d = 0#8) : Rturn n m p A Z (fun i j => A i j ^^^ mul (x i) (A d j)) (fun i j => Z i j ^^^ mul (x i) (Z d j)) := by
  have hE : ∀ (X : Fm) i j, i < n → mm n (fun i l => I i l ^^^ mul (x i) (I d l)) X i j = X i j ^^^ mul (x i) (X d j) := by
    intro X i j hi
    unfold mm
    rw [show (fun k => mul (I i k ^^^ mul (x i) (I d k)) (X k j)) = fun k => mul (I i k) (X k j) ^^^ mul (x i) (mul (I d k) (X k j)) from funext fun k => by rw [add_mul, mul_assoc], sm_add, sm_mulL]
    congr 1
    · exact mm_IL X j hi
    · congr 1
      exact mm_IL X j hd
  have h2 : ∀ i j, i < n → j < n → mm n (fun i l => I i l ^^^ mul (x i) (I d l)) (fun i l => I i l ^^^ mul (x i) (I d l)) i j = I i j := by
    intro i j hi hj
    rw [hE _ i j hi, hx, zero_mul, BitVec.xor_zero, BitVec.xor_assoc, BitVec.xor_self, BitVec.xor_zero]
  exact ⟨_, _, ⟨h2, h2⟩, fun i j hi hj => (hE A i j hi).symm, fun i j hi hj => (hE Z i j hi).symm⟩
def sl : List B → (B → B) → B
  | [], _ => 0#8
  | x :: l, f => f x ^^^ sl l f
end Go.Proofs.Ytbogmlckbkogiaa.Mx
namespace Go.Proofs.Ytbogmlckbkogiaa.Red
open Go.RowKit Go.Proofs.YtbogmlckbkogiaaW.PrintWords Go.Proofs.Ytbogmlckbkogiaa.Leaf Go.Proofs.Ytbogmlckbkogiaa.Gf Go.Proofs.Ytbogmlckbkogiaa.H Go.Proofs.Ytbogmlckbkogiaa.Mx
set_option linter.unusedVariables false
theorem am_at (L M : List B) (s : B) (j : Nat) (hj : j < L.length) : at0 (am L M s L.length) j = at0 L j ^^^ mul (at0 M j) s := by
  rw [at0_am _ _ _ _ _ hj, if_pos hj]
/-- The identity. -/
def idM (n : Nat) : Mat := (List.range n).map fun i => (List.range n).map fun j => if i = j then 1#8 else 0#8
theorem row_map (n : Nat) (f : Nat → List B) (i : Nat) (hi : i < n) : row ((List.range n).map f) i = f i := by
  unfold row
  rw [List.getD_eq_getElem?_getD, List.getElem?_map, List.getElem?_range hi]
  rfl
theorem at0_map (n : Nat) (f : Nat → B) (i : Nat) (hi : i < n) : at0 ((List.range n).map f) i = f i := by
  unfold at0
  rw [List.getD_eq_getElem?_getD, List.getElem?_map, List.getElem?_range hi]
  rfl
/-- The matrix of n rows and m columns whose elements are told. -/
def matF (n m : Nat) (f : Fm) : Mat := (List.range n).map fun i => (List.range m).map (f i)
theorem matF_reg (n m : Nat) (f : Fm) : Reg (matF n m f) n m := ⟨by simp [matF], fun i hi => by unfold matF; rw [row_map _ _ _ hi]; simp⟩
theorem el_matF {n m : Nat} (f : Fm) {i j : Nat} (hi : i < n) (hj : j < m) : el (matF n m f) i j = f i j := by
  unfold el matF
  rw [row_map _ _ _ hi, at0_map _ _ _ hj]
theorem idM_eq (n : Nat) : idM n = matF n n I := rfl
theorem mat_ext {n m : Nat} {A C : Mat} (hA : Reg A n m) (hC : Reg C n m) (h : ∀ i j, i < n → j < m → el A i j = el C i j) : A = C := by
  refine List.ext_getElem (by rw [hA.1, hC.1]) fun i h1 h2 => ?_
  have hi : i < n := by rw [← hA.1]; exact h1
  have e1 : A[i] = row A i := by unfold row; rw [List.getD_eq_getElem?_getD, List.getElem?_eq_getElem h1]; rfl
  have e2 : C[i] = row C i := by unfold row; rw [List.getD_eq_getElem?_getD, List.getElem?_eq_getElem h2]; rfl
  rw [e1, e2]
  exact ext0 (by rw [hA.2 i hi, hC.2 i hi]) fun j hj => h i j hi (by rw [← hA.2 i hi]; exact hj)
end Go.Proofs.Ytbogmlckbkogiaa.Red
namespace Go.Proofs.Ytbogmlckbkogiaa.H
open Go.RowKit Go.Proofs.YtbogmlckbkogiaaW.PrintWords Go.Proofs.Ytbogmlckbkogiaa.Leaf Go.Proofs.Ytbogmlckbkogiaa.Gf Go.Proofs.Ytbogmlckbkogiaa.Red
set_option linter.unusedVariables false
set_option linter.unusedSimpArgs false
/-- An outer row of k places, the first ones laid. -/
structure Mp (w : World) (base g cp k : Nat) (id cap : Nat → Nat) (A : List (List Int)) : Prop where
  outer : ∃ fc : Nat → Value, w.ownsRow base 22 1 (.slice (some ⟨g, 0, none⟩) k cp) k (encs (fun j => if j < A.length then sl id cap A j else fc j) (List.range k))
  rows : ∀ i, i < A.length → Rw w base (id i) (cap i) (A.getD i [])
  inj : ∀ i j, i < A.length → j < A.length → id i = id j → i = j
  le : A.length ≤ k
section
variable {w w0 w1 : World} {base g cp k b c : Nat} {id cap : Nat → Nat} {A : List (List Int)} {r : List Int}
theorem Mp.typed (h : Mp w base g cp k id cap A) : ∃ cells, w.heap[g]? = some (.cells cells 22 (0, 0)) := by obtain ⟨fc, ho⟩ := h.outer; exact own_typed ho g rfl
theorem Mp.gbase (h : Mp w base g cp k id cap A) : base ≤ g := by obtain ⟨fc, ho⟩ := h.outer; exact own_base ho g rfl
theorem Mp.glt (h : Mp w base g cp k id cap A) : g < w.heap.size := by obtain ⟨fc, ho⟩ := h.outer; exact own_lt ho g rfl
theorem Mp.ne (h : Mp w base g cp k id cap A) (h2 : Rw w base b c r) : b ≠ g := by
  obtain ⟨cs, hc⟩ := h.typed
  obtain ⟨cs', hc'⟩ := h2.typed
  rintro rfl
  rw [hc] at hc'
  simp at hc'
theorem Mp.move (h : Mp w base g cp k id cap A) (hm : ∀ q, (q = g ∨ ∃ i, i < A.length ∧ q = id i) → w1.heap[q]? = w.heap[q]?) : Mp w1 base g cp k id cap A := by
  obtain ⟨fc, ho⟩ := h.outer
  exact ⟨⟨fc, own_move ho (fun q hq => hm q (.inl (by simpa [Value.ownBlock] using hq.symm)))⟩, fun i hi => own_move (h.rows i hi) (fun q hq => hm q (.inr ⟨i, hi, by simpa [Value.ownBlock] using hq.symm⟩)), h.inj, h.le⟩
theorem Mp.lt (h : Mp w base g cp k id cap A) (q : Nat) (hq : q = g ∨ ∃ i, i < A.length ∧ q = id i) : q < w.heap.size ∧ base ≤ q := by
  rcases hq with rfl | ⟨i, hi, rfl⟩
  · exact ⟨h.glt, h.gbase⟩
  · exact ⟨(h.rows i hi).lt, (h.rows i hi).base_⟩
theorem Mp.below (h : Mp w base g cp k id cap A) (hb : Below w.heap.size w w1) : Mp w1 base g cp k id cap A := h.move (fun q hq => hb.block q (h.lt q hq).1)
theorem Mp.at_ (h : Mp w base g cp k id cap A) (i : Nat) (hi : i < A.length) : w.cell? ⟨g, i, none⟩ = some (sl id cap A i) ∧ w.frozen? ⟨g, i, none⟩ = false := by
  obtain ⟨fc, ho⟩ := h.outer
  have hk := h.le
  have := own_at_of (d := 0) ho (i : Int) (by omega) (by omega)
  simpa [rdOf, List.getD_eq_getElem?_getD, List.getElem?_range (show i < k by omega), hi] using this
theorem Mp.free (h : Mp w base g cp k id cap A) (i : Nat) (hi : i < k) : (∃ u, w.cell? ⟨g, i, none⟩ = some u) ∧ w.frozen? ⟨g, i, none⟩ = false := by
  obtain ⟨fc, ho⟩ := h.outer
  have := own_at_of (d := 0) ho (i : Int) (by omega) (by omega)
  exact ⟨⟨_, by simpa using this.1⟩, by simpa using this.2⟩
theorem Mp.add (h : Mp w base g cp k id cap A) (hi : A.length < k) (hr : Rw w base b c r) (hb : ∀ j, j < A.length → id j ≠ b) :
    Mp (w.setCell ⟨g, A.length, none⟩ (.slice (some ⟨b, 0, none⟩) r.length c)) base g cp k (up id A.length b) (up cap A.length c) (A ++ [r]) := by
  obtain ⟨fc, ho⟩ := h.outer
  have hbg := h.ne hr
  have hget : ∀ j, j < A.length → (A ++ [r]).getD j [] = A.getD j [] := fun j hj => by simp [List.getD_eq_getElem?_getD, List.getElem?_append_left hj]
  have hlast : (A ++ [r]).getD A.length [] = r := by simp [List.getD_eq_getElem?_getD]
  refine ⟨⟨fc, ?_⟩, fun i hi2 => ?_, fun i j hi2 hj2 => ?_, by rw [List.length_append]; simp; omega⟩
  · have := (ho.stored A.length (.slice (some ⟨b, 0, none⟩) r.length c)).1
    have e : (encs (fun j => if j < A.length then sl id cap A j else fc j) (List.range k)).set A.length (.slice (some ⟨b, 0, none⟩) r.length c) = encs (fun j => if j < (A ++ [r]).length then sl (up id A.length b) (up cap A.length c) (A ++ [r]) j else fc j) (List.range k) := by
      refine encs_set hi ?_ (fun j hj hne => ?_)
      · rw [if_pos (by rw [List.length_append]; simp)]
        unfold sl up
        rw [hlast, if_pos rfl, if_pos rfl]
      · by_cases e1 : j < A.length
        · rw [if_pos e1, if_pos (by rw [List.length_append]; simp; omega)]
          unfold sl up
          rw [hget j e1, if_neg hne, if_neg hne]
        · rw [if_neg e1, if_neg (by rw [List.length_append]; simp; omega)]
    rw [← e]
    exact this
  · rw [List.length_append] at hi2
    simp only [List.length_cons, List.length_nil, Nat.zero_add] at hi2
    unfold up
    by_cases e : i = A.length
    · rw [if_pos e, if_pos e, e, hlast]
      exact hr.far (Ne.symm hbg) _
    · rw [if_neg e, if_neg e, hget i (by omega)]
      exact (h.rows i (by omega)).far (Ne.symm (h.ne (h.rows i (by omega)))) _
  · rw [List.length_append] at hi2 hj2
    simp only [List.length_cons, List.length_nil, Nat.zero_add] at hi2 hj2
    unfold up
    by_cases e : i = A.length <;> by_cases e2 : j = A.length
    · intro _; rw [e, e2]
    · rw [if_pos e, if_neg e2]; intro h3; exact absurd h3.symm (hb j (by omega))
    · rw [if_neg e, if_pos e2]; intro h3; exact absurd h3 (hb i (by omega))
    · rw [if_neg e, if_neg e2]; exact h.inj i j (by omega) (by omega)
/-- A copy into a row. -/
theorem Rw.splice (h : Rw w base b c r) : ∃ cur : Array Value, w.heap[b]? = some (.cells cur 5 (0, 0)) ∧ ∀ (off : Nat) (cs : List Int), off + cs.length ≤ r.length →
    off + cs.length ≤ cur.size ∧ Rw (w.setRow b (cur.toList.take off ++ (encs (Value.int .u8) cs ++ cur.toList.drop (off + cs.length))).toArray) base b c (splice r off cs) := by
  obtain ⟨hl, h0 | ⟨g', cap', cur, e, hb, hg, hnc, hcm, hcs, htake⟩⟩ := h
  · exact absurd h0.1 (by simp)
  · simp only [Value.slice.injEq, Option.some.injEq, Addr.mk.injEq, and_true, true_and] at e
    obtain ⟨rfl, rfl⟩ := e
    refine ⟨cur, hg, fun off cs hfit => ?_⟩
    have hsz : off + cs.length ≤ cur.size := by omega
    refine ⟨hsz, ?_⟩
    have hls : (Go.splice r off cs).length = r.length := length_splice r off cs hfit
    refine ⟨?_, .inr ⟨b, c, (cur.toList.take off ++ (encs (Value.int .u8) cs ++ cur.toList.drop (off + cs.length))).toArray, ?_, hb, setRow_heap w b cur _ 5 (0, 0) hg, by rw [hls]; exact hnc, hcm, ?_, ?_⟩⟩
    · simp [encs]
    · rfl
    · simp [encs]; omega
    · simp only [Nat.mul_one] at htake ⊢
      rw [List.toList_toArray, hls]
      unfold Go.splice encs
      rw [List.map_append, List.map_append, List.map_take, List.map_drop]
      unfold encs at htake
      rw [← htake, List.take_take, List.take_append, List.take_append, List.take_take]
      have t1 : (cur.toList.take off).length = off := by rw [List.length_take, Array.length_toList]; omega
      rw [t1]
      congr 1
      · rw [Nat.min_eq_right (by omega), Nat.min_eq_left (by omega)]
      · congr 1
        · rw [List.take_of_length_le (by rw [List.length_map]; omega)]
        · rw [List.length_map, List.drop_take]
          congr 1
          omega
theorem Mp.copy (h : Mp w base g cp k id cap A) {i : Nat} (hi : i < A.length) {cells : Array Value} {s : List Int} (hs : s.length = (A.getD i []).length) (hr : Rw (w.setRow (id i) cells) base (id i) (cap i) s) : Mp (w.setRow (id i) cells) base g cp k id cap (A.set i s) := by
  obtain ⟨fc, ho⟩ := h.outer
  have hgi := h.ne (h.rows i hi)
  have hsl : ∀ j, (if j < (A.set i s).length then sl id cap (A.set i s) j else fc j) = if j < A.length then sl id cap A j else fc j := by
    intro j
    rw [List.length_set]
    by_cases e : j < A.length
    · rw [if_pos e, if_pos e]
      unfold sl
      rw [getD_set _ _ _ _ hi]
      by_cases e2 : j = i
      · subst e2; rw [if_pos rfl, hs]
      · rw [if_neg e2]
    · rw [if_neg e, if_neg e]
  refine ⟨⟨fc, ?_⟩, fun j hj => ?_, fun j l hj hl => h.inj j l (by simpa using hj) (by simpa using hl), by rw [List.length_set]; exact h.le⟩
  · rw [show encs (fun j => if j < (A.set i s).length then sl id cap (A.set i s) j else fc j) (List.range k) = encs (fun j => if j < A.length then sl id cap A j else fc j) (List.range k) from List.map_congr_left fun j _ => hsl j]
    exact own_move ho (fun q hq => setRow_other w (id i) q cells (by
      have : q = g := by simpa [Value.ownBlock] using hq.symm
      rw [this]
      exact Ne.symm hgi))
  · rw [List.length_set] at hj
    rw [getD_set _ _ _ _ hi]
    by_cases e : j = i
    · subst e; rw [if_pos rfl]; exact hr
    · rw [if_neg e]
      exact own_move (h.rows j hj) (fun q hq => setRow_other w (id i) q cells (by
        have : q = id j := by simpa [Value.ownBlock] using hq.symm
        rw [this]
        exact fun e2 => e (h.inj j i hj hi e2)))
theorem Mp.full (h : Mp w base g cp k id cap A) (hk : A.length = k) : Mt w base g cp id cap A := by
  obtain ⟨fc, ho⟩ := h.outer
  subst hk
  refine ⟨?_, h.rows, h.inj⟩
  rw [show encs (sl id cap A) (List.range A.length) = encs (fun j => if j < A.length then sl id cap A j else fc j) (List.range A.length) from List.map_congr_left fun j hj => (if_pos (List.mem_range.1 hj)).symm]
  exact ho
end
end Go.Proofs.Ytbogmlckbkogiaa.H
namespace Go.Proofs.Ytbogmlckbkogiaa.Red
open Go.RowKit Go.Proofs.YtbogmlckbkogiaaW.PrintWords Go.Proofs.Ytbogmlckbkogiaa.Leaf Go.Proofs.Ytbogmlckbkogiaa.Gf Go.Proofs.Ytbogmlckbkogiaa.H
/-- Row i of what is dealt out, the first s units laid. -/
def spR (k n : Nat) (L : List B) (i s : Nat) : List B := (List.range n).map fun x => if x < s * 16 then at0 L ((x / 16 * k + i) * 16 + x % 16) else 0#8
def spM (k n : Nat) (L : List B) : Mat := (List.range k).map fun i => spR k n L i (n / 16)
theorem spR_length (k n : Nat) (L : List B) (i s : Nat) : (spR k n L i s).length = n := by simp [spR]
theorem spM_reg (k n : Nat) (L : List B) : Reg (spM k n L) k n := ⟨by simp [spM], fun i hi => by unfold spM; rw [row_map _ _ _ hi, spR_length]⟩
theorem at0_splice (L : List B) (off : Nat) (cs : List B) (x : Nat) (h : off + cs.length ≤ L.length) : at0 (splice L off cs) x = if off ≤ x ∧ x < off + cs.length then at0 cs (x - off) else at0 L x := by
  unfold splice at0
  simp only [List.getD_eq_getElem?_getD]
  have t1 : (L.take off).length = off := by rw [List.length_take]; omega
  by_cases h1 : x < off
  · rw [List.getElem?_append_left (by omega), List.getElem?_take, if_pos h1, if_neg (by omega)]
  · rw [List.getElem?_append_right (by omega), t1]
    by_cases h2 : x < off + cs.length
    · rw [List.getElem?_append_left (by omega), if_pos ⟨by omega, h2⟩]
    · rw [List.getElem?_append_right (by omega), List.getElem?_drop, if_neg (by omega), show off + cs.length + (x - off - cs.length) = x by omega]
theorem at0_out (L : List B) (x : Nat) (h : L.length ≤ x) : at0 L x = 0#8 := by
  unfold at0
  rw [List.getD_eq_getElem?_getD, List.getElem?_eq_none h]
  rfl
theorem spR_next (k n : Nat) (L : List B) (i s : Nat) (hs : (s + 1) * 16 ≤ n) (hat : (s * k + i) * 16 < L.length) : splice (spR k n L i s) (s * 16) ((L.drop ((s * k + i) * 16)).take 16) = spR k n L i (s + 1) := by
  have hl : ((L.drop ((s * k + i) * 16)).take 16).length ≤ 16 := List.length_take_le _ _
  have hfit : s * 16 + ((L.drop ((s * k + i) * 16)).take 16).length ≤ (spR k n L i s).length := by rw [spR_length]; omega
  refine ext0 (by rw [length_splice _ _ _ hfit, spR_length, spR_length]) fun x hx => ?_
  rw [length_splice _ _ _ hfit, spR_length] at hx
  rw [at0_splice _ _ _ _ hfit]
  have e : ∀ s', at0 (spR k n L i s') x = if x < s' * 16 then at0 L ((x / 16 * k + i) * 16 + x % 16) else 0#8 := fun s' => at0_map _ _ _ hx
  rw [e, e]
  by_cases h1 : x < s * 16
  · rw [if_neg (by omega), if_pos h1, if_pos (by omega)]
  · by_cases h2 : x < (s + 1) * 16
    · rw [if_pos h2]
      have hxs : x / 16 = s := by omega
      rw [hxs]
      have hx16 : (s * k + i) * 16 + x % 16 = (s * k + i) * 16 + (x - s * 16) := by omega
      rw [hx16]
      by_cases h3 : x < s * 16 + ((L.drop ((s * k + i) * 16)).take 16).length
      · rw [if_pos ⟨by omega, h3⟩]
        unfold at0
        simp only [List.getD_eq_getElem?_getD, List.getElem?_take, List.getElem?_drop]
        rw [if_pos (by omega)]
      · rw [if_neg (by omega), if_neg h1, at0_out]
        rw [List.length_take, List.length_drop] at h3
        omega
    · rw [if_neg (by omega), if_neg h1, if_neg h2]
theorem spR_skip (k n : Nat) (L : List B) (i s : Nat) (hat : L.length ≤ (s * k + i) * 16) : spR k n L i (s + 1) = spR k n L i s := by
  unfold spR
  refine List.map_congr_left fun x hx => ?_
  by_cases h1 : x < s * 16
  · rw [if_pos (by omega), if_pos h1]
  · rw [if_neg h1]
    by_cases h2 : x < (s + 1) * 16
    · rw [if_pos h2, show x / 16 = s by omega, at0_out _ _ (by omega)]
    · rw [if_neg h2]
theorem spR_zero (k n : Nat) (L : List B) (i : Nat) : spR k n L i 0 = List.replicate n 0#8 := by
  refine List.ext_getElem (by simp [spR]) fun x h1 h2 => ?_
  simp [spR]
end Go.Proofs.Ytbogmlckbkogiaa.Red
namespace Go.Proofs.Ytbogmlckbkogiaa.P
open Go.Proofs.Ytbogmlckbkogiaa.Leaf
open Go.RowKit Go.Proofs.YtbogmlckbkogiaaW.PrintWords Go.Proofs.YtbogmlckbkogiaaW.PrintLast Go.Proofs.YtbogmlckbkogiaaW.PrintMore
attribute [local go_sem] max2_int min2_int max_two min_two max_three min_three max_four min_four   -- for this text's walks alone
set_option linter.unusedVariables false
set_option linter.unusedSimpArgs false
def matrix_zeros.l0 : Nat → Int → List (List Int) → Int → Int → Option ((List (List Int)))
  | 0, _, _, _, _ => none
  | k + 1, x1, x5, x10, x11 => if x11 < x10 then (if 0 ≤ x1 then (if (x1 : Int).toNat ≤ 281474976710656 then (if 0 ≤ x11 then (if x11 < (x5.length : Int) then (matrix_zeros.l0 k x1 (x5.set (x11 : Int).toNat (List.replicate (x1 : Int).toNat 0)) x10 (wrap64 (x11 + 1))) else (none)) else (none)) else (none)) else (none)) else (some x5)
def matrix_zeros.f (k : Nat) (a0 : Int) (a1 : Int) : Option ((List (List Int))) := if 0 ≤ a0 then (if (a0 : Int).toNat ≤ 11728124029610 then ((some (List.replicate (a0 : Int).toNat [] : List (List Int))).bind fun y101 => (matrix_zeros.l0 k a1 y101 (y101.length : Int) 0)) else (none)) else (none)
theorem matrix_zeros.mono_l : ∀ k, (∀ y0 y1 y2 y3, LeO (matrix_zeros.l0 k y0 y1 y2 y3) (matrix_zeros.l0 (k + 1) y0 y1 y2 y3))
  | 0 => fun _ _ _ _ r h => by simp [matrix_zeros.l0] at h
  | k + 1 => by
    have ih0 := matrix_zeros.mono_l k
    · intro y0 y1 y2 y3
      unfold matrix_zeros.l0
      repeat' first
      | (with_reducible exact ih0 _ _ _ _)
      | (with_reducible exact LeO.refl _)
      | (with_reducible exact LeO.none _)
      | (with_reducible refine LeO.ite ?_ ?_)
      | (with_reducible refine LeO.bind ?_ (fun _ => ?_))
      | exact ih0 _ _ _ _
      | exact LeO.none _
      | refine LeO.ite ?_ ?_
      | refine LeO.bind ?_ (fun _ => ?_)
theorem matrix_zeros.mono : ∀ a0 a1 k, LeO (matrix_zeros.f k a0 a1) (matrix_zeros.f (k + 1) a0 a1) := by
  intro a0 a1 k
  have ih0 := matrix_zeros.mono_l k
  unfold matrix_zeros.f
  repeat' first
      | (with_reducible exact ih0 _ _ _ _)
      | (with_reducible exact LeO.refl _)
      | (with_reducible exact LeO.none _)
      | (with_reducible refine LeO.ite ?_ ?_)
      | (with_reducible refine LeO.bind ?_ (fun _ => ?_))
      | exact ih0 _ _ _ _
      | exact LeO.none _
      | refine LeO.ite ?_ ?_
      | refine LeO.bind ?_ (fun _ => ?_)
set_option maxHeartbeats 8000000 in
set_option maxRecDepth 100000 in
theorem matrix_zeros.calls (k : Nat) (a0 : Int) (a1 : Int) (r : List (List Int)) (w : World) (h : matrix_zeros.f k a0 a1 = some r) :
    Calls Try.prog 94 #[.int .i64 a0, .int .i64 a1] w fun e w' => ∃ v0_ : Value, e = .returned (v0_) ∧ Kd.S (Kd.slice 5 (Kd.int .u8)) 22 w' w.heap.size (fun _ => True) v0_ r ∧ Below w.heap.size w w' := by
  have HB := Aside0.mk (Below.refl w.heap.size w)
  have H : (if 0 ≤ a0 then (if (a0 : Int).toNat ≤ 11728124029610 then ((some (List.replicate (a0 : Int).toNat [] : List (List Int))).bind fun y101 => (matrix_zeros.l0 k a1 y101 (y101.length : Int) 0)) else (none)) else (none)) = some r := h
  clear h
  by_cases c3 : 0 ≤ a0
  · rw [if_pos c3] at H
    have c3b0 := eq_true c3
    have c3b1 : decide (0 ≤ a0) = true := decide_eq_true c3
    clear c3
    by_cases c4 : (a0 : Int).toNat ≤ 11728124029610
    · rw [if_pos c4] at H
      have c4b0 := eq_true c4
      have c4b1 : decide ((a0 : Int).toNat ≤ 11728124029610) = true := decide_eq_true c4
      clear c4
      obtain ⟨y101, hy101⟩ : ∃ y_ : List (List Int), y_ = (List.replicate (a0 : Int).toNat []) := ⟨_, rfl⟩
      replace H : (matrix_zeros.l0 k a1 y101 (y101.length : Int) 0) = some r := by first | (rw [hy101]; with_reducible exact H) | (have H2_ := (Option.bind_some _ _).symm.trans H; rw [hy101]; with_reducible exact H2_) | (have H2_ := (Option.bind_some _ _).symm.trans H; with_reducible exact H2_) | with_reducible exact H | (rw [hy101]; exact H) | exact H
      have Ny101 := Aside0.mk hy101
      clear hy101
      have H' := Aside0.mk H
      clear H
      go_enter Try.func94, Try.ntmps94
      go_wp2_with (first | ((with_reducible refine gate_dst (N := 8) rfl ?_); refine Kd.S_make (Kd.slice 5 (Kd.int .u8)) _ 22 rfl (N := 8) rfl 51 _ _ rfl a0 rfl rfl Try.underlying51 (.slice none 0 0) 24 info22 rfl (by decide) (by omega) [] (ok := fun _ => True) (okp := fun _ => True) ⟨_, rfl, Kd.R_nil _ _ _ _ _⟩ (fun _ hk => hk) trivial (of_decide_eq_true (by first | (with_reducible assumption) | assumption)) (Nat.le_trans (Nat.mul_le_mul_right _ (of_decide_eq_true (by first | (with_reducible assumption) | assumption) : a0.toNat ≤ 11728124029610)) (by omega)) (Below.refl _ _) (Nat.le_refl _) ?_; intro v102 w5 ho6 hb hg_ hnew_; clear hg_ hnew_; (first | rw [← Ny101.out] at ho6 | (simp only [Int.reduceToNat] at ho6; rw [← Ny101.out] at ho6)); have n0_ := Aside0.mk (Kd.S_lower ho6 (below_size (by repeat (first | (with_reducible first | exact HB.out | apply below_alloc | apply pw_below_drewN | apply below_drew1) | exact HB.out)))); have n1_ := Aside0.mk (below_step (by repeat (first | (with_reducible first | exact HB.out | apply below_alloc | apply pw_below_drewN | apply below_drew1) | exact HB.out)) hb); clear HB; have HO103 := n0_; have HB := n1_; clear n0_ n1_; clear hb ho6; obtain ⟨Ao7, co7, eo7⟩ := Kd.S_slice HO103.out; subst eo7))
      go_loopg [11] k (fun kq v11 w' => ∃ (x5_1 : List (List Int)) (x11_1 : Int), v11 = .int .i64 x11_1 ∧ Aside0 (matrix_zeros.l0 kq a1 x5_1 (y101.length : Int) x11_1 = some r) ∧ Aside0 (kq ≤ k) ∧ Aside0 (Kd.S (Kd.slice 5 (Kd.int .u8)) 22 w' w.heap.size (fun _ => True) (.slice Ao7 y101.length co7) x5_1) ∧ Aside0 (Below w.heap.size w w'))
      case atStart => exact ⟨(y101), (0), (by first | rfl | (simp; done) | (simp [*]; done)), H', ⟨Nat.le_refl _⟩, ⟨by (with_reducible repeat (first | apply Kd.S_alloc | apply Kd.S_drewN | apply Kd.S_drew)); exact HO103.out⟩, ⟨by repeat (first | (with_reducible first | exact HB.out | apply below_alloc | apply pw_below_drewN | apply below_drew1) | exact HB.out)⟩⟩
      case round =>
        clear H'
        try clear p2
        try clear c3
        try clear c3b0
        try clear c3b1
        try clear c4
        try clear c4b0
        try clear c4b1
        obtain ⟨x5_1, x11_1, rfl, HA, HK1, HO_5, HB⟩ := hrel
        have hl5_1 := (Kd.S_reads' HO_5.out).1
        rw [hl5_1] at HO_5
        (try simp only [hl5_1])
        cases gk with
        | zero => exact absurd HA.out (by simp [matrix_zeros.l0])
        | succ k1 =>
          have H := HA.out
          clear HA
          simp only [matrix_zeros.l0] at H
          by_cases c8 : x11_1 < (y101.length : Int)
          · rw [if_pos c8] at H
            have c8b0 : decide (x11_1 < (y101.length : Int)) = true := decide_eq_true c8
            (try simp only [hl5_1] at c8b0)
            clear c8
            by_cases c9 : 0 ≤ a1
            · rw [if_pos c9] at H
              have c9b0 := eq_true c9
              (try simp only [hl5_1] at c9b0)
              have c9b1 : decide (0 ≤ a1) = true := decide_eq_true c9
              (try simp only [hl5_1] at c9b1)
              clear c9
              by_cases c10 : (a1 : Int).toNat ≤ 281474976710656
              · rw [if_pos c10] at H
                have c10b0 := eq_true c10
                (try simp only [hl5_1] at c10b0)
                have c10b1 : decide ((a1 : Int).toNat ≤ 281474976710656) = true := decide_eq_true c10
                (try simp only [hl5_1] at c10b1)
                clear c10
                obtain ⟨y104, hy104⟩ : ∃ y_ : List Int, y_ = (List.replicate (a1 : Int).toNat 0) := ⟨_, rfl⟩
                replace H : (if 0 ≤ x11_1 then (if x11_1 < (x5_1.length : Int) then (matrix_zeros.l0 k1 a1 (x5_1.set (x11_1 : Int).toNat y104) (y101.length : Int) (wrap64 (x11_1 + 1))) else (none)) else (none)) = some r := by first | (rw [hy104]; with_reducible exact H) | (have H2_ := (Option.bind_some _ _).symm.trans H; rw [hy104]; with_reducible exact H2_) | (have H2_ := (Option.bind_some _ _).symm.trans H; with_reducible exact H2_) | with_reducible exact H | (rw [hy104]; exact H) | exact H
                have Ny104 := Aside0.mk hy104
                clear hy104
                by_cases c11 : 0 ≤ x11_1
                · rw [if_pos c11] at H
                  have c11b0 : decide (0 ≤ x11_1) = true := decide_eq_true c11
                  (try simp only [hl5_1] at c11b0)
                  clear c11
                  by_cases c12 : x11_1 < (x5_1.length : Int)
                  · rw [if_pos c12] at H
                    have c12b0 : decide (x11_1 < (x5_1.length : Int)) = true := decide_eq_true c12
                    (try simp only [hl5_1] at c12b0)
                    clear c12
                    obtain ⟨y107, hy107⟩ : ∃ y_ : List (List Int), y_ = (x5_1.set (x11_1 : Int).toNat y104) := ⟨_, rfl⟩
                    replace H : (matrix_zeros.l0 k1 a1 y107 (y101.length : Int) (wrap64 (x11_1 + 1))) = some r := by first | (rw [hy107]; with_reducible exact H) | (have H2_ := (Option.bind_some _ _).symm.trans H; rw [hy107]; with_reducible exact H2_) | (have H2_ := (Option.bind_some _ _).symm.trans H; with_reducible exact H2_) | with_reducible exact H | (rw [hy107]; exact H) | exact H
                    have Ny107 := Aside0.mk hy107
                    clear hy107
                    have H' := Aside0.mk H
                    clear H
                    go_wp2_with (first | ((with_reducible refine gate_dst (N := 17) rfl ?_); refine Kd.R_make (Kd.int .u8) _ 5 rfl (N := 17) rfl 22 _ _ rfl a1 rfl rfl Try.underlying22 (.int .u8 0) 1 info5 rfl (by decide) (by omega) 0 (ok := fun _ => True) (okp := fun _ => True) rfl (fun _ hk => hk) trivial (of_decide_eq_true (by first | (with_reducible assumption) | assumption)) (Nat.le_trans (Nat.mul_le_mul_right _ (of_decide_eq_true (by first | (with_reducible assumption) | assumption) : a1.toNat ≤ 281474976710656)) (by omega)) (Below.refl _ _) (Nat.le_refl _) ?_; intro v105 w14 ho15 hb hg_ hnew_; clear hg_ hnew_; (first | rw [← Ny104.out] at ho15 | (simp only [Int.reduceToNat] at ho15; rw [← Ny104.out] at ho15)); have n0_ := Aside0.mk (Kd.S_elder' (by (with_reducible repeat (first | apply Kd.S_alloc | apply Kd.S_drewN | apply Kd.S_drew)); exact HO_5.out) (Kd.R_base ho15) hb); have n1_ := Aside0.mk (Kd.R_lower ho15 (below_size (by repeat (first | (with_reducible first | exact HB.out | apply below_alloc | apply pw_below_drewN | apply below_drew1) | exact HB.out)))); have n2_ := Aside0.mk (below_step (by repeat (first | (with_reducible first | exact HB.out | apply below_alloc | apply pw_below_drewN | apply below_drew1) | exact HB.out)) hb); clear HO_5; clear HB; have HO_5 := n0_; have HO106 := n1_; have HB := n2_; clear n0_ n1_ n2_; clear hb ho15; have p13 : 0 ≤ (x11_1 : Int) := of_decide_eq_true (by first | (with_reducible assumption) | assumption); have q13 : (x11_1 : Int) < ((x5_1.length : Int) : Int) := of_decide_eq_true (by first | (with_reducible assumption) | assumption); obtain ⟨go13, co13, eo13, gb13, gl13, cl13, HG13⟩ := Kd.S_form HO_5.out (by omega); (first | cases eo13 | (injection eo13 with ea_ en_ ec_; (first | subst ea_ | (injection ea_ with ea_; subst ea_)); subst ec_; clear en_)); have GB13 := Aside0.mk gb13; have GG13 := Aside0.mk HG13; clear gb13 gl13 HG13; obtain ⟨_, ce13, hcl13, hM13, hcc13, hfr13, _, _⟩ := Kd.S_elem HO_5.out [] (x11_1 : Int) p13 q13; obtain ⟨ve13_0, rfl, ge13_0⟩ := hM13; have hx13_0 := hcc13 0 _ rfl; have hf13_0 := hfr13 0; (try simp only [show ((Kd.slice 5 (Kd.int .u8))).sz = 1 from rfl, Nat.mul_one, Nat.add_zero] at hx13_0); (try simp only [show ((Kd.slice 5 (Kd.int .u8))).sz = 1 from rfl, Nat.mul_one, Nat.add_zero] at hf13_0); (try clear hcl13); (try clear hcc13); (try clear hfr13); (try clear hM13); replace p13 := eq_true p13; replace q13 := eq_true q13; have n_ := Aside0.mk (Kd.S_mono (ok' := (fun k_ => some k_ ≠ (v105 : Value).ownBlock)) HO_5.out (fun k_ hk => hk.2)); clear HO_5; have HO_5 := n_; clear n_; have HX16 := Aside0.mk (show Kd.S (Kd.slice 5 (Kd.int .u8)) 22 w14 w.heap.size (fun k_ => ((fun _ => True)) k_ ∧ ¬ ((fun k_ => some k_ = (v105 : Value).ownBlock)) k_) (.slice (some ⟨go13, 0, none⟩) x5_1.length co7) x5_1 from (by (with_reducible repeat (first | apply Kd.S_alloc | apply Kd.S_drewN | apply Kd.S_drew)); exact Kd.S_mono HO_5.out (fun k_ hk => ⟨trivial, fun e_ => hk e_⟩))); obtain ⟨oki16, ce16, hcl16, hM16, hcc16, hfr16, hoki16, hH16⟩ := Kd.S_elem HX16.out [] (x11_1 : Int) (of_decide_eq_true (by first | (with_reducible assumption) | assumption)) (by have h_ : (x11_1 : Int) < ((x5_1.length : Int) : Int) := of_decide_eq_true (by first | (with_reducible assumption) | assumption); first | exact h_ | (have e_ := (Kd.S_reads' HO_5.out).1; omega) | simpa using h_); obtain ⟨ve16_0, rfl, ge16_0⟩ := hM16; obtain ⟨Av16_, cv16_, ev16_⟩ := Kd.R_slice HO106.out; subst ev16_; have HP16 := Kd.S_seg hH16 (of_decide_eq_true (by first | (with_reducible assumption) | assumption)) (by have h_ : (x11_1 : Int) < ((x5_1.length : Int) : Int) := of_decide_eq_true (by first | (with_reducible assumption) | assumption); first | exact h_ | (have e_ := (Kd.S_reads' HO_5.out).1; omega) | simpa using h_) (seg := [(.slice Av16_ y104.length cv16_)]) (j := 0) (show 1 ≤ 1 from by decide) (x' := y104) (Kd.M_row (Kd.R_mono (Kd.R_tight rfl (Kd.R_mono (ok' := fun k_ => ((fun _ => True)) k_ ∧ k_ ≠ go13) (Kd.R_apart' (HO106.out) (Kd.S_typed HO_5.out) (by decide)) (fun k_ hk => ⟨trivial, fun e_ => (hk.2) (by rw [e_]; rfl)⟩))) (fun _ h_ => Or.inr (h_)))) (fun _ hk => hk) (fun k_ hk_ => ((Kd.R_mono (ok' := fun k_ => ((fun _ => True)) k_ ∧ k_ ≠ go13) (Kd.R_apart' (HO106.out) (Kd.S_typed HO_5.out) (by decide)) (fun k_ hk => ⟨trivial, fun e_ => (hk.2) (by rw [e_]; rfl)⟩))).1 k_ hk_.symm); have hx16_0 := hcc16 0 _ rfl; (try simp only [show ((Kd.slice 5 (Kd.int .u8))).sz = 1 from rfl, Nat.mul_one, Nat.add_zero] at hx16_0); have hf16_0 := hfr16 0; (try simp only [show ((Kd.slice 5 (Kd.int .u8))).sz = 1 from rfl, Nat.mul_one, Nat.add_zero] at hf16_0); (try clear hcl16); (try clear hcc16); (try clear hfr16); (try clear hM16); (try clear hoki16); (try clear hH16); (try simp only [show ((Kd.slice 5 (Kd.int .u8))).sz = 1 from rfl, Nat.mul_one, Nat.add_zero] at HP16)) | ((with_reducible refine gate_store (t := 22) (p := 18) rfl ?_); refine store_event (t := 22) (p := 18) (v := ?vo_w17) (w1 := (w14.setCell ⟨go13, (x11_1 : Int).toNat, none⟩ ((.slice Av16_ y104.length cv16_)))) ?hg ?ho ?hn ?hr ?_; (case ho => rfl); (case hg => rfl); (case hn => rfl); (case hr => first | (go_simp; done) | (go_simp; rfl)); intro w17 hw; have hg : w14.grownBy w17 (some go13) := (by rw [hw]; exact HP16.2); have hp_ : Kd.S (Kd.slice 5 (Kd.int .u8)) 22 w17 w.heap.size (fun _ => True) (.slice (some ⟨go13, 0, none⟩) x5_1.length co7) y107 := (by rw [hw, Ny107.out]; exact HP16.1); clear HP16; have n0_ := Aside0.mk (hp_); have n1_ := Aside0.mk ((by rw [hw]; exact below_set (HB.out) GB13.out : Below w.heap.size w w17)); clear HO_5; clear HB; clear HO106; have HO_5 := n0_; have HB := n1_; clear n0_ n1_; clear hg hw hp_))
                    (try simp only [← hl5_1])
                    go_roundg k1
                    case measure => have := HK1.out; omega
                    case rel => exact ⟨(y107), (wrap64 (x11_1 + 1)), (by first | rfl | (simp; done) | (simp [*]; done)), H', ⟨by have := HK1.out; omega⟩, ⟨by (try simp only [hl5_1]); (with_reducible repeat (first | apply Kd.S_alloc | apply Kd.S_drewN | apply Kd.S_drew)); exact HO_5.out⟩, ⟨by repeat (first | (with_reducible first | exact HB.out | apply below_alloc | apply pw_below_drewN | apply below_drew1) | exact HB.out)⟩⟩
                  · rw [if_neg c12] at H
                    exact absurd H (by simp)
                · rw [if_neg c11] at H
                  exact absurd H (by simp)
              · rw [if_neg c10] at H
                exact absurd H (by simp)
            · rw [if_neg c9] at H
              exact absurd H (by simp)
          · rw [if_neg c8] at H
            have c8b0 : decide (x11_1 < (y101.length : Int)) = false := decide_eq_false c8
            (try simp only [hl5_1] at c8b0)
            clear c8
            obtain rfl := Option.some.inj H
            go_wp2
            go_ret
            exact ⟨_, by first | rfl | (simp [errW_none, errW_some] <;> rfl) | (simp [*, errW_none, errW_some] <;> rfl), by (with_reducible repeat (first | apply Kd.S_alloc | apply Kd.S_drewN | apply Kd.S_drew)); exact HO_5.out, by repeat (first | (with_reducible first | exact HB.out | apply below_alloc | apply pw_below_drewN | apply below_drew1) | exact HB.out)⟩
    · rw [if_neg c4] at H
      exact absurd H (by simp)
  · rw [if_neg c3] at H
    exact absurd H (by simp)
end Go.Proofs.Ytbogmlckbkogiaa.P
namespace Go.Proofs.Ytbogmlckbkogiaa.P
open Go.Proofs.Ytbogmlckbkogiaa.Leaf
open Go.RowKit Go.Proofs.YtbogmlckbkogiaaW.PrintWords Go.Proofs.YtbogmlckbkogiaaW.PrintLast Go.Proofs.YtbogmlckbkogiaaW.PrintMore
attribute [local go_sem] max2_int min2_int max_two min_two max_three min_three max_four min_four   -- for this text's walks alone
set_option linter.unusedVariables false
set_option linter.unusedSimpArgs false
mutual
def matrix_Identity.j0 : Nat → Int → Bool → Option ((List (List Int)) × Int)
  | 0, _, _ => none
  | k + 1, x0, x11 => if x11 = true then (some (([] : List (List Int)), 1)) else ((matrix_zeros.f k x0 x0).bind fun t101 => (matrix_Identity.l0 k t101 (t101.length : Int) 0))
def matrix_Identity.l0 : Nat → List (List Int) → Int → Int → Option ((List (List Int)) × Int)
  | 0, _, _, _ => none
  | k + 1, x4, x16, x17 => if x17 < x16 then (if 0 ≤ x17 then (if x17 < (x4.length : Int) then (if x17 < ((rd_L1 x4 x17).length : Int) then (matrix_Identity.l0 k (x4.set (x17 : Int).toNat ((rd_L1 x4 x17).set (x17 : Int).toNat 1)) x16 (wrap64 (x17 + 1))) else (none)) else (none)) else (none)) else (some (x4, 0))
end
def matrix_Identity.f (k : Nat) (a0 : Int) : Option ((List (List Int)) × Int) := if a0 < 1 then (matrix_Identity.j0 k a0 true) else (matrix_Identity.j0 k a0 (decide (a0 > 255)))
theorem matrix_Identity.mono_l : ∀ k, (∀ y0 y1, LeO (matrix_Identity.j0 k y0 y1) (matrix_Identity.j0 (k + 1) y0 y1)) ∧ (∀ y0 y1 y2, LeO (matrix_Identity.l0 k y0 y1 y2) (matrix_Identity.l0 (k + 1) y0 y1 y2))
  | 0 => ⟨fun _ _ r h => by simp [matrix_Identity.j0] at h, fun _ _ _ r h => by simp [matrix_Identity.l0] at h⟩
  | k + 1 => by
    obtain ⟨ih0, ih1⟩ := matrix_Identity.mono_l k
    refine ⟨?_, ?_⟩
    · intro y0 y1
      unfold matrix_Identity.j0
      repeat' first
      | (with_reducible exact ih0 _ _)
      | (with_reducible exact ih1 _ _ _)
      | (with_reducible exact matrix_zeros.mono _ _ _)
      | (with_reducible exact LeO.refl _)
      | (with_reducible exact LeO.none _)
      | (with_reducible refine LeO.ite ?_ ?_)
      | (with_reducible refine LeO.bind ?_ (fun _ => ?_))
      | exact ih0 _ _
      | exact ih1 _ _ _
      | exact matrix_zeros.mono _ _ _
      | exact LeO.none _
      | refine LeO.ite ?_ ?_
      | refine LeO.bind ?_ (fun _ => ?_)
    · intro y0 y1 y2
      unfold matrix_Identity.l0
      repeat' first
      | (with_reducible exact ih0 _ _)
      | (with_reducible exact ih1 _ _ _)
      | (with_reducible exact matrix_zeros.mono _ _ _)
      | (with_reducible exact LeO.refl _)
      | (with_reducible exact LeO.none _)
      | (with_reducible refine LeO.ite ?_ ?_)
      | (with_reducible refine LeO.bind ?_ (fun _ => ?_))
      | exact ih0 _ _
      | exact ih1 _ _ _
      | exact matrix_zeros.mono _ _ _
      | exact LeO.none _
      | refine LeO.ite ?_ ?_
      | refine LeO.bind ?_ (fun _ => ?_)
theorem matrix_Identity.mono : ∀ a0 k, LeO (matrix_Identity.f k a0) (matrix_Identity.f (k + 1) a0) := by
  intro a0 k
  obtain ⟨ih0, ih1⟩ := matrix_Identity.mono_l k
  unfold matrix_Identity.f
  repeat' first
      | (with_reducible exact ih0 _ _)
      | (with_reducible exact ih1 _ _ _)
      | (with_reducible exact matrix_zeros.mono _ _ _)
      | (with_reducible exact LeO.refl _)
      | (with_reducible exact LeO.none _)
      | (with_reducible refine LeO.ite ?_ ?_)
      | (with_reducible refine LeO.bind ?_ (fun _ => ?_))
      | exact ih0 _ _
      | exact ih1 _ _ _
      | exact matrix_zeros.mono _ _ _
      | exact LeO.none _
      | refine LeO.ite ?_ ?_
      | refine LeO.bind ?_ (fun _ => ?_)
set_option maxHeartbeats 8000000 in
set_option maxRecDepth 100000 in
theorem matrix_Identity.calls (k : Nat) (a0 : Int) (r1 : List (List Int)) (r2 : Int) (w : World) (h : matrix_Identity.f k a0 = some (r1, r2)) :
    Calls Try.prog 68 #[.int .i64 a0] w fun e w' => ∃ v0_ : Value, e = .returned (.tuple #[v0_, .int .i64 r2]) ∧ Kd.S (Kd.slice 5 (Kd.int .u8)) 22 w' w.heap.size (fun _ => True) v0_ r1 ∧ Below w.heap.size w w' := by
  have HB := Aside0.mk (Below.refl w.heap.size w)
  have H : (if a0 < 1 then (matrix_Identity.j0 k a0 true) else (matrix_Identity.j0 k a0 (decide (a0 > 255)))) = some (r1, r2) := h
  clear h
  have HC2 := Aside0.mk H
  clear H
  go_enter Try.func68, Try.ntmps68
  go_upto_region 1 with (fail)
  go_cut [11] (fun v11 wc => ∃ (kq : Nat) (x11_1 : Bool), v11 = .bool x11_1 ∧ Aside0 (matrix_Identity.j0 kq a0 x11_1 = some (r1, r2)) ∧ Aside0 (kq ≤ k) ∧ Aside0 (Below w.heap.size w wc))
  case first =>
    have H := HC2.out
    clear HC2
    by_cases c3 : a0 < 1
    · rw [if_pos c3] at H
      have c3b0 : decide (a0 < 1) = true := decide_eq_true c3
      clear c3
      (first | rw [c3b0] | (simp only [i64_w, i32_w]; rw [c3b0]) | skip)
      have H' := Aside0.mk H
      clear H
      go_wp2
      go_meet
      case rel => exact ⟨_, (true), (by first | rfl | (simp; done) | (simp [*]; done)), H', ⟨by first | omega | exact Nat.le_refl _⟩, ⟨by repeat (first | (with_reducible first | exact HB.out | apply below_alloc | apply pw_below_drewN | apply below_drew1) | exact HB.out)⟩⟩
    · rw [if_neg c3] at H
      have c3b0 : decide (a0 < 1) = false := decide_eq_false c3
      clear c3
      (first | rw [c3b0] | (simp only [i64_w, i32_w]; rw [c3b0]) | skip)
      have H' := Aside0.mk H
      clear H
      go_wp2
      go_meet
      case rel => exact ⟨_, (decide (a0 > 255)), (by first | rfl | (simp; done) | (simp [*]; done)), H', ⟨by first | omega | exact Nat.le_refl _⟩, ⟨by repeat (first | (with_reducible first | exact HB.out | apply below_alloc | apply pw_below_drewN | apply below_drew1) | exact HB.out)⟩⟩
  case rest =>
    clear HC2
    try clear p2
    try clear c3
    try clear c3b0
    obtain ⟨kq, x11_1, rfl, HA, HJ1, HB⟩ := hcut
    cases kq with
    | zero => exact absurd HA.out (by simp [matrix_Identity.j0])
    | succ kj1 =>
      have H := HA.out
      clear HA
      simp only [matrix_Identity.j0] at H
      by_cases c4 : x11_1 = true
      · subst c4
        have H1 : (some (([] : List (List Int)), 1)) = some (r1, r2) := by rw [if_pos rfl] at H; exact H
        clear H
        have H := H1
        clear H1
        simp only [Option.some.injEq, Prod.mk.injEq] at H
        obtain ⟨rfl, rfl⟩ := H
        go_wp2
        go_ret2
        exact ⟨_, by first | rfl | (simp [errW_none, errW_some] <;> rfl) | (simp [*, errW_none, errW_some] <;> rfl), by first | exact Kd.S_nil _ _ _ _ _ | exact Kd.N_nil _ _ _ _ _ | exact Kd.V_nil _ _ _ _ _ | exact Kd.Q_nil _ _ _ _ _ | exact Kd.R_nil _ _ _ _ _, by repeat (first | (with_reducible first | exact HB.out | apply below_alloc | apply pw_below_drewN | apply below_drew1) | exact HB.out)⟩
      · replace c4 := Bool.eq_false_iff.mpr c4
        subst c4
        have H1 : ((matrix_zeros.f kj1 a0 a0).bind fun t101 => (matrix_Identity.l0 kj1 t101 (t101.length : Int) 0)) = some (r1, r2) := by rw [if_neg (show ¬ (false = true) by decide)] at H; exact H
        clear H
        have H := H1
        clear H1
        replace H := Option.bind_eq_some_iff.mp H
        obtain ⟨t101, A50, H⟩ := H
        replace H : (matrix_Identity.l0 kj1 t101 (t101.length : Int) 0) = some (r1, r2) := H
        have A5 := Aside0.mk A50
        clear A50
        have H' := Aside0.mk H
        clear H
        go_wp2_with (first | ((with_reducible refine gate_callee (f := 94) rfl ?_); refine goesL_ (some 14) rfl rfl Try.func94 (by kernel_rfl) rfl #[.int .i64 a0, .int .i64 a0] rfl (by (try simp only [List.map_toArray, List.map_cons, List.map_nil]); first | done | rfl | (simp only [List.length_drop, List.length_take]; rfl)) ?_; (with_reducible refine (matrix_zeros.calls kj1 a0 a0 t101 _ A5.out).mono ?_); rintro e w6 ⟨v102, rfl, ho0, hb⟩; refine ⟨_, rfl, ?_⟩; have n0_ := Aside0.mk (Kd.S_lower ho0 (below_size (by repeat (first | (with_reducible first | exact HB.out | apply below_alloc | apply pw_below_drewN | apply below_drew1) | exact HB.out)))); have n1_ := Aside0.mk (below_step (by repeat (first | (with_reducible first | exact HB.out | apply below_alloc | apply pw_below_drewN | apply below_drew1) | exact HB.out)) hb); clear HB; have HO103 := n0_; have HB := n1_; clear n0_ n1_; (try clear hb); (try clear hb2); (try clear hk); (try clear hi); (try clear ho0); obtain ⟨Ao7, co7, eo7⟩ := Kd.S_slice HO103.out; subst eo7))
        go_loopg [17] kj1 (fun kq v17 w' => ∃ (x4_2 : List (List Int)) (x17_2 : Int), v17 = .int .i64 x17_2 ∧ Aside0 (matrix_Identity.l0 kq x4_2 (t101.length : Int) x17_2 = some (r1, r2)) ∧ Aside0 (kq ≤ kj1) ∧ Aside0 (Kd.S (Kd.slice 5 (Kd.int .u8)) 22 w' w.heap.size (fun _ => True) (.slice Ao7 t101.length co7) x4_2) ∧ Aside0 (Below w.heap.size w w'))
        case atStart => exact ⟨(t101), (0), (by first | rfl | (simp; done) | (simp [*]; done)), H', ⟨Nat.le_refl _⟩, ⟨by (with_reducible repeat (first | apply Kd.S_alloc | apply Kd.S_drewN | apply Kd.S_drew)); exact HO103.out⟩, ⟨by repeat (first | (with_reducible first | exact HB.out | apply below_alloc | apply pw_below_drewN | apply below_drew1) | exact HB.out)⟩⟩
        case round =>
          clear H'
          try clear p2
          try clear c3
          try clear c3b0
          try clear c4
          try clear c6
          try clear p2
          obtain ⟨x4_2, x17_2, rfl, HA, HK2, HO_4, HB⟩ := hrel
          have hl4_2 := (Kd.S_reads' HO_4.out).1
          rw [hl4_2] at HO_4
          (try simp only [hl4_2])
          cases gk with
          | zero => exact absurd HA.out (by simp [matrix_Identity.l0])
          | succ k2 =>
            have H := HA.out
            clear HA
            simp only [matrix_Identity.l0] at H
            by_cases c8 : x17_2 < (t101.length : Int)
            · rw [if_pos c8] at H
              have c8b0 : decide (x17_2 < (t101.length : Int)) = true := decide_eq_true c8
              (try simp only [hl4_2] at c8b0)
              clear c8
              by_cases c9 : 0 ≤ x17_2
              · rw [if_pos c9] at H
                have c9b0 : decide (0 ≤ x17_2) = true := decide_eq_true c9
                (try simp only [hl4_2] at c9b0)
                clear c9
                by_cases c10 : x17_2 < (x4_2.length : Int)
                · rw [if_pos c10] at H
                  have c10b0 : decide (x17_2 < (x4_2.length : Int)) = true := decide_eq_true c10
                  (try simp only [hl4_2] at c10b0)
                  clear c10
                  by_cases c11 : x17_2 < ((rd_L1 x4_2 x17_2).length : Int)
                  · rw [if_pos c11] at H
                    have c11b0 : decide (x17_2 < ((rd_L1 x4_2 x17_2).length : Int)) = true := decide_eq_true c11
                    (try simp only [hl4_2] at c11b0)
                    clear c11
                    obtain ⟨y105, hy105⟩ : ∃ y_ : List Int, y_ = ((rd_L1 x4_2 x17_2).set (x17_2 : Int).toNat 1) := ⟨_, rfl⟩
                    replace H : (matrix_Identity.l0 k2 (x4_2.set (x17_2 : Int).toNat y105) (t101.length : Int) (wrap64 (x17_2 + 1))) = some (r1, r2) := by first | (rw [hy105]; with_reducible exact H) | (have H2_ := (Option.bind_some _ _).symm.trans H; rw [hy105]; with_reducible exact H2_) | (have H2_ := (Option.bind_some _ _).symm.trans H; with_reducible exact H2_) | with_reducible exact H | (rw [hy105]; exact H) | exact H
                    have Ny105 := Aside0.mk hy105
                    clear hy105
                    obtain ⟨y107, hy107⟩ : ∃ y_ : List (List Int), y_ = (x4_2.set (x17_2 : Int).toNat y105) := ⟨_, rfl⟩
                    replace H : (matrix_Identity.l0 k2 y107 (t101.length : Int) (wrap64 (x17_2 + 1))) = some (r1, r2) := by first | (rw [hy107]; with_reducible exact H) | (have H2_ := (Option.bind_some _ _).symm.trans H; rw [hy107]; with_reducible exact H2_) | (have H2_ := (Option.bind_some _ _).symm.trans H; with_reducible exact H2_) | with_reducible exact H | (rw [hy107]; exact H) | exact H
                    have Ny107 := Aside0.mk hy107
                    clear hy107
                    have H' := Aside0.mk H
                    clear H
                    have p104 : 0 ≤ (x17_2 : Int) := of_decide_eq_true (by first | (with_reducible assumption) | assumption)
                    have q104 : x17_2 < (x4_2.length : Int) := of_decide_eq_true (by first | (with_reducible assumption) | assumption)
                    obtain ⟨ad104, A104_0, c104_0, e104, hx104_0, hl104_0, hi104_0⟩ := at_L1 (Kd.S_reads' HO_4.out).2.2 x17_2 p104 q104
                    cases e104
                    obtain ⟨ce104, hce104, hMe104, hcc104⟩ := Kd.S_get HO_4.out [] x17_2 p104 (by first | exact q104 | exact of_decide_eq_true (by first | (with_reducible assumption) | assumption) | (have e_ := (Kd.S_reads' HO_4.out).1; omega))
                    obtain ⟨ve104_0, rfl, ge104_0⟩ := hMe104
                    have hv104_0 := hcc104 0 _ rfl
                    rw [Nat.add_zero, show ((Kd.slice 5 (Kd.int .u8))).sz = 1 from rfl, Nat.mul_one] at hv104_0
                    replace hv104_0 := Option.some.inj (hv104_0.symm.trans hx104_0)
                    rw [hv104_0] at ge104_0
                    have HL104_0 := Aside0.mk (show Kd.R (Kd.int .u8) 5 _ _ _ _ (rd_L1 x4_2 x17_2) from ge104_0)
                    clear hv104_0 ge104_0
                    have HX104_0 := Aside0.mk hx104_0
                    clear hcc104 hce104
                    have HR104_0 := Aside0.mk hi104_0
                    have HC104_0 := Aside0.mk hl104_0
                    clear hi104_0 hl104_0
                    replace p104 := eq_true p104
                    replace q104 := eq_true q104
                    have p12 : 0 ≤ (x17_2 : Int) := of_decide_eq_true (by first | (with_reducible assumption) | assumption)
                    have q12 : (x17_2 : Int) < (((rd_L1 x4_2 x17_2).length : Int) : Int) := of_decide_eq_true (by first | (with_reducible assumption) | assumption)
                    obtain ⟨go12, co12, eo12, gb12, gl12, cl12, HG12⟩ := Kd.R_form HL104_0.out (by omega)
                    (first | cases eo12 | (injection eo12 with ea_ en_ ec_; (first | subst ea_ | (injection ea_ with ea_; subst ea_)); subst ec_; clear en_))
                    have GB12 := Aside0.mk gb12
                    have GG12 := Aside0.mk HG12
                    clear gb12 gl12 HG12
                    obtain ⟨hx12_0, hf12_0⟩ := Kd.R_celln 0 HL104_0.out (x17_2 : Int) p12 q12
                    replace p12 := eq_true p12
                    replace q12 := eq_true q12
                    have hq13 : (x17_2 : Int) < (x4_2.length : Int) := (by have h_ : (x17_2 : Int) < ((x4_2.length : Int) : Int) := of_decide_eq_true (by first | (with_reducible assumption) | assumption); first | exact h_ | (have e_ := (Kd.S_reads' HO_4.out).1; omega) | simpa only [List.length_set, List.length_set] using h_)
                    obtain ⟨oki13, ce13, hcl13, hM13, hcc13, hok13, hbk13⟩ := Kd.S_borrow HO_4.out [] (x17_2 : Int) (of_decide_eq_true (by first | (with_reducible assumption) | assumption)) hq13
                    obtain ⟨ve13_0, rfl, ge13_0⟩ := hM13
                    have hv13 := hcc13 0 _ rfl
                    rw [Nat.add_zero, show ((Kd.slice 5 (Kd.int .u8))).sz = 1 from rfl, Nat.mul_one] at hv13
                    replace hv13 := Option.some.inj (hv13.symm.trans HX104_0.out)
                    subst hv13
                    clear hcc13 hcl13
                    replace ge13_0 := (show Kd.R (Kd.int .u8) 5 _ _ _ _ (rd_L1 x4_2 x17_2) from ge13_0)
                    have HP13 := Kd.R_putg ge13_0 (x17_2 : Int) 1
                    go_wp2_with (first | ((with_reducible refine gate_store (t := 5) (p := 25) rfl ?_); refine store_event (t := 5) (p := 25) (v := ?vo_w14) (w1 := (wr.setCell ⟨go12, (x17_2 : Int).toNat, none⟩ (.int .u8 1))) ?hg ?ho ?hn ?hr ?_; (case ho => rfl); (case hg => rfl); (case hn => rfl); (case hr => first | (go_simp; done) | (go_simp; rfl)); intro w14 hw; have hg : wr.grownBy w14 (some go12) := (by rw [hw]; exact HP13.2); have hz_ : Kd.R (Kd.int .u8) 5 w14 w.heap.size oki13 (.slice (some ⟨go12, 0, none⟩) (rd_L1 x4_2 x17_2).length c104_0) y105 := (by rw [hw, Ny105.out]; exact HP13.1); have hp_ : Kd.S (Kd.slice 5 (Kd.int .u8)) 22 w14 w.heap.size (fun _ => True) (.slice (some ad104) x4_2.length co7) y107 := (by rw [Ny107.out]; exact hbk13 hg (fun k_ e_ => by injection e_ with e_; subst e_; exact ge13_0.1 _ rfl) (Kd.M_row hz_)); have hm_ := Kd.R_mono hz_ hok13; clear HP13 hbk13; have n0_ := Aside0.mk (hp_); have n1_ := Aside0.mk ((by rw [hw]; exact below_set (HB.out) GB12.out : Below w.heap.size w w14)); have n2_ := Aside0.mk (hm_); have n3_ := Aside0.mk ((Kd.R_reads' hm_).2.1); clear HO_4; clear HB; clear HL104_0; have HO_4 := n0_; have HB := n1_; have HL108 := n2_; have HC106 := n3_; clear n0_ n1_ n2_ n3_; clear hg hw hp_ hz_ hm_ hok13))
                    (try simp only [← hl4_2])
                    go_roundg k2
                    case measure => have := HJ1.out; have := HK2.out; omega
                    case rel => exact ⟨(y107), (wrap64 (x17_2 + 1)), (by first | rfl | (simp; done) | (simp [*]; done)), H', ⟨by have := HJ1.out; have := HK2.out; omega⟩, ⟨by (try simp only [hl4_2]); (with_reducible repeat (first | apply Kd.S_alloc | apply Kd.S_drewN | apply Kd.S_drew)); exact HO_4.out⟩, ⟨by repeat (first | (with_reducible first | exact HB.out | apply below_alloc | apply pw_below_drewN | apply below_drew1) | exact HB.out)⟩⟩
                  · rw [if_neg c11] at H
                    exact absurd H (by simp)
                · rw [if_neg c10] at H
                  exact absurd H (by simp)
              · rw [if_neg c9] at H
                exact absurd H (by simp)
            · rw [if_neg c8] at H
              have c8b0 : decide (x17_2 < (t101.length : Int)) = false := decide_eq_false c8
              (try simp only [hl4_2] at c8b0)
              clear c8
              simp only [Option.some.injEq, Prod.mk.injEq] at H
              obtain ⟨rfl, rfl⟩ := H
              go_wp2
              go_ret2
              exact ⟨_, by first | rfl | (simp [errW_none, errW_some] <;> rfl) | (simp [*, errW_none, errW_some] <;> rfl), by (with_reducible repeat (first | apply Kd.S_alloc | apply Kd.S_drewN | apply Kd.S_drew)); exact HO_4.out, by repeat (first | (with_reducible first | exact HB.out | apply below_alloc | apply pw_below_drewN | apply below_drew1) | exact HB.out)⟩
end Go.Proofs.Ytbogmlckbkogiaa.P
namespace Go.Proofs.Ytbogmlckbkogiaa.P
open Go.Proofs.Ytbogmlckbkogiaa.Leaf
open Go.RowKit Go.Proofs.YtbogmlckbkogiaaW.PrintWords Go.Proofs.YtbogmlckbkogiaaW.PrintLast Go.Proofs.YtbogmlckbkogiaaW.PrintMore
attribute [local go_sem] max2_int min2_int max_two min_two max_three min_three max_four min_four   -- for this text's walks alone
set_option linter.unusedVariables false
set_option linter.unusedSimpArgs false
def mooringref02_Identity.l0 : Nat → Int → List (List Int) → Int → Option ((List (List Int)))
  | 0, _, _, _ => none
  | k + 1, x0, x3, x4 => if x4 < x0 then (if 0 ≤ x0 then (if (x0 : Int).toNat ≤ 281474976710656 then ((some (List.replicate (x0 : Int).toNat 0 : List Int)).bind fun y104 => (if 0 ≤ x4 then (if x4 < (y104.length : Int) then (if x3.length < 5864062014805 then (mooringref02_Identity.l0 k x0 (x3 ++ [(y104.set (x4 : Int).toNat 1)]) (wrap64 (x4 + 1))) else (none)) else (none)) else (none))) else (none)) else (none)) else (some x3)
def mooringref02_Identity.f (k : Nat) (a0 : Int) : Option ((List (List Int))) := mooringref02_Identity.l0 k a0 (([] : List (List Int))) 0
theorem mooringref02_Identity.mono_l : ∀ k, (∀ y0 y1 y2, LeO (mooringref02_Identity.l0 k y0 y1 y2) (mooringref02_Identity.l0 (k + 1) y0 y1 y2))
  | 0 => fun _ _ _ r h => by simp [mooringref02_Identity.l0] at h
  | k + 1 => by
    have ih0 := mooringref02_Identity.mono_l k
    · intro y0 y1 y2
      unfold mooringref02_Identity.l0
      repeat' first
      | (with_reducible exact ih0 _ _ _)
      | (with_reducible exact LeO.refl _)
      | (with_reducible exact LeO.none _)
      | (with_reducible refine LeO.ite ?_ ?_)
      | (with_reducible refine LeO.bind ?_ (fun _ => ?_))
      | exact ih0 _ _ _
      | exact LeO.none _
      | refine LeO.ite ?_ ?_
      | refine LeO.bind ?_ (fun _ => ?_)
theorem mooringref02_Identity.mono : ∀ a0 k, LeO (mooringref02_Identity.f k a0) (mooringref02_Identity.f (k + 1) a0) := by
  intro a0 k
  have ih0 := mooringref02_Identity.mono_l k
  unfold mooringref02_Identity.f
  repeat' first
      | (with_reducible exact ih0 _ _ _)
      | (with_reducible exact LeO.refl _)
      | (with_reducible exact LeO.none _)
      | (with_reducible refine LeO.ite ?_ ?_)
      | (with_reducible refine LeO.bind ?_ (fun _ => ?_))
      | exact ih0 _ _ _
      | exact LeO.none _
      | refine LeO.ite ?_ ?_
      | refine LeO.bind ?_ (fun _ => ?_)
set_option maxHeartbeats 8000000 in
set_option maxRecDepth 100000 in
theorem mooringref02_Identity.calls (k : Nat) (a0 : Int) (r : List (List Int)) (w : World) (h : mooringref02_Identity.f k a0 = some r) :
    Calls Try.prog 56 #[.int .i64 a0] w fun e w' => ∃ v0_ : Value, e = .returned (v0_) ∧ Kd.S (Kd.slice 5 (Kd.int .u8)) 22 w' w.heap.size (fun _ => True) v0_ r ∧ Below w.heap.size w w' := by
  have HB := Aside0.mk (Below.refl w.heap.size w)
  have H : (mooringref02_Identity.l0 k a0 (([] : List (List Int))) 0) = some r := h
  clear h
  obtain ⟨y101, hy101⟩ : ∃ y_ : List (List Int), y_ = (([] : List (List Int))) := ⟨_, rfl⟩
  replace H : (mooringref02_Identity.l0 k a0 y101 0) = some r := by first | (rw [hy101]; with_reducible exact H) | (have H2_ := (Option.bind_some _ _).symm.trans H; rw [hy101]; with_reducible exact H2_) | (have H2_ := (Option.bind_some _ _).symm.trans H; with_reducible exact H2_) | with_reducible exact H | (rw [hy101]; exact H) | exact H
  have Ny101 := Aside0.mk hy101
  clear hy101
  have H' := Aside0.mk H
  clear H
  go_enter Try.func56, Try.ntmps56
  go_wp2_with (first | ((with_reducible refine gate_dst (N := 6) rfl ?_); refine Kd.S_lit (Kd.slice 5 (Kd.int .u8)) _ 22 ?hg (N := 6) ?hd (xs := ([] : List (List Int))) (inner := []) (ok := fun _ => True) (okp := fun _ => True) ?hr ?hp (fun _ hk => hk) trivial (Below.refl _ _) (Nat.le_refl _) (by simp) ?_; (case hd => rfl); (case hg => rfl); (case hr => first | (go_simp; done) | (go_simp; rfl)); (case hp => exact (Reps.none _ _)); intro v102 w2 ho3 hb hg_ hnew_; clear hg_ hnew_; (first | rw [← Ny101.out] at ho3 | (simp only [Int.reduceToNat] at ho3; rw [← Ny101.out] at ho3)); have n0_ := Aside0.mk (Kd.S_lower ho3 (below_size (by repeat (first | (with_reducible first | exact HB.out | apply below_alloc | apply pw_below_drewN | apply below_drew1) | exact HB.out)))); have n1_ := Aside0.mk (below_step (by repeat (first | (with_reducible first | exact HB.out | apply below_alloc | apply pw_below_drewN | apply below_drew1) | exact HB.out)) hb); clear HB; have HO103 := n0_; have HB := n1_; clear n0_ n1_; clear hb ho3))
  go_loopg [3, 4] k (fun kq v3 v4 w' => ∃ (x3_1 : List (List Int)) (x4_1 : Int), v4 = .int .i64 x4_1 ∧ Aside0 (mooringref02_Identity.l0 kq a0 x3_1 x4_1 = some r) ∧ Aside0 (kq ≤ k) ∧ Aside0 (Kd.S (Kd.slice 5 (Kd.int .u8)) 22 w' w.heap.size (fun _ => True) v3 x3_1) ∧ Aside0 (Below w.heap.size w w'))
  case atStart => exact ⟨(y101), (0), (by first | rfl | (simp; done) | (simp [*]; done)), H', ⟨Nat.le_refl _⟩, ⟨by (with_reducible repeat (first | apply Kd.S_alloc | apply Kd.S_drewN | apply Kd.S_drew)); exact HO103.out⟩, ⟨by repeat (first | (with_reducible first | exact HB.out | apply below_alloc | apply pw_below_drewN | apply below_drew1) | exact HB.out)⟩⟩
  case round =>
    clear H'
    try clear p2
    obtain ⟨x3_1, x4_1, rfl, HA, HK1, HO_3, HB⟩ := hrel
    cases gk with
    | zero => exact absurd HA.out (by simp [mooringref02_Identity.l0])
    | succ k1 =>
      have H := HA.out
      clear HA
      simp only [mooringref02_Identity.l0] at H
      by_cases c4 : x4_1 < a0
      · rw [if_pos c4] at H
        have c4b0 : decide (x4_1 < a0) = true := decide_eq_true c4
        clear c4
        by_cases c5 : 0 ≤ a0
        · rw [if_pos c5] at H
          have c5b0 := eq_true c5
          have c5b1 : decide (0 ≤ a0) = true := decide_eq_true c5
          clear c5
          by_cases c6 : (a0 : Int).toNat ≤ 281474976710656
          · rw [if_pos c6] at H
            have c6b0 := eq_true c6
            have c6b1 : decide ((a0 : Int).toNat ≤ 281474976710656) = true := decide_eq_true c6
            clear c6
            obtain ⟨y104, hy104⟩ : ∃ y_ : List Int, y_ = (List.replicate (a0 : Int).toNat 0) := ⟨_, rfl⟩
            replace H : (if 0 ≤ x4_1 then (if x4_1 < (y104.length : Int) then (if x3_1.length < 5864062014805 then (mooringref02_Identity.l0 k1 a0 (x3_1 ++ [(y104.set (x4_1 : Int).toNat 1)]) (wrap64 (x4_1 + 1))) else (none)) else (none)) else (none)) = some r := by first | (rw [hy104]; with_reducible exact H) | (have H2_ := (Option.bind_some _ _).symm.trans H; rw [hy104]; with_reducible exact H2_) | (have H2_ := (Option.bind_some _ _).symm.trans H; with_reducible exact H2_) | with_reducible exact H | (rw [hy104]; exact H) | exact H
            have Ny104 := Aside0.mk hy104
            clear hy104
            by_cases c7 : 0 ≤ x4_1
            · rw [if_pos c7] at H
              have c7b0 : decide (0 ≤ x4_1) = true := decide_eq_true c7
              clear c7
              by_cases c8 : x4_1 < (y104.length : Int)
              · rw [if_pos c8] at H
                have c8b0 : decide (x4_1 < (y104.length : Int)) = true := decide_eq_true c8
                clear c8
                obtain ⟨y107, hy107⟩ : ∃ y_ : List Int, y_ = (y104.set (x4_1 : Int).toNat 1) := ⟨_, rfl⟩
                replace H : (if x3_1.length < 5864062014805 then (mooringref02_Identity.l0 k1 a0 (x3_1 ++ [y107]) (wrap64 (x4_1 + 1))) else (none)) = some r := by first | (rw [hy107]; with_reducible exact H) | (have H2_ := (Option.bind_some _ _).symm.trans H; rw [hy107]; with_reducible exact H2_) | (have H2_ := (Option.bind_some _ _).symm.trans H; with_reducible exact H2_) | with_reducible exact H | (rw [hy107]; exact H) | exact H
                have Ny107 := Aside0.mk hy107
                clear hy107
                by_cases c10 : x3_1.length < 5864062014805
                · rw [if_pos c10] at H
                  have LMc10 := Aside0.mk c10
                  clear c10
                  obtain ⟨y108, hy108⟩ : ∃ y_ : List (List Int), y_ = (x3_1 ++ [y107]) := ⟨_, rfl⟩
                  replace H : (mooringref02_Identity.l0 k1 a0 y108 (wrap64 (x4_1 + 1))) = some r := by first | (rw [hy108]; with_reducible exact H) | (have H2_ := (Option.bind_some _ _).symm.trans H; rw [hy108]; with_reducible exact H2_) | (have H2_ := (Option.bind_some _ _).symm.trans H; with_reducible exact H2_) | with_reducible exact H | (rw [hy108]; exact H) | exact H
                  have Ny108 := Aside0.mk hy108
                  clear hy108
                  have H' := Aside0.mk H
                  clear H
                  go_wp2_with (first | ((with_reducible refine gate_dst (N := 13) rfl ?_); refine Kd.R_make (Kd.int .u8) _ 5 rfl (N := 13) rfl 22 _ _ rfl a0 rfl rfl Try.underlying22 (.int .u8 0) 1 info5 rfl (by decide) (by omega) 0 (ok := fun _ => True) (okp := fun _ => True) rfl (fun _ hk => hk) trivial (of_decide_eq_true (by first | (with_reducible assumption) | assumption)) (Nat.le_trans (Nat.mul_le_mul_right _ (of_decide_eq_true (by first | (with_reducible assumption) | assumption) : a0.toNat ≤ 281474976710656)) (by omega)) (Below.refl _ _) (Nat.le_refl _) ?_; intro v105 w11 ho12 hb hg_ hnew_; clear hg_ hnew_; (first | rw [← Ny104.out] at ho12 | (simp only [Int.reduceToNat] at ho12; rw [← Ny104.out] at ho12)); have n0_ := Aside0.mk (Kd.S_elder' (by (with_reducible repeat (first | apply Kd.S_alloc | apply Kd.S_drewN | apply Kd.S_drew)); exact HO_3.out) (Kd.R_base ho12) hb); have n1_ := Aside0.mk (Kd.R_lower ho12 (below_size (by repeat (first | (with_reducible first | exact HB.out | apply below_alloc | apply pw_below_drewN | apply below_drew1) | exact HB.out)))); have n2_ := Aside0.mk (below_step (by repeat (first | (with_reducible first | exact HB.out | apply below_alloc | apply pw_below_drewN | apply below_drew1) | exact HB.out)) hb); clear HO_3; clear HB; have HO_3 := n0_; have HO106 := n1_; have HB := n2_; clear n0_ n1_ n2_; clear hb ho12; have p9 : 0 ≤ (x4_1 : Int) := of_decide_eq_true (by first | (with_reducible assumption) | assumption); have q9 : (x4_1 : Int) < ((y104.length : Int) : Int) := of_decide_eq_true (by first | (with_reducible assumption) | assumption); obtain ⟨go9, co9, eo9, gb9, gl9, cl9, HG9⟩ := Kd.R_form HO106.out (by omega); (first | cases eo9 | (injection eo9 with ea_ en_ ec_; (first | subst ea_ | (injection ea_ with ea_; subst ea_)); subst ec_; clear en_)); have GB9 := Aside0.mk gb9; have GG9 := Aside0.mk HG9; clear gb9 gl9 HG9; obtain ⟨hx9_0, hf9_0⟩ := Kd.R_celln 0 HO106.out (x4_1 : Int) p9 q9; replace p9 := eq_true p9; replace q9 := eq_true q9; obtain ⟨hy13_, hz13_⟩ := Kd.R_celln 0 HO106.out (x4_1 : Int) (of_decide_eq_true (by first | (with_reducible assumption) | assumption)) (of_decide_eq_true (by first | (with_reducible assumption) | assumption)); have HP13 := Kd.R_putg HO106.out (x4_1 : Int) 1) | ((with_reducible refine gate_store (t := 5) (p := 16) rfl ?_); refine store_event (t := 5) (p := 16) (v := ?vo_w14) (w1 := (w11.setCell ⟨go9, (x4_1 : Int).toNat, none⟩ (.int .u8 1))) ?hg ?ho ?hn ?hr ?_; (case ho => rfl); (case hg => rfl); (case hn => rfl); (case hr => first | (go_simp; done) | (go_simp; rfl)); intro w14 hw; have hg : w11.grownBy w14 (some go9) := (by rw [hw]; exact HP13.2); have hp_ : Kd.R (Kd.int .u8) 5 w14 w.heap.size (fun _ => True) (.slice (some ⟨go9, 0, none⟩) y104.length co9) y107 := (by rw [hw, Ny107.out]; exact HP13.1); clear HP13; have n0_ := Aside0.mk (Kd.S_after (v := (.slice (some ⟨go9, 0, none⟩) y104.length co9)) (v1 := (.slice (some ⟨go9, 0, none⟩) y104.length co9)) (ok := (fun _ => True)) (by (with_reducible repeat (first | apply Kd.S_alloc | apply Kd.S_drewN | apply Kd.S_drew)); exact HO_3.out) hg (.inl rfl)); have n1_ := Aside0.mk (hp_); have n2_ := Aside0.mk ((by rw [hw]; exact below_set (HB.out) GB9.out : Below w.heap.size w w14)); clear HO_3; clear HO106; clear HB; have HO_3 := n0_; have HO106 := n1_; have HB := n2_; clear n0_ n1_ n2_; clear hg hw hp_) | ((with_reducible refine gate_builtin (b := .append) (xs := #[.tmp 17, .tmp 19]) rfl ?_); at_builtin; refine Kd.S_append (Kd.slice 5 (Kd.int .u8)) (w0 := w) w.heap.size rfl (.tmp 17) (.tmp 19) 51 22 (.slice none 0 0) 24 rfl Try.underlying51 info22 rfl (by decide) (by omega) u3 x3_1 y107 [.slice (some ⟨go9, 0, none⟩) y104.length co9] (fun _ => True) (fun k_ => some k_ = (.slice (some ⟨go9, 0, none⟩) y104.length co9 : Value).ownBlock) rfl rfl ?aP (fun k_ hk_ => ((Kd.R_mono (ok' := fun k_ => ((fun _ => True)) k_ ∧ some k_ ≠ (u3 : Value).ownBlock) (Kd.R_apart' (HO106.out) (Kd.S_typed HO_3.out) (by decide)) (fun k_ hk => ⟨trivial, hk.2⟩))).1 k_ hk_.symm) ?aF ?aO ?aB ?aS ?aL ?_; (case aP => exact Kd.M_row (Kd.R_mono (Kd.R_tight rfl (Kd.R_mono (ok' := fun k_ => ((fun _ => True)) k_ ∧ some k_ ≠ (u3 : Value).ownBlock) (Kd.R_apart' (HO106.out) (Kd.S_typed HO_3.out) (by decide)) (fun k_ hk => ⟨trivial, hk.2⟩))) (fun _ h_ => h_))); (case aB => exact (by repeat (first | (with_reducible first | exact HB.out | apply below_alloc | apply pw_below_drewN | apply below_drew1) | exact HB.out))); (case aF => exact (fun _ _ => trivial)); (case aO => exact (by (with_reducible repeat (first | apply Kd.S_alloc | apply Kd.S_drewN | apply Kd.S_drew)); exact Kd.S_mono HO_3.out (fun k_ hk => ⟨trivial, fun e_ => hk.2 e_⟩))); (case aS => exact (below_size (by repeat (first | (with_reducible first | exact HB.out | apply below_alloc | apply pw_below_drewN | apply below_drew1) | exact HB.out)))); (case aL => have := LMc10.out; omega); intro v109 w15 ho hb hg hat; rw [← Ny108.out] at ho; have n0_ := Aside0.mk (hb); have n1_ := Aside0.mk (ho); clear HB; clear HO_3; clear HO106; have HB := n0_; have HO110 := n1_; clear n0_ n1_; clear ho hb hg hat))
                  go_roundg k1
                  case measure => have := HK1.out; omega
                  case rel => exact ⟨(y108), (wrap64 (x4_1 + 1)), (by first | rfl | (simp; done) | (simp [*]; done)), H', ⟨by have := HK1.out; omega⟩, ⟨by (with_reducible repeat (first | apply Kd.S_alloc | apply Kd.S_drewN | apply Kd.S_drew)); exact HO110.out⟩, ⟨by repeat (first | (with_reducible first | exact HB.out | apply below_alloc | apply pw_below_drewN | apply below_drew1) | exact HB.out)⟩⟩
                · rw [if_neg c10] at H
                  exact absurd H (by simp)
              · rw [if_neg c8] at H
                exact absurd H (by simp)
            · rw [if_neg c7] at H
              exact absurd H (by simp)
          · rw [if_neg c6] at H
            exact absurd H (by simp)
        · rw [if_neg c5] at H
          exact absurd H (by simp)
      · rw [if_neg c4] at H
        have c4b0 : decide (x4_1 < a0) = false := decide_eq_false c4
        clear c4
        obtain rfl := Option.some.inj H
        go_wp2
        go_ret
        exact ⟨_, by first | rfl | (simp [errW_none, errW_some] <;> rfl) | (simp [*, errW_none, errW_some] <;> rfl), by (with_reducible repeat (first | apply Kd.S_alloc | apply Kd.S_drewN | apply Kd.S_drew)); exact HO_3.out, by repeat (first | (with_reducible first | exact HB.out | apply below_alloc | apply pw_below_drewN | apply below_drew1) | exact HB.out)⟩
end Go.Proofs.Ytbogmlckbkogiaa.P
namespace Go.Proofs.Ytbogmlckbkogiaa.Red
open Go.RowKit Go.Proofs.YtbogmlckbkogiaaW.PrintWords Go.Proofs.Ytbogmlckbkogiaa.Leaf Go.Proofs.Ytbogmlckbkogiaa.Gf Go.Proofs.Ytbogmlckbkogiaa.H Go.Proofs.Ytbogmlckbkogiaa.Mx Go.Proofs.Ytbogmlckbkogiaa.P
set_option linter.unusedVariables false
set_option linter.unusedSimpArgs false
def oM (A : Mat) : List (List Int) := A.map ofL
theorem oM_length (A : Mat) : (oM A).length = A.length := List.length_map _
theorem rd_oM (A : Mat) (i : Nat) : rd_L1 (oM A) (i : Int) = ofL (row A i) := map_getD A i
theorem rd_oM0 (A : Mat) : rd_L1 (oM A) 0 = ofL (row A 0) := map_getD A 0
theorem oM_set (A : Mat) (i : Nat) (r : List B) : (oM A).set i (ofL r) = oM (A.set i r) := map_set A i r
theorem oM_append (A C : Mat) : oM A ++ oM C = oM (A ++ C) := by unfold oM; rw [List.map_append]
theorem oM_one (r : List B) : [ofL r] = oM [r] := rfl
def zeroM (n m : Nat) : Mat := List.replicate n (List.replicate m 0#8)
theorem zeroM_reg (n m : Nat) : Reg (zeroM n m) n m := by
  refine ⟨List.length_replicate .., fun i hi => ?_⟩
  unfold row zeroM
  rw [List.getD_eq_getElem?_getD, List.getElem?_replicate, if_pos hi]
  simp
theorem el_zeroM {n m i j : Nat} (hi : i < n) (hj : j < m) : el (zeroM n m) i j = 0#8 := by
  unfold el row zeroM at0
  rw [List.getD_eq_getElem?_getD (l := List.replicate n _), List.getElem?_replicate, if_pos hi]
  rw [Option.getD_some, List.getD_eq_getElem?_getD, List.getElem?_replicate, if_pos hj]
  rfl
theorem zeros_l0 (n m : Nat) (hm : m ≤ 281474976710656) (hn : n < 2 ^ 62) (d : Nat) : ∀ (i : Nat) (X : List (List Int)), i + d = n → X.length = n → (∀ j, j < i → X.getD j [] = List.replicate m 0) → Ev (fun k => matrix_zeros.l0 k (m : Int) X (n : Int) (i : Int)) (List.replicate n (List.replicate m 0)) := by
  induction d with
  | zero =>
    intro i X hi hl h
    refine Ev.step (f := fun _ => some X) (fun k => ?_) ?_
    · simp only [matrix_zeros.l0]
      rw [if_neg (by omega)]
    · rw [show List.replicate n (List.replicate m (0 : Int)) = X from List.ext_getElem (by rw [List.length_replicate, hl]) fun j h1 h2 => by
        have h3 := h j (by omega)
        rw [List.getD_eq_getElem?_getD, List.getElem?_eq_getElem h2] at h3
        rw [List.getElem_replicate]
        exact h3.symm]
      exact Ev.now _
  | succ d ih =>
    intro i X hi hl h
    refine Ev.step (f := fun k => matrix_zeros.l0 k (m : Int) (X.set i (List.replicate m 0)) (n : Int) ((i + 1 : Nat) : Int)) (fun k => ?_) (ih (i + 1) _ (by omega) (by rw [List.length_set]; exact hl) (fun j hj => ?_))
    · simp only [matrix_zeros.l0, hl, Int.toNat_natCast]
      rw [if_pos (by omega), if_pos (by omega), if_pos hm, if_pos (by omega), if_pos (by omega), w64 _ (by omega) (by omega)]
      rfl
    · simp only [List.getD_eq_getElem?_getD, List.getElem?_set]
      by_cases e : i = j
      · subst e; rw [if_pos rfl, if_pos (by omega)]; rfl
      · rw [if_neg e]
        have := h j (by omega)
        rwa [List.getD_eq_getElem?_getD] at this
theorem evZeros (n m : Nat) (hm : m ≤ 281474976710656) (hn : n ≤ 11728124029610) : Ev (fun k => matrix_zeros.f k (n : Int) (m : Int)) (oM (zeroM n m)) := by
  unfold matrix_zeros.f
  simp only [show ((0 : Int) ≤ (n : Int)) = True from eq_true (by omega), if_true, Int.toNat_natCast, show (n ≤ 11728124029610) = True from eq_true hn, Option.bind_some, List.length_replicate]
  have e : oM (zeroM n m) = List.replicate n (List.replicate m 0) := by unfold oM zeroM; rw [List.map_replicate, ofL_replicate]
  rw [e]
  exact zeros_l0 n m hm (by omega) n 0 _ (by omega) (List.length_replicate ..) (fun j hj => by omega)
theorem set_one (r : List B) (i : Nat) : (ofL r).set i 1 = ofL (r.set i 1#8) := by rw [← ofB_one, ofL_set]
/-- The identity's rows, the first i of them done. -/
theorem id_l0 (n : Nat) (hn : n ≤ 255) (d : Nat) : ∀ i : Nat, i + d = n → Ev (fun k => matrix_Identity.l0 k (oM (matF n n (fun a b => if a < i then I a b else 0#8))) (n : Int) (i : Int)) (oM (idM n), 0) := by
  induction d with
  | zero =>
    intro i hi
    refine Ev.step (f := fun _ => some (oM (idM n), 0)) (fun k => ?_) (Ev.now _)
    simp only [matrix_Identity.l0]
    rw [if_neg (by omega), idM_eq, mat_ext (matF_reg n n _) (matF_reg n n I) (fun a b ha hb => by rw [el_matF _ ha hb, el_matF _ ha hb, if_pos (by omega)])]
  | succ d ih =>
    intro i hi
    have hr := (matF_reg n n (fun a b => if a < i then I a b else 0#8))
    have e : (matF n n (fun a b => if a < i then I a b else 0#8)).set i ((row (matF n n (fun a b => if a < i then I a b else 0#8)) i).set i 1#8) = matF n n (fun a b => if a < i + 1 then I a b else 0#8) := by
      refine mat_ext (hr.set (by omega) (by rw [List.length_set]; exact hr.2 i (by omega))) (matF_reg n n _) (fun a b ha hb => ?_)
      unfold el
      rw [row_set _ _ _ _ (by rw [hr.1]; omega)]
      show _ = el (matF n n _) a b
      rw [el_matF _ ha hb]
      by_cases e : a = i
      · subst e
        rw [if_pos rfl, at0_set _ _ _ _ (by rw [hr.2 a ha]; exact ha)]
        by_cases e2 : a = b
        · rw [if_pos e2, if_pos (by omega)]; unfold I; rw [if_pos e2]
        · rw [if_neg e2]
          show el (matF n n _) a b = _
          rw [el_matF _ ha hb, if_neg (by omega), if_pos (by omega)]
          unfold I; rw [if_neg e2]
      · rw [if_neg e]
        show el (matF n n _) a b = _
        rw [el_matF _ ha hb]
        by_cases e2 : a < i
        · rw [if_pos e2, if_pos (by omega)]
        · rw [if_neg e2, if_neg (by omega)]
    refine Ev.step (f := fun k => matrix_Identity.l0 k (oM (matF n n (fun a b => if a < i + 1 then I a b else 0#8))) (n : Int) ((i + 1 : Nat) : Int)) (fun k => ?_) (ih (i + 1) (by omega))
    simp only [matrix_Identity.l0, oM_length, rd_oM, ofL_length, hr.1, hr.2 i (by omega), Int.toNat_natCast]
    rw [if_pos (by omega), if_pos (by omega), if_pos (by omega), if_pos (by omega), set_one, oM_set, e, w64 _ (by omega) (by omega)]
    rfl
def idR (n : Int) : List (List Int) × Int := if 1 ≤ n ∧ n ≤ 255 then (oM (idM n.toNat), 0) else ([], 1)
theorem evIdentity (n : Int) : Ev (fun k => matrix_Identity.f k n) (idR n) := by
  unfold matrix_Identity.f idR
  have j1 : Ev (fun k => matrix_Identity.j0 k n true) ([], 1) := Ev.step (f := fun _ => some ([], 1)) (fun k => by simp only [matrix_Identity.j0, if_true]) (Ev.now _)
  by_cases h1 : n < 1
  · simp only [show (n < 1) = True from eq_true h1, if_true]
    rw [if_neg (by omega)]
    exact j1
  · simp only [show (n < 1) = False from eq_false h1, if_false]
    by_cases h2 : n > 255
    · simp only [show decide (n > 255) = true from decide_eq_true h2]
      rw [if_neg (by omega)]
      exact j1
    · simp only [show decide (n > 255) = false from decide_eq_false h2]
      rw [if_pos (by omega)]
      obtain ⟨m, rfl⟩ := Int.eq_ofNat_of_zero_le (show 0 ≤ n by omega)
      rw [Int.toNat_natCast]
      have hz : zeroM m m = matF m m (fun a b => if a < 0 then I a b else 0#8) := mat_ext (zeroM_reg m m) (matF_reg m m _) fun a b ha hb => by rw [el_zeroM ha hb, el_matF _ ha hb, if_neg (by omega)]
      refine Ev.step (f := fun k => (matrix_zeros.f k (m : Int) (m : Int)).bind fun t101 => matrix_Identity.l0 k t101 (t101.length : Int) 0) (fun k => by simp only [matrix_Identity.j0, Bool.false_eq_true, if_false]) ?_
      refine Ev.bind (evZeros m m (by omega) (by omega)) ?_
      rw [oM_length, (zeroM_reg m m).1, hz]
      exact id_l0 m (by omega) m 0 (by omega)
theorem refId_l0 (n : Nat) (hn : n ≤ 281474976710656) (hn2 : n < 5864062014805) (d : Nat) : ∀ i : Nat, i + d = n → Ev (fun k => mooringref02_Identity.l0 k (n : Int) (oM (matF i n I)) (i : Int)) (oM (idM n)) := by
  induction d with
  | zero =>
    intro i hi
    obtain rfl : i = n := by omega
    refine Ev.step (f := fun _ => some (oM (matF i i I))) (fun k => ?_) (Ev.now _)
    simp only [mooringref02_Identity.l0]
    rw [if_neg (by omega)]
  | succ d ih =>
    intro i hi
    refine Ev.step (f := fun k => mooringref02_Identity.l0 k (n : Int) (oM (matF (i + 1) n I)) ((i + 1 : Nat) : Int)) (fun k => ?_) (ih (i + 1) (by omega))
    simp only [mooringref02_Identity.l0, Int.toNat_natCast, Option.bind_some, List.length_replicate, oM_length, (matF_reg i n I).1]
    have e : (List.replicate n (0 : Int)).set i 1 = ofL ((List.range n).map (I i)) := by
      rw [ofL_replicate, ← ofB_one, ofL_set]
      congr 1
      refine ext0 (by simp) fun j hj => ?_
      simp only [List.length_set, List.length_replicate] at hj
      rw [at0_set _ _ _ _ (by rw [List.length_replicate]; omega), at0_map _ _ _ hj]
      unfold I
      by_cases e : i = j
      · rw [if_pos e, if_pos e]
      · rw [if_neg e, if_neg e]
        unfold at0
        simp [List.getD_eq_getElem?_getD, hj]
    rw [if_pos (by omega), if_pos (by omega), if_pos hn, if_pos (by omega), if_pos (by omega), if_pos (by omega), e, oM_one, oM_append, w64 _ (by omega) (by omega)]
    have e2 : matF i n I ++ [(List.range n).map (I i)] = matF (i + 1) n I := by unfold matF; rw [List.range_succ, List.map_append]; rfl
    rw [e2]
    rfl
theorem evRefIdentity (n : Nat) (hn : n < 5864062014805) : Ev (fun k => mooringref02_Identity.f k (n : Int)) (oM (idM n)) := by
  unfold mooringref02_Identity.f
  exact refId_l0 n (by omega) hn n 0 (by omega)
theorem uneven {A : Mat} (h : ¬ ∀ j, j < A.length → (row A j).length = (row A 0).length) : ∃ j, j < A.length ∧ (row A j).length ≠ (row A 0).length := by
  apply Classical.byContradiction
  intro hn
  exact h fun j hj => Classical.byContradiction fun he => hn ⟨j, hj, he⟩
end Go.Proofs.Ytbogmlckbkogiaa.Red
namespace Go.Proofs.Ytbogmlckbkogiaa.Red
open Go.RowKit Go.Proofs.YtbogmlckbkogiaaW.PrintWords Go.Proofs.Ytbogmlckbkogiaa.Leaf Go.Proofs.Ytbogmlckbkogiaa.Gf Go.Proofs.Ytbogmlckbkogiaa.H Go.Proofs.Ytbogmlckbkogiaa.Mx Go.Proofs.Ytbogmlckbkogiaa.P
set_option linter.unusedVariables false
set_option linter.unusedSimpArgs false
/-- The product. -/
def mulM (A C : Mat) : Mat := matF A.length (row C 0).length (mm C.length (el A) (el C))
theorem mulM_reg {A C : Mat} {n m p : Nat} (hA : Reg A n m) (hC : Reg C m p) (hm : 0 < m) : Reg (mulM A C) n p := by
  unfold mulM
  rw [hA.1, hC.2 0 hm]
  exact matF_reg n p _
theorem el_mulM {A C : Mat} {n m p : Nat} (hA : Reg A n m) (hC : Reg C m p) (hm : 0 < m) {i j : Nat} (hi : i < n) (hj : j < p) : el (mulM A C) i j = mm m (el A) (el C) i j := by
  unfold mulM
  rw [hA.1, hC.1, hC.2 0 hm, el_matF _ hi hj]
theorem mulM_id {A : Mat} {n m : Nat} (hA : Reg A n m) (hn : 0 < n) : mulM (idM n) A = A := by
  refine mat_ext (mulM_reg (matF_reg n n I) hA hn) hA fun i j hi hj => ?_
  rw [idM_eq, el_mulM (matF_reg n n I) hA hn hi hj]
  refine (mm_congr (fun k hk => el_matF I hi hk) (fun _ _ => rfl)).trans ?_
  exact mm_IL _ _ hi
theorem str_eq (L M : List B) : (strOfNums (ofL L)).toList = (strOfNums (ofL M)).toList ↔ L = M := by
  refine ⟨fun h => ?_, fun h => by rw [h]⟩
  rw [ByteArray.toList_eq, ByteArray.toList_eq, strOfNums_data, strOfNums_data] at h
  have h2 := congrArg (List.map fun c : UInt8 => BitVec.ofNat 8 c.toNat) h
  have hid : ∀ N : List B, ((ofL N).map fun n => UInt8.ofNat n.toNat).map (fun c : UInt8 => BitVec.ofNat 8 c.toNat) = N := by
    intro N
    unfold ofL
    rw [List.map_map, List.map_map]
    refine (List.map_congr_left fun x _ => ?_).trans (List.map_id' N)
    have hx := x.isLt
    simp only [Function.comp, ofB, Int.toNat_natCast]
    apply BitVec.eq_of_toNat_eq
    simp
  rw [hid, hid] at h2
  exact h2
theorem same_l0 (A C : Mat) (hl : A.length = C.length) (hs : A.length ≤ 9223372036854775807) (d : Nat) : ∀ i : Nat, i + d = A.length → (∀ j, j < i → row A j = row C j) → Ev (fun k => mooringref02_Same.l0 k (oM A) (oM C) (i : Int)) (decide (A = C)) := by
  induction d with
  | zero =>
    intro i hi h
    have e : A = C := by
      refine List.ext_getElem hl fun j h1 h2 => ?_
      have h3 := h j (by omega)
      unfold row at h3
      rw [List.getD_eq_getElem?_getD, List.getElem?_eq_getElem h1, List.getD_eq_getElem?_getD, List.getElem?_eq_getElem h2] at h3
      exact h3
    rw [decide_eq_true e]
    refine Ev.step (f := fun _ => some true) (fun k => ?_) (Ev.now _)
    simp only [mooringref02_Same.l0, oM_length]
    rw [if_neg (by omega)]
  | succ d ih =>
    intro i hi h
    by_cases he : row A i = row C i
    · refine Ev.step (f := fun k => mooringref02_Same.l0 k (oM A) (oM C) ((i + 1 : Nat) : Int)) (fun k => ?_) (ih (i + 1) (by omega) (fun j hj => ?_))
      · simp only [mooringref02_Same.l0, oM_length, rd_oM]
        rw [if_pos (by omega), if_pos (by omega), if_pos (by omega), if_pos ((str_eq _ _).2 he), w64 _ (by omega) (by omega)]
        rfl
      · by_cases e : j = i
        · rw [e]; exact he
        · exact h j (by omega)
    · have e : decide (A = C) = false := decide_eq_false (fun e => he (by rw [e]))
      rw [e]
      refine Ev.step (f := fun _ => some false) (fun k => ?_) (Ev.now _)
      simp only [mooringref02_Same.l0, oM_length, rd_oM]
      rw [if_pos (by omega), if_pos (by omega), if_pos (by omega), if_neg (fun h => he ((str_eq _ _).1 h))]
theorem evSame (A C : Mat) (hs : A.length ≤ 9223372036854775807) : Ev (fun k => mooringref02_Same.f k (oM A) (oM C)) (decide (A = C)) := by
  unfold mooringref02_Same.f
  simp only [oM_length]
  by_cases h : A.length = C.length
  · simp only [show ((A.length : Int) = (C.length : Int)) = True from eq_true (by omega), if_true]
    exact same_l0 A C h hs A.length 0 (by omega) (fun j hj => by omega)
  · simp only [show ((A.length : Int) = (C.length : Int)) = False from eq_false (by omega), if_false]
    rw [decide_eq_false (fun e => h (by rw [e]))]
    exact Ev.now _
end Go.Proofs.Ytbogmlckbkogiaa.Red
namespace Go.Proofs.Ytbogmlckbkogiaa.Mx
open Go.Proofs.Ytbogmlckbkogiaa.Gf
set_option linter.unusedVariables false
set_option linter.unusedSimpArgs false
/-- An element of the code's matrix. -/
def cau (k m : Nat) : Fm := fun v j => if v < k then I v j else inv (BitVec.ofNat 8 (v - k) ^^^ BitVec.ofNat 8 (m + j))
end Go.Proofs.Ytbogmlckbkogiaa.Mx
namespace Go.Proofs.Ytbogmlckbkogiaa.P
open Go.Proofs.Ytbogmlckbkogiaa.Leaf
open Go.RowKit Go.Proofs.YtbogmlckbkogiaaW.PrintWords Go.Proofs.YtbogmlckbkogiaaW.PrintLast Go.Proofs.YtbogmlckbkogiaaW.PrintMore
attribute [local go_sem] max2_int min2_int max_two min_two max_three min_three max_four min_four   -- for this text's walks alone
set_option linter.unusedVariables false
set_option linter.unusedSimpArgs false
mutual
def matrix_Cauchy.j0 : Nat → Int → Int → Bool → Option ((List (List Int)) × Int)
  | 0, _, _, _ => none
  | k + 1, x0, x1, x26 => if x26 = true then (some (([] : List (List Int)), 1)) else ((matrix_Identity.f k x0).bind fun bt101 => (matrix_Cauchy.l0 k x0 x1 bt101.1 x1 0))
def matrix_Cauchy.l0 : Nat → Int → Int → List (List Int) → Int → Int → Option ((List (List Int)) × Int)
  | 0, _, _, _, _, _ => none
  | k + 1, x0, x1, x6, x32, x33 => if x33 < x32 then (if 0 ≤ x0 then (if (x0 : Int).toNat ≤ 281474976710656 then (matrix_Cauchy.l1 k x0 x1 x6 x33 (List.replicate (x0 : Int).toNat 0) x32 x33 x0 0) else (none)) else (none)) else (some (x6, 0))
def matrix_Cauchy.l1 : Nat → Int → Int → List (List Int) → Int → List Int → Int → Int → Int → Int → Option ((List (List Int)) × Int)
  | 0, _, _, _, _, _, _, _, _, _ => none
  | k + 1, x0, x1, x6, x8, x9, x32, x33, x38, x39 => if x39 < x38 then ((gf_Inv.f (Go.bits .xor .u8 ((x8) % 256) ((wrap64 (x1 + x39)) % 256))).bind fun bt108 => (if 0 ≤ x39 then (if x39 < (x9.length : Int) then (matrix_Cauchy.l1 k x0 x1 x6 x8 (x9.set (x39 : Int).toNat bt108.1) x32 x33 x38 (wrap64 (x39 + 1))) else (none)) else (none))) else (if x6.length < 5864062014805 then (matrix_Cauchy.l0 k x0 x1 (x6 ++ [x9]) x32 (wrap64 (x33 + 1))) else (none))
end
def matrix_Cauchy.f (k : Nat) (a0 : Int) (a1 : Int) : Option ((List (List Int)) × Int) := if a0 < 1 then (matrix_Cauchy.j0 k a0 a1 true) else (if a1 < 1 then (matrix_Cauchy.j0 k a0 a1 true) else (if a0 > 255 then (matrix_Cauchy.j0 k a0 a1 true) else (matrix_Cauchy.j0 k a0 a1 (decide (a1 > (wrap64 (255 - a0)))))))
theorem matrix_Cauchy.mono_l : ∀ k, (∀ y0 y1 y2, LeO (matrix_Cauchy.j0 k y0 y1 y2) (matrix_Cauchy.j0 (k + 1) y0 y1 y2)) ∧ (∀ y0 y1 y2 y3 y4, LeO (matrix_Cauchy.l0 k y0 y1 y2 y3 y4) (matrix_Cauchy.l0 (k + 1) y0 y1 y2 y3 y4)) ∧ (∀ y0 y1 y2 y3 y4 y5 y6 y7 y8, LeO (matrix_Cauchy.l1 k y0 y1 y2 y3 y4 y5 y6 y7 y8) (matrix_Cauchy.l1 (k + 1) y0 y1 y2 y3 y4 y5 y6 y7 y8))
  | 0 => ⟨fun _ _ _ r h => by simp [matrix_Cauchy.j0] at h, fun _ _ _ _ _ r h => by simp [matrix_Cauchy.l0] at h, fun _ _ _ _ _ _ _ _ _ r h => by simp [matrix_Cauchy.l1] at h⟩
  | k + 1 => by
    obtain ⟨ih0, ih1, ih2⟩ := matrix_Cauchy.mono_l k
    refine ⟨?_, ?_, ?_⟩
    · intro y0 y1 y2
      unfold matrix_Cauchy.j0
      repeat' first
      | (with_reducible exact ih0 _ _ _)
      | (with_reducible exact ih1 _ _ _ _ _)
      | (with_reducible exact ih2 _ _ _ _ _ _ _ _ _)
      | (with_reducible exact matrix_Identity.mono _ _)
      | (with_reducible exact LeO.refl _)
      | (with_reducible exact LeO.none _)
      | (with_reducible refine LeO.ite ?_ ?_)
      | (with_reducible refine LeO.bind ?_ (fun _ => ?_))
      | exact ih0 _ _ _
      | exact ih1 _ _ _ _ _
      | exact ih2 _ _ _ _ _ _ _ _ _
      | exact matrix_Identity.mono _ _
      | exact LeO.none _
      | refine LeO.ite ?_ ?_
      | refine LeO.bind ?_ (fun _ => ?_)
    · intro y0 y1 y2 y3 y4
      unfold matrix_Cauchy.l0
      repeat' first
      | (with_reducible exact ih0 _ _ _)
      | (with_reducible exact ih1 _ _ _ _ _)
      | (with_reducible exact ih2 _ _ _ _ _ _ _ _ _)
      | (with_reducible exact matrix_Identity.mono _ _)
      | (with_reducible exact LeO.refl _)
      | (with_reducible exact LeO.none _)
      | (with_reducible refine LeO.ite ?_ ?_)
      | (with_reducible refine LeO.bind ?_ (fun _ => ?_))
      | exact ih0 _ _ _
      | exact ih1 _ _ _ _ _
      | exact ih2 _ _ _ _ _ _ _ _ _
      | exact matrix_Identity.mono _ _
      | exact LeO.none _
      | refine LeO.ite ?_ ?_
      | refine LeO.bind ?_ (fun _ => ?_)
    · intro y0 y1 y2 y3 y4 y5 y6 y7 y8
      unfold matrix_Cauchy.l1
      repeat' first
      | (with_reducible exact ih0 _ _ _)
      | (with_reducible exact ih1 _ _ _ _ _)
      | (with_reducible exact ih2 _ _ _ _ _ _ _ _ _)
      | (with_reducible exact matrix_Identity.mono _ _)
      | (with_reducible exact LeO.refl _)
      | (with_reducible exact LeO.none _)
      | (with_reducible refine LeO.ite ?_ ?_)
      | (with_reducible refine LeO.bind ?_ (fun _ => ?_))
      | exact ih0 _ _ _
      | exact ih1 _ _ _ _ _
      | exact ih2 _ _ _ _ _ _ _ _ _
      | exact matrix_Identity.mono _ _
      | exact LeO.none _
      | refine LeO.ite ?_ ?_
      | refine LeO.bind ?_ (fun _ => ?_)
theorem matrix_Cauchy.mono : ∀ a0 a1 k, LeO (matrix_Cauchy.f k a0 a1) (matrix_Cauchy.f (k + 1) a0 a1) := by
  intro a0 a1 k
  obtain ⟨ih0, ih1, ih2⟩ := matrix_Cauchy.mono_l k
  unfold matrix_Cauchy.f
  repeat' first
      | (with_reducible exact ih0 _ _ _)
      | (with_reducible exact ih1 _ _ _ _ _)
      | (with_reducible exact ih2 _ _ _ _ _ _ _ _ _)
      | (with_reducible exact matrix_Identity.mono _ _)
      | (with_reducible exact LeO.refl _)
      | (with_reducible exact LeO.none _)
      | (with_reducible refine LeO.ite ?_ ?_)
      | (with_reducible refine LeO.bind ?_ (fun _ => ?_))
      | exact ih0 _ _ _
      | exact ih1 _ _ _ _ _
      | exact ih2 _ _ _ _ _ _ _ _ _
      | exact matrix_Identity.mono _ _
      | exact LeO.none _
      | refine LeO.ite ?_ ?_
      | refine LeO.bind ?_ (fun _ => ?_)
set_option maxHeartbeats 8000000 in
set_option maxRecDepth 100000 in
theorem matrix_Cauchy.calls (k : Nat) (a0 : Int) (a1 : Int) (r1 : List (List Int)) (r2 : Int) (w : World) (h : matrix_Cauchy.f k a0 a1 = some (r1, r2)) :
    Calls Try.prog 71 #[.int .i64 a0, .int .i64 a1] w fun e w' => ∃ v0_ : Value, e = .returned (.tuple #[v0_, .int .i64 r2]) ∧ Kd.S (Kd.slice 5 (Kd.int .u8)) 22 w' w.heap.size (fun _ => True) v0_ r1 ∧ Below w.heap.size w w' := by
  have HB := Aside0.mk (Below.refl w.heap.size w)
  have H : (if a0 < 1 then (matrix_Cauchy.j0 k a0 a1 true) else (if a1 < 1 then (matrix_Cauchy.j0 k a0 a1 true) else (if a0 > 255 then (matrix_Cauchy.j0 k a0 a1 true) else (matrix_Cauchy.j0 k a0 a1 (decide (a1 > (wrap64 (255 - a0)))))))) = some (r1, r2) := h
  clear h
  have HC3 := Aside0.mk H
  clear H
  go_enter Try.func71, Try.ntmps71
  go_upto_region 1 with (fail)
  go_cut [26] (fun v26 wc => ∃ (kq : Nat) (x26_2 : Bool), v26 = .bool x26_2 ∧ Aside0 (matrix_Cauchy.j0 kq a0 a1 x26_2 = some (r1, r2)) ∧ Aside0 (kq ≤ k) ∧ Aside0 (Below w.heap.size w wc))
  case first =>
    have H := HC3.out
    clear HC3
    by_cases c4 : a0 < 1
    · rw [if_pos c4] at H
      have c4b0 : decide (a0 < 1) = true := decide_eq_true c4
      clear c4
      (first | rw [c4b0] | (simp only [i64_w, i32_w]; rw [c4b0]) | skip)
      have H' := Aside0.mk H
      clear H
      go_wp2
      go_meet
      case rel => exact ⟨_, (true), (by first | rfl | (simp; done) | (simp [*]; done)), H', ⟨by first | omega | exact Nat.le_refl _⟩, ⟨by repeat (first | (with_reducible first | exact HB.out | apply below_alloc | apply pw_below_drewN | apply below_drew1) | exact HB.out)⟩⟩
    · rw [if_neg c4] at H
      have c4b0 : decide (a0 < 1) = false := decide_eq_false c4
      clear c4
      (first | rw [c4b0] | (simp only [i64_w, i32_w]; rw [c4b0]) | skip)
      by_cases c5 : a1 < 1
      · rw [if_pos c5] at H
        have c5b0 : decide (a1 < 1) = true := decide_eq_true c5
        clear c5
        have H' := Aside0.mk H
        clear H
        go_wp2
        go_meet
        case rel => exact ⟨_, (true), (by first | rfl | (simp; done) | (simp [*]; done)), H', ⟨by first | omega | exact Nat.le_refl _⟩, ⟨by repeat (first | (with_reducible first | exact HB.out | apply below_alloc | apply pw_below_drewN | apply below_drew1) | exact HB.out)⟩⟩
      · rw [if_neg c5] at H
        have c5b0 : decide (a1 < 1) = false := decide_eq_false c5
        clear c5
        by_cases c6 : a0 > 255
        · rw [if_pos c6] at H
          have c6b0 : decide (255 < a0) = true := decide_eq_true c6
          clear c6
          have H' := Aside0.mk H
          clear H
          go_wp2
          go_meet
          case rel => exact ⟨_, (true), (by first | rfl | (simp; done) | (simp [*]; done)), H', ⟨by first | omega | exact Nat.le_refl _⟩, ⟨by repeat (first | (with_reducible first | exact HB.out | apply below_alloc | apply pw_below_drewN | apply below_drew1) | exact HB.out)⟩⟩
        · rw [if_neg c6] at H
          have c6b0 : decide (255 < a0) = false := decide_eq_false c6
          clear c6
          have H' := Aside0.mk H
          clear H
          go_wp2
          go_meet
          case rel => exact ⟨_, (decide (a1 > (wrap64 (255 - a0)))), (by first | rfl | (simp; done) | (simp [*]; done)), H', ⟨by first | omega | exact Nat.le_refl _⟩, ⟨by repeat (first | (with_reducible first | exact HB.out | apply below_alloc | apply pw_below_drewN | apply below_drew1) | exact HB.out)⟩⟩
  case rest =>
    clear HC3
    try clear p2
    try clear c4
    try clear c4b0
    try clear c5
    try clear c5b0
    try clear c6
    try clear c6b0
    try clear p6
    obtain ⟨kq, x26_2, rfl, HA, HJ2, HB⟩ := hcut
    cases kq with
    | zero => exact absurd HA.out (by simp [matrix_Cauchy.j0])
    | succ kj2 =>
      have H := HA.out
      clear HA
      simp only [matrix_Cauchy.j0] at H
      by_cases c7 : x26_2 = true
      · subst c7
        have H1 : (some (([] : List (List Int)), 1)) = some (r1, r2) := by rw [if_pos rfl] at H; exact H
        clear H
        have H := H1
        clear H1
        simp only [Option.some.injEq, Prod.mk.injEq] at H
        obtain ⟨rfl, rfl⟩ := H
        go_wp2
        go_ret2
        exact ⟨_, by first | rfl | (simp [errW_none, errW_some] <;> rfl) | (simp [*, errW_none, errW_some] <;> rfl), by first | exact Kd.S_nil _ _ _ _ _ | exact Kd.N_nil _ _ _ _ _ | exact Kd.V_nil _ _ _ _ _ | exact Kd.Q_nil _ _ _ _ _ | exact Kd.R_nil _ _ _ _ _, by repeat (first | (with_reducible first | exact HB.out | apply below_alloc | apply pw_below_drewN | apply below_drew1) | exact HB.out)⟩
      · replace c7 := Bool.eq_false_iff.mpr c7
        subst c7
        have H1 : ((matrix_Identity.f kj2 a0).bind fun bt101 => (matrix_Cauchy.l0 kj2 a0 a1 bt101.1 a1 0)) = some (r1, r2) := by rw [if_neg (show ¬ (false = true) by decide)] at H; exact H
        clear H
        have H := H1
        clear H1
        replace H := Option.bind_eq_some_iff.mp H
        obtain ⟨⟨t101, t102⟩, A80, H⟩ := H
        replace H : (matrix_Cauchy.l0 kj2 a0 a1 t101 a1 0) = some (r1, r2) := H
        have A8 := Aside0.mk A80
        clear A80
        have H' := Aside0.mk H
        clear H
        go_wp2_with (first | ((with_reducible refine gate_callee (f := 68) rfl ?_); refine goesL_ (some 29) rfl rfl Try.func68 (by kernel_rfl) rfl #[.int .i64 a0] rfl (by (try simp only [List.map_toArray, List.map_cons, List.map_nil]); first | done | rfl | (simp only [List.length_drop, List.length_take]; rfl)) ?_; (with_reducible refine (matrix_Identity.calls kj2 a0 t101 t102 _ A8.out).mono ?_); rintro e w9 ⟨v103, rfl, ho0, hb⟩; refine ⟨_, rfl, ?_⟩; have n0_ := Aside0.mk (Kd.S_lower ho0 (below_size (by repeat (first | (with_reducible first | exact HB.out | apply below_alloc | apply pw_below_drewN | apply below_drew1) | exact HB.out)))); have n1_ := Aside0.mk (below_step (by repeat (first | (with_reducible first | exact HB.out | apply below_alloc | apply pw_below_drewN | apply below_drew1) | exact HB.out)) hb); clear HB; have HO104 := n0_; have HB := n1_; clear n0_ n1_; (try clear hb); (try clear hb2); (try clear hk); (try clear hi); (try clear ho0)))
        go_loopg [6, 33] kj2 (fun kq v6 v33 w' => ∃ (x6_2 : List (List Int)) (x33_2 : Int), v33 = .int .i64 x33_2 ∧ Aside0 (matrix_Cauchy.l0 kq a0 a1 x6_2 a1 x33_2 = some (r1, r2)) ∧ Aside0 (kq ≤ kj2) ∧ Aside0 (Kd.S (Kd.slice 5 (Kd.int .u8)) 22 w' w.heap.size (fun _ => True) v6 x6_2) ∧ Aside0 (Below w.heap.size w w'))
        case atStart => exact ⟨(t101), (0), (by first | rfl | (simp; done) | (simp [*]; done)), H', ⟨Nat.le_refl _⟩, ⟨by (with_reducible repeat (first | apply Kd.S_alloc | apply Kd.S_drewN | apply Kd.S_drew)); exact HO104.out⟩, ⟨by repeat (first | (with_reducible first | exact HB.out | apply below_alloc | apply pw_below_drewN | apply below_drew1) | exact HB.out)⟩⟩
        case round =>
          clear H'
          try clear p2
          try clear c4
          try clear c4b0
          try clear c5
          try clear c5b0
          try clear c6
          try clear c6b0
          try clear p6
          try clear c7
          try clear p2
          try clear p6
          obtain ⟨x6_2, x33_2, rfl, HA, HK2, HO_6, HB⟩ := hrel
          cases gk with
          | zero => exact absurd HA.out (by simp [matrix_Cauchy.l0])
          | succ k2 =>
            have H := HA.out
            clear HA
            simp only [matrix_Cauchy.l0] at H
            by_cases c10 : x33_2 < a1
            · rw [if_pos c10] at H
              have c10b0 : decide (x33_2 < a1) = true := decide_eq_true c10
              clear c10
              by_cases c11 : 0 ≤ a0
              · rw [if_pos c11] at H
                have c11b0 := eq_true c11
                have c11b1 : decide (0 ≤ a0) = true := decide_eq_true c11
                clear c11
                by_cases c12 : (a0 : Int).toNat ≤ 281474976710656
                · rw [if_pos c12] at H
                  have c12b0 := eq_true c12
                  have c12b1 : decide ((a0 : Int).toNat ≤ 281474976710656) = true := decide_eq_true c12
                  clear c12
                  obtain ⟨y105, hy105⟩ : ∃ y_ : List Int, y_ = (List.replicate (a0 : Int).toNat 0) := ⟨_, rfl⟩
                  replace H : (matrix_Cauchy.l1 k2 a0 a1 x6_2 x33_2 y105 a1 x33_2 a0 0) = some (r1, r2) := by first | (rw [hy105]; with_reducible exact H) | (have H2_ := (Option.bind_some _ _).symm.trans H; rw [hy105]; with_reducible exact H2_) | (have H2_ := (Option.bind_some _ _).symm.trans H; with_reducible exact H2_) | with_reducible exact H | (rw [hy105]; exact H) | exact H
                  have Ny105 := Aside0.mk hy105
                  clear hy105
                  have H' := Aside0.mk H
                  clear H
                  go_wp2_with (first | ((with_reducible refine gate_dst (N := 37) rfl ?_); refine Kd.R_make (Kd.int .u8) _ 5 rfl (N := 37) rfl 22 _ _ rfl a0 rfl rfl Try.underlying22 (.int .u8 0) 1 info5 rfl (by decide) (by omega) 0 (ok := fun _ => True) (okp := fun _ => True) rfl (fun _ hk => hk) trivial (of_decide_eq_true (by first | (with_reducible assumption) | assumption)) (Nat.le_trans (Nat.mul_le_mul_right _ (of_decide_eq_true (by first | (with_reducible assumption) | assumption) : a0.toNat ≤ 281474976710656)) (by omega)) (Below.refl _ _) (Nat.le_refl _) ?_; intro v106 w13 ho14 hb hg_ hnew_; clear hg_ hnew_; (first | rw [← Ny105.out] at ho14 | (simp only [Int.reduceToNat] at ho14; rw [← Ny105.out] at ho14)); have n0_ := Aside0.mk (Kd.S_elder' (by (with_reducible repeat (first | apply Kd.S_alloc | apply Kd.S_drewN | apply Kd.S_drew)); exact HO_6.out) (Kd.R_base ho14) hb); have n1_ := Aside0.mk (Kd.R_lower ho14 (below_size (by repeat (first | (with_reducible first | exact HB.out | apply below_alloc | apply pw_below_drewN | apply below_drew1) | exact HB.out)))); have n2_ := Aside0.mk (below_step (by repeat (first | (with_reducible first | exact HB.out | apply below_alloc | apply pw_below_drewN | apply below_drew1) | exact HB.out)) hb); clear HO_6; clear HB; have HO_6 := n0_; have HO107 := n1_; have HB := n2_; clear n0_ n1_ n2_; clear hb ho14))
                  go_loopg [39] k2 (fun kq v39 w' => ∃ (x9_3 : List Int) (x39_3 : Int), v39 = .int .i64 x39_3 ∧ Aside0 (matrix_Cauchy.l1 kq a0 a1 x6_2 x33_2 x9_3 a1 x33_2 a0 x39_3 = some (r1, r2)) ∧ Aside0 (kq ≤ k2) ∧ Aside0 (Kd.S (Kd.slice 5 (Kd.int .u8)) 22 w' w.heap.size (fun k_ => some k_ ≠ (v106 : Value).ownBlock) u6 x6_2) ∧ Aside0 (Kd.R (Kd.int .u8) 5 w' w.heap.size (fun _ => True) v106 x9_3) ∧ Aside0 (Below w.heap.size w w'))
                  case atStart => exact ⟨(y105), (0), (by first | rfl | (simp; done) | (simp [*]; done)), H', ⟨Nat.le_refl _⟩, ⟨by (with_reducible repeat (first | apply Kd.S_alloc | apply Kd.S_drewN | apply Kd.S_drew)); exact Kd.S_mono HO_6.out (fun _ hk => hk.2)⟩, ⟨by (with_reducible repeat (first | apply Kd.R_alloc | apply Kd.R_drewN | apply Kd.R_drew)); exact HO107.out⟩, ⟨by repeat (first | (with_reducible first | exact HB.out | apply below_alloc | apply pw_below_drewN | apply below_drew1) | exact HB.out)⟩⟩
                  case round =>
                    clear H'
                    try clear c1
                    try clear p2
                    try clear c4
                    try clear c4b0
                    try clear c5
                    try clear c5b0
                    try clear c6
                    try clear c6b0
                    try clear p6
                    try clear c7
                    try clear c10
                    try clear c10b0
                    try clear c11
                    try clear c11b0
                    try clear c11b1
                    try clear c12
                    try clear c12b0
                    try clear c12b1
                    try clear p2
                    try clear p6
                    obtain ⟨x9_3, x39_3, rfl, HA, HK3, HO_6, HO_9, HB⟩ := hrel
                    cases gk with
                    | zero => exact absurd HA.out (by simp [matrix_Cauchy.l1])
                    | succ k3 =>
                      have H := HA.out
                      clear HA
                      simp only [matrix_Cauchy.l1] at H
                      by_cases c15 : x39_3 < a0
                      · rw [if_pos c15] at H
                        have c15b0 : decide (x39_3 < a0) = true := decide_eq_true c15
                        clear c15
                        replace H := Option.bind_eq_some_iff.mp H
                        obtain ⟨⟨t108, t109⟩, A160, H⟩ := H
                        replace H : (if 0 ≤ x39_3 then (if x39_3 < (x9_3.length : Int) then (matrix_Cauchy.l1 k3 a0 a1 x6_2 x33_2 (x9_3.set (x39_3 : Int).toNat t108) a1 x33_2 a0 (wrap64 (x39_3 + 1))) else (none)) else (none)) = some (r1, r2) := H
                        have A16 := Aside0.mk A160
                        clear A160
                        by_cases c17 : 0 ≤ x39_3
                        · rw [if_pos c17] at H
                          have c17b0 : decide (0 ≤ x39_3) = true := decide_eq_true c17
                          clear c17
                          by_cases c18 : x39_3 < (x9_3.length : Int)
                          · rw [if_pos c18] at H
                            have c18b0 : decide (x39_3 < (x9_3.length : Int)) = true := decide_eq_true c18
                            clear c18
                            obtain ⟨y110, hy110⟩ : ∃ y_ : List Int, y_ = (x9_3.set (x39_3 : Int).toNat t108) := ⟨_, rfl⟩
                            replace H : (matrix_Cauchy.l1 k3 a0 a1 x6_2 x33_2 y110 a1 x33_2 a0 (wrap64 (x39_3 + 1))) = some (r1, r2) := by first | (rw [hy110]; with_reducible exact H) | (have H2_ := (Option.bind_some _ _).symm.trans H; rw [hy110]; with_reducible exact H2_) | (have H2_ := (Option.bind_some _ _).symm.trans H; with_reducible exact H2_) | with_reducible exact H | (rw [hy110]; exact H) | exact H
                            have Ny110 := Aside0.mk hy110
                            clear hy110
                            have H' := Aside0.mk H
                            clear H
                            go_wp2_with (first | ((with_reducible refine gate_callee (f := 28) rfl ?_); refine goesL_ (some 52) rfl rfl Try.func28 (by kernel_rfl) rfl #[.int .u8 (Go.bits .xor .u8 ((x33_2) % 256) ((wrap64 (a1 + x39_3)) % 256))] rfl (by (try simp only [List.map_toArray, List.map_cons, List.map_nil]); first | done | rfl | (simp only [List.length_drop, List.length_take]; rfl)) ?_; (with_reducible refine (gf_Inv.calls (Go.bits .xor .u8 ((x33_2) % 256) ((wrap64 (a1 + x39_3)) % 256)) t108 t109 _ A16.out).mono ?_); rintro e w20 ⟨rfl, hb⟩; refine ⟨_, rfl, ?_⟩; have n0_ := Aside0.mk (Kd.S_below (by (with_reducible repeat (first | apply Kd.S_alloc | apply Kd.S_drewN | apply Kd.S_drew)); exact HO_6.out) hb); have n1_ := Aside0.mk (Kd.R_below (by (with_reducible repeat (first | apply Kd.R_alloc | apply Kd.R_drewN | apply Kd.R_drew)); exact HO_9.out) hb); have n2_ := Aside0.mk (below_step (by repeat (first | (with_reducible first | exact HB.out | apply below_alloc | apply pw_below_drewN | apply below_drew1) | exact HB.out)) hb); clear HO_6; clear HO_9; clear HB; have HO_6 := n0_; have HO_9 := n1_; have HB := n2_; clear n0_ n1_ n2_; (try clear hb); (try clear hb2); (try clear hk); (try clear hi); have p19 : 0 ≤ (x39_3 : Int) := of_decide_eq_true (by first | (with_reducible assumption) | assumption); have q19 : (x39_3 : Int) < ((x9_3.length : Int) : Int) := of_decide_eq_true (by first | (with_reducible assumption) | assumption); obtain ⟨go19, co19, eo19, gb19, gl19, cl19, HG19⟩ := Kd.R_form HO_9.out (by omega); (first | cases eo19 | (injection eo19 with ea_ en_ ec_; (first | subst ea_ | (injection ea_ with ea_; subst ea_)); subst ec_; clear en_)); have GB19 := Aside0.mk gb19; have GG19 := Aside0.mk HG19; clear gb19 gl19 HG19; obtain ⟨hx19_0, hf19_0⟩ := Kd.R_celln 0 HO_9.out (x39_3 : Int) p19 q19; replace p19 := eq_true p19; replace q19 := eq_true q19; obtain ⟨hy21_, hz21_⟩ := Kd.R_celln 0 HO_9.out (x39_3 : Int) (of_decide_eq_true (by first | (with_reducible assumption) | assumption)) (of_decide_eq_true (by first | (with_reducible assumption) | assumption)); have HP21 := Kd.R_putg HO_9.out (x39_3 : Int) t108) | ((with_reducible refine gate_store (t := 5) (p := 55) rfl ?_); refine store_event (t := 5) (p := 55) (v := ?vo_w22) (w1 := (w20.setCell ⟨go19, (x39_3 : Int).toNat, none⟩ (.int .u8 t108))) ?hg ?ho ?hn ?hr ?_; (case ho => rfl); (case hg => rfl); (case hn => rfl); (case hr => first | (go_simp; done) | (go_simp; rfl)); intro w22 hw; have hg : w20.grownBy w22 (some go19) := (by rw [hw]; exact HP21.2); have hp_ : Kd.R (Kd.int .u8) 5 w22 w.heap.size (fun _ => True) (.slice (some ⟨go19, 0, none⟩) x9_3.length co19) y110 := (by rw [hw, Ny110.out]; exact HP21.1); clear HP21; have n0_ := Aside0.mk (Kd.S_after (v := (.slice (some ⟨go19, 0, none⟩) x9_3.length co19)) (v1 := (.slice (some ⟨go19, 0, none⟩) x9_3.length co19)) (ok := (fun _ => True)) (by (with_reducible repeat (first | apply Kd.S_alloc | apply Kd.S_drewN | apply Kd.S_drew)); exact Kd.S_mono HO_6.out (fun _ hk => ⟨trivial, hk⟩)) hg (.inl rfl)); have n1_ := Aside0.mk (hp_); have n2_ := Aside0.mk ((by rw [hw]; exact below_set (HB.out) GB19.out : Below w.heap.size w w22)); clear HO_6; clear HO_9; clear HB; have HO_6 := n0_; have HO_9 := n1_; have HB := n2_; clear n0_ n1_ n2_; clear hg hw hp_))
                            go_roundg k3
                            case measure => have := HJ2.out; have := HK2.out; have := HK3.out; omega
                            case rel => exact ⟨(y110), (wrap64 (x39_3 + 1)), (by first | rfl | (simp; done) | (simp [*]; done)), H', ⟨by have := HJ2.out; have := HK2.out; have := HK3.out; omega⟩, ⟨by (with_reducible repeat (first | apply Kd.S_alloc | apply Kd.S_drewN | apply Kd.S_drew)); exact Kd.S_mono HO_6.out (fun _ hk => hk.2)⟩, ⟨by (with_reducible repeat (first | apply Kd.R_alloc | apply Kd.R_drewN | apply Kd.R_drew)); exact HO_9.out⟩, ⟨by repeat (first | (with_reducible first | exact HB.out | apply below_alloc | apply pw_below_drewN | apply below_drew1) | exact HB.out)⟩⟩
                          · rw [if_neg c18] at H
                            exact absurd H (by simp)
                        · rw [if_neg c17] at H
                          exact absurd H (by simp)
                      · rw [if_neg c15] at H
                        have c15b0 : decide (x39_3 < a0) = false := decide_eq_false c15
                        clear c15
                        by_cases c23 : x6_2.length < 5864062014805
                        · rw [if_pos c23] at H
                          have LMc23 := Aside0.mk c23
                          clear c23
                          obtain ⟨y111, hy111⟩ : ∃ y_ : List (List Int), y_ = (x6_2 ++ [x9_3]) := ⟨_, rfl⟩
                          replace H : (matrix_Cauchy.l0 k3 a0 a1 y111 a1 (wrap64 (x33_2 + 1))) = some (r1, r2) := by first | (rw [hy111]; with_reducible exact H) | (have H2_ := (Option.bind_some _ _).symm.trans H; rw [hy111]; with_reducible exact H2_) | (have H2_ := (Option.bind_some _ _).symm.trans H; with_reducible exact H2_) | with_reducible exact H | (rw [hy111]; exact H) | exact H
                          have Ny111 := Aside0.mk hy111
                          clear hy111
                          have H' := Aside0.mk H
                          clear H
                          obtain ⟨Ao25, co25, eo25⟩ := Kd.R_slice HO_9.out
                          subst eo25
                          go_wp2_with (first | ((with_reducible refine gate_builtin (b := .append) (xs := #[.tmp 57, .tmp 59]) rfl ?_); at_builtin; refine Kd.S_append (Kd.slice 5 (Kd.int .u8)) (w0 := w) w.heap.size rfl (.tmp 57) (.tmp 59) 51 22 (.slice none 0 0) 24 rfl Try.underlying51 info22 rfl (by decide) (by omega) u6 x6_2 x9_3 [.slice Ao25 x9_3.length co25] (fun _ => True) (fun k_ => some k_ = (.slice Ao25 x9_3.length co25 : Value).ownBlock) rfl rfl ?aP (fun k_ hk_ => ((Kd.R_mono (ok' := fun k_ => ((fun _ => True)) k_ ∧ some k_ ≠ (u6 : Value).ownBlock) (Kd.R_apart' (HO_9.out) (Kd.S_typed HO_6.out) (by decide)) (fun k_ hk => ⟨trivial, hk.2⟩))).1 k_ hk_.symm) ?aF ?aO ?aB ?aS ?aL ?_; (case aP => exact Kd.M_row (Kd.R_mono (Kd.R_tight rfl (Kd.R_mono (ok' := fun k_ => ((fun _ => True)) k_ ∧ some k_ ≠ (u6 : Value).ownBlock) (Kd.R_apart' (HO_9.out) (Kd.S_typed HO_6.out) (by decide)) (fun k_ hk => ⟨trivial, hk.2⟩))) (fun _ h_ => h_))); (case aB => exact (by repeat (first | (with_reducible first | exact HB.out | apply below_alloc | apply pw_below_drewN | apply below_drew1) | exact HB.out))); (case aF => exact (fun _ _ => trivial)); (case aO => exact (by (with_reducible repeat (first | apply Kd.S_alloc | apply Kd.S_drewN | apply Kd.S_drew)); exact Kd.S_mono HO_6.out (fun k_ hk => ⟨trivial, fun e_ => hk e_⟩))); (case aS => exact (below_size (by repeat (first | (with_reducible first | exact HB.out | apply below_alloc | apply pw_below_drewN | apply below_drew1) | exact HB.out)))); (case aL => have := LMc23.out; omega); intro v112 w24 ho hb hg hat; rw [← Ny111.out] at ho; have n0_ := Aside0.mk (hb); have n1_ := Aside0.mk (ho); clear HB; clear HO_6; clear HO_9; have HB := n0_; have HO113 := n1_; clear n0_ n1_; clear ho hb hg hat))
                          go_roundg k3
                          case measure => have := HJ2.out; have := HK2.out; have := HK3.out; omega
                          case rel => exact ⟨(y111), (wrap64 (x33_2 + 1)), (by first | rfl | (simp; done) | (simp [*]; done)), H', ⟨by have := HJ2.out; have := HK2.out; have := HK3.out; omega⟩, ⟨by (with_reducible repeat (first | apply Kd.S_alloc | apply Kd.S_drewN | apply Kd.S_drew)); exact HO113.out⟩, ⟨by repeat (first | (with_reducible first | exact HB.out | apply below_alloc | apply pw_below_drewN | apply below_drew1) | exact HB.out)⟩⟩
                        · rw [if_neg c23] at H
                          exact absurd H (by simp)
                · rw [if_neg c12] at H
                  exact absurd H (by simp)
              · rw [if_neg c11] at H
                exact absurd H (by simp)
            · rw [if_neg c10] at H
              have c10b0 : decide (x33_2 < a1) = false := decide_eq_false c10
              clear c10
              simp only [Option.some.injEq, Prod.mk.injEq] at H
              obtain ⟨rfl, rfl⟩ := H
              go_wp2
              go_ret2
              exact ⟨_, by first | rfl | (simp [errW_none, errW_some] <;> rfl) | (simp [*, errW_none, errW_some] <;> rfl), by (with_reducible repeat (first | apply Kd.S_alloc | apply Kd.S_drewN | apply Kd.S_drew)); exact HO_6.out, by repeat (first | (with_reducible first | exact HB.out | apply below_alloc | apply pw_below_drewN | apply below_drew1) | exact HB.out)⟩
end Go.Proofs.Ytbogmlckbkogiaa.P
