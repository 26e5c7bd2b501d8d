/- Words and walks that the claim CodeTurns leans on (what it does not use is left out). -/
import Derived.Test.YtbogmlckbkogiaaMCodeTurns1
import Derived.Test.YtbogmlckbkogiaaMCodeTurns3
import Derived.Test.YtbogmlckbkogiaaMCodeTurns2
namespace Go.Proofs.Ytbogmlckbkogiaa.P
open Go.Proofs.Ytbogmlckbkogiaa.Leaf
open Go.RowKit Go.Proofs.YtbogmlckbkogiaaW.PrintWords Go.Proofs.YtbogmlckbkogiaaW.PrintLast Go.Proofs.YtbogmlckbkogiaaW.PrintMore
attribute [local go_sem] max2_int min2_int max_two min_two max_three min_three max_four min_four   -- for this text's walks alone
set_option linter.unusedVariables false
set_option linter.unusedSimpArgs false
def mooringref01_Dot.l0 : Nat → List Int → List Int → Int → Int → Option (Int × Bool)
  | 0, _, _, _, _ => none
  | k + 1, x0, x1, x6, x7 => if x7 < (x0.length : Int) then (if 0 ≤ x7 then (if x7 < (x1.length : Int) then ((mooringref01_Mul.f k (rd x0 x7) (rd x1 x7)).bind fun t103 => (mooringref01_Dot.l0 k x0 x1 (Go.bits .xor .u8 x6 t103) (wrap64 (x7 + 1)))) else (none)) else (none)) else (some (x6, true))
def mooringref01_Dot.f (k : Nat) (l0 : List Int) (l1 : List Int) : Option (Int × Bool) := if (l0.length : Int) = (l1.length : Int) then (mooringref01_Dot.l0 k l0 l1 0 0) else (some (0, false))
theorem mooringref01_Dot.mono_l : ∀ k, (∀ y0 y1 y2 y3, LeO (mooringref01_Dot.l0 k y0 y1 y2 y3) (mooringref01_Dot.l0 (k + 1) y0 y1 y2 y3))
  | 0 => fun _ _ _ _ r h => by simp [mooringref01_Dot.l0] at h
  | k + 1 => by
    have ih0 := mooringref01_Dot.mono_l k
    · intro y0 y1 y2 y3
      unfold mooringref01_Dot.l0
      repeat' first
      | (with_reducible exact ih0 _ _ _ _)
      | (with_reducible exact mooringref01_Mul.mono _ _ _)
      | (with_reducible exact LeO.refl _)
      | (with_reducible exact LeO.none _)
      | (with_reducible refine LeO.ite ?_ ?_)
      | (with_reducible refine LeO.bind ?_ (fun _ => ?_))
      | exact ih0 _ _ _ _
      | exact mooringref01_Mul.mono _ _ _
      | exact LeO.none _
      | refine LeO.ite ?_ ?_
      | refine LeO.bind ?_ (fun _ => ?_)
theorem mooringref01_Dot.mono : ∀ a0 a1 k, LeO (mooringref01_Dot.f k a0 a1) (mooringref01_Dot.f (k + 1) a0 a1) := by
  intro a0 a1 k
  have ih0 := mooringref01_Dot.mono_l k
  unfold mooringref01_Dot.f
  repeat' first
      | (with_reducible exact ih0 _ _ _ _)
      | (with_reducible exact mooringref01_Mul.mono _ _ _)
      | (with_reducible exact LeO.refl _)
      | (with_reducible exact LeO.none _)
      | (with_reducible refine LeO.ite ?_ ?_)
      | (with_reducible refine LeO.bind ?_ (fun _ => ?_))
      | exact ih0 _ _ _ _
      | exact mooringref01_Mul.mono _ _ _
      | exact LeO.none _
      | refine LeO.ite ?_ ?_
      | refine LeO.bind ?_ (fun _ => ?_)
end Go.Proofs.Ytbogmlckbkogiaa.P
namespace Go.Proofs.Ytbogmlckbkogiaa.P
open Go.Proofs.Ytbogmlckbkogiaa.Leaf
open Go.RowKit Go.Proofs.YtbogmlckbkogiaaW.PrintWords Go.Proofs.YtbogmlckbkogiaaW.PrintLast Go.Proofs.YtbogmlckbkogiaaW.PrintMore
attribute [local go_sem] max2_int min2_int max_two min_two max_three min_three max_four min_four   -- for this text's walks alone
set_option linter.unusedVariables false
set_option linter.unusedSimpArgs false
def mooringref01_Same.f (l0 : List Int) (l1 : List Int) : Option (Bool) := some ((strOfNums l0).toList == (strOfNums l1).toList)
end Go.Proofs.Ytbogmlckbkogiaa.P
namespace Go.Proofs.Ytbogmlckbkogiaa.Gf
open Go.RowKit Go.Proofs.YtbogmlckbkogiaaW.PrintWords Go.Proofs.Ytbogmlckbkogiaa.Leaf Go.Proofs.Ytbogmlckbkogiaa.P
/-- The numbers of a list of bytes. -/
def ofL (L : List B) : List Int := L.map ofB
/-- The byte at a place, nought behind the end. -/
def at0 (L : List B) (i : Nat) : B := L.getD i 0#8
theorem ofL_length (L : List B) : (ofL L).length = L.length := List.length_map _
theorem rd_ofL (L : List B) (i : Nat) : rd (ofL L) (i : Int) = ofB (at0 L i) := by
  unfold rd ofL at0
  simp only [List.getD_eq_getElem?_getD, List.getElem?_map, Int.toNat_natCast]
  cases L[i]? <;> rfl
theorem row_of {l : List Int} (h : ∀ x ∈ l, (Lit.int .u8 x).wf = true) : ∃ L : List B, l = ofL L := by
  refine ⟨l.map toB, ?_⟩
  unfold ofL
  rw [List.map_map]
  refine (List.map_id' l).symm.trans (List.map_congr_left fun x hx => ?_)
  have h1 : 0 ≤ x ∧ x ≤ 255 := by simpa [Lit.wf, IntKind.min, IntKind.max, IntKind.signed, IntKind.bits] using h x hx
  exact (ofB_toB x h1.1 (by omega)).symm
theorem ofL_set (L : List B) (i : Nat) (b : B) : (ofL L).set i (ofB b) = ofL (L.set i b) := by unfold ofL; rw [List.map_set]
theorem ofL_replicate (n : Nat) : List.replicate n (0 : Int) = ofL (List.replicate n 0#8) := by unfold ofL; rw [List.map_replicate]; rfl
/-- The row of `a + s * b`, its first `n` places done. -/
def am (L M : List B) (s : B) (n : Nat) : List B := (List.range L.length).map fun j => if j < n then at0 L j ^^^ mul (at0 M j) s else 0#8
theorem am_length (L M : List B) (s : B) (n : Nat) : (am L M s n).length = L.length := by unfold am; rw [List.length_map, List.length_range]
theorem at0_am (L M : List B) (s : B) (n j : Nat) (hj : j < L.length) : at0 (am L M s n) j = if j < n then at0 L j ^^^ mul (at0 M j) s else 0#8 := by
  unfold am
  show ((List.range L.length).map _).getD j 0#8 = _
  rw [List.getD_eq_getElem?_getD, List.getElem?_map, List.getElem?_range hj]
  rfl
theorem ext0 {L M : List B} (hl : L.length = M.length) (h : ∀ j, j < L.length → at0 L j = at0 M j) : L = M := by
  refine List.ext_getElem hl fun j h1 h2 => ?_
  have := h j h1
  unfold at0 at this
  simpa [List.getD_eq_getElem?_getD, h1, h2] using this
theorem at0_set (L : List B) (i j : Nat) (b : B) (hi : i < L.length) : at0 (L.set i b) j = if i = j then b else at0 L j := by
  unfold at0
  simp only [List.getD_eq_getElem?_getD, List.getElem?_set]
  by_cases h : i = j
  · subst h; simp [hi]
  · simp [h]
theorem am_set (L M : List B) (s : B) (i : Nat) (hi : i < L.length) : (am L M s i).set i (at0 L i ^^^ mul (at0 M i) s) = am L M s (i + 1) := by
  refine ext0 (by rw [List.length_set, am_length, am_length]) fun j hj => ?_
  rw [List.length_set, am_length] at hj
  rw [at0_set _ _ _ _ (by rw [am_length]; exact hi), at0_am _ _ _ _ _ hj, at0_am _ _ _ _ _ hj]
  by_cases h : i = j
  · subst h; rw [if_pos rfl, if_pos (by omega)]
  · rw [if_neg h]
    by_cases h2 : j < i
    · rw [if_pos h2, if_pos (by omega)]
    · rw [if_neg h2, if_neg (by omega)]
theorem am_zero (L M : List B) (s : B) : List.replicate L.length 0#8 = am L M s 0 := by
  refine ext0 (by rw [List.length_replicate, am_length]) fun j hj => ?_
  rw [List.length_replicate] at hj
  rw [at0_am _ _ _ _ _ hj, if_neg (by omega)]
  unfold at0
  simp [List.getD_eq_getElem?_getD, hj]
theorem gfAddMul_l0 (L M : List B) (s : B) (hL : L.length = M.length) (hs : L.length < 2 ^ 62) (n : Nat) : ∀ i : Nat, i + n = L.length → Ev (fun k => gf_AddMul.l0 k (ofL L) (ofL M) (ofB s) (ofL (am L M s i)) (L.length : Int) (i : Int)) (ofL (am L M s L.length), true) := by
  induction n with
  | zero =>
    intro i hi
    refine Ev.step (f := fun _ => some (ofL (am L M s i), true)) (fun k => ?_) ?_
    · simp only [gf_AddMul.l0]
      rw [if_neg (by omega)]
    · rw [show i = L.length by omega]
      exact Ev.now _
  | succ n ih =>
    intro i hi
    refine Ev.step (f := fun k => gf_AddMul.l0 k (ofL L) (ofL M) (ofB s) (ofL (am L M s (i + 1))) (L.length : Int) ((i + 1 : Nat) : Int)) (fun k => ?_) (ih (i + 1) (by omega))
    simp only [gf_AddMul.l0, ofL_length, am_length]
    rw [if_pos (by omega), if_pos (by omega), if_pos (by omega), if_pos (by omega), rd_ofL, rd_ofL, gfMul_eq, Option.bind_some, if_pos (by omega), xor_ofB, Int.toNat_natCast, ofL_set, am_set _ _ _ _ (by omega), w64 _ (by omega) (by omega)]
    rfl
def addMulB (L M : List B) (s : B) : List Int × Bool := if L.length = M.length then (ofL (am L M s L.length), true) else ([], false)
theorem gfAddMul (L M : List B) (s : B) (hs : L.length < 2 ^ 48) : Ev (fun k => gf_AddMul.f k (ofL L) (ofL M) (ofB s)) (addMulB L M s) := by
  unfold gf_AddMul.f addMulB
  simp only [ofL_length]
  by_cases h : L.length = M.length
  · simp only [show ((L.length : Int) = (M.length : Int)) = True from eq_true (by omega), show (0 ≤ (L.length : Int)) = True from eq_true (by omega), if_true, if_pos h]
    simp only [Int.toNat_natCast, show (L.length ≤ 281474976710656) = True from eq_true (by omega), if_true, Option.bind_some, Int.toNat_natCast, List.length_replicate]
    rw [ofL_replicate, am_zero L M s]
    exact gfAddMul_l0 L M s h (by omega) L.length 0 (by omega)
  · simp only [show ((L.length : Int) = (M.length : Int)) = False from eq_false (by omega), if_false, if_neg h]
    exact Ev.now _
end Go.Proofs.Ytbogmlckbkogiaa.Gf
namespace Go.Proofs.Ytbogmlckbkogiaa.H
open Go.RowKit Go.Proofs.YtbogmlckbkogiaaW.PrintWords Go.Proofs.Ytbogmlckbkogiaa.Leaf
set_option linter.unusedVariables false
/-- A row of bytes at the head of a block of the call's own. -/
def Rw (w : World) (base id cap : Nat) (r : List Int) : Prop := w.ownsRow base 5 1 (.slice (some ⟨id, 0, none⟩) r.length cap) r.length (encs (Value.int .u8) r)
/-- The slice that leads to row `i`. -/
def sl (id cap : Nat → Nat) (A : List (List Int)) (i : Nat) : Value := .slice (some ⟨id i, 0, none⟩) (A.getD i []).length (cap i)
def up (f : Nat → Nat) (i x : Nat) : Nat → Nat := fun k => if k = i then x else f k
def tw (f : Nat → Nat) (i j : Nat) : Nat → Nat := fun k => if k = j then f i else if k = i then f j else f k
def swapL (A : List (List Int)) (i j : Nat) : List (List Int) := (A.set i (A.getD j [])).set j (A.getD i [])
theorem getD_set (A : List (List Int)) (i k : Nat) (r : List Int) (hi : i < A.length) : (A.set i r).getD k [] = if k = i then r else A.getD k [] := by
  simp only [List.getD_eq_getElem?_getD, List.getElem?_set]
  by_cases h : k = i
  · subst h; simp [hi]
  · simp [h, Ne.symm h]
theorem swapL_length (A : List (List Int)) (i j : Nat) : (swapL A i j).length = A.length := by simp [swapL]
theorem getD_swapL (A : List (List Int)) (i j k : Nat) (hi : i < A.length) (hj : j < A.length) : (swapL A i j).getD k [] = if k = j then A.getD i [] else if k = i then A.getD j [] else A.getD k [] := by
  unfold swapL
  rw [getD_set _ _ _ _ (by simpa using hj), getD_set _ _ _ _ hi]
structure Mt (w : World) (base g cp : Nat) (id cap : Nat → Nat) (A : List (List Int)) : Prop where
  outer : w.ownsRow base 22 1 (.slice (some ⟨g, 0, none⟩) A.length cp) A.length (encs (sl id cap A) (List.range A.length))
  rows : ∀ i, i < A.length → Rw w base (id i) (cap i) (A.getD i [])
  inj : ∀ i j, i < A.length → j < A.length → id i = id j → i = j
section
variable {w w1 : World} {base g cp b c : Nat} {id cap : Nat → Nat} {A : List (List Int)} {r : List Int}
theorem Rw.typed (h : Rw w base b c r) : ∃ cells, w.heap[b]? = some (.cells cells 5 (0, 0)) := own_typed h b rfl
theorem Rw.base_ (h : Rw w base b c r) : base ≤ b := own_base h b rfl
theorem Rw.lt (h : Rw w base b c r) : b < w.heap.size := own_lt h b rfl
theorem Rw.far (h : Rw w base b c r) {p : Addr} (hp : p.block ≠ b) (u : Value) : Rw (w.setCell p u) base b c r := own_setCell h (by simp [Value.ownBlock, hp]) u
theorem Rw.put (h : Rw w base b c r) (j : Nat) (x : Int) : Rw (w.setCell ⟨b, j, none⟩ (.int .u8 x)) base b c (r.set j x) := by
  have := (h.stored j (.int .u8 x)).1
  unfold Rw
  rw [List.length_set, show encs (Value.int .u8) (r.set j x) = (encs (Value.int .u8) r).set j (.int .u8 x) by simp [encs, List.map_set]]
  exact this
theorem Rw.cell (h : Rw w base b c r) (j : Nat) (hj : j < r.length) : w.cell? ⟨b, j, none⟩ = some (.int .u8 (rd r (j : Int))) ∧ w.frozen? ⟨b, j, none⟩ = false := by
  have := own_at_of (d := 0) h (j : Int) (by omega) (by omega)
  simpa [rdOf, rd] using this
theorem Rw.reads (h : Rw w base b c r) : Kd.C (Kd.int .u8) w (some ⟨b, 0, none⟩) r.length r ∧ r.length ≤ c := by
  have hR : Kd.R (Kd.int .u8) 5 w base (fun _ => True) (.slice (some ⟨b, 0, none⟩) r.length c) r := Kd.R_of_own h (fun _ _ => trivial)
  exact ⟨(Kd.R_reads' hR).2.2, (Kd.R_reads' hR).2.1⟩
theorem Rw.of_R {v : Value} (h : Kd.R (Kd.int .u8) 5 w base (fun _ => True) v r) (hp : 0 < r.length) : ∃ b c, v = .slice (some ⟨b, 0, none⟩) r.length c ∧ Rw w base b c r := by
  obtain ⟨g, cap, rfl, _⟩ := Kd.R_form h hp
  exact ⟨g, cap, rfl, Kd.own_of_R h⟩
theorem Mt.typed (h : Mt w base g cp id cap A) : ∃ cells, w.heap[g]? = some (.cells cells 22 (0, 0)) := own_typed h.outer g rfl
theorem Mt.gbase (h : Mt w base g cp id cap A) : base ≤ g := own_base h.outer g rfl
theorem Mt.glt (h : Mt w base g cp id cap A) : g < w.heap.size := own_lt h.outer g rfl
theorem Mt.ne (h : Mt w base g cp id cap A) (h2 : Rw w base b c r) : b ≠ g := by
  obtain ⟨cs, hc⟩ := h.typed
  obtain ⟨cs', hc'⟩ := h2.typed
  rintro rfl
  rw [hc] at hc'
  simp at hc'
theorem Mt.at_ (h : Mt w base g cp id cap A) (i : Nat) (hi : i < A.length) : w.cell? ⟨g, i, none⟩ = some (sl id cap A i) ∧ w.frozen? ⟨g, i, none⟩ = false := by
  have := own_at_of (d := 0) h.outer (i : Int) (by omega) (by omega)
  simpa [rdOf, List.getD_eq_getElem?_getD, List.getElem?_range hi] using this
theorem Mt.move (h : Mt w base g cp id cap A) (hm : ∀ k, (k = g ∨ ∃ i, i < A.length ∧ k = id i) → w1.heap[k]? = w.heap[k]?) : Mt w1 base g cp id cap A :=
  ⟨own_move h.outer (fun k hk => hm k (.inl (by simpa [Value.ownBlock] using hk.symm))), fun i hi => own_move (h.rows i hi) (fun k hk => hm k (.inr ⟨i, hi, by simpa [Value.ownBlock] using hk.symm⟩)), h.inj⟩
theorem Mt.lt (h : Mt w base g cp id cap A) (k : Nat) (hk : k = g ∨ ∃ i, i < A.length ∧ k = id i) : k < w.heap.size ∧ base ≤ k := by
  rcases hk with rfl | ⟨i, hi, rfl⟩
  · exact ⟨h.glt, h.gbase⟩
  · exact ⟨(h.rows i hi).lt, (h.rows i hi).base_⟩
theorem Mt.below (h : Mt w base g cp id cap A) (hb : Below w.heap.size w w1) : Mt w1 base g cp id cap A := h.move (fun k hk => hb.block k (h.lt k hk).1)
theorem Mt.far (h : Mt w base g cp id cap A) {p : Addr} (h0 : p.block ≠ g) (h1 : ∀ i, i < A.length → p.block ≠ id i) (u : Value) : Mt (w.setCell p u) base g cp id cap A :=
  h.move (fun k hk => Below.heap_setCell w p u k (by rcases hk with rfl | ⟨i, hi, rfl⟩; exact Ne.symm h0; exact Ne.symm (h1 i hi)))
theorem Mt.put (h : Mt w base g cp id cap A) (i : Nat) (hi : i < A.length) (j : Nat) (x : Int) : Mt (w.setCell ⟨id i, j, none⟩ (.int .u8 x)) base g cp id cap (A.set i ((A.getD i []).set j x)) := by
  have hsl : ∀ k, sl id cap (A.set i ((A.getD i []).set j x)) k = sl id cap A k := by
    intro k
    unfold sl
    rw [getD_set _ _ _ _ hi]
    by_cases hk : k = i
    · subst hk; rw [if_pos rfl, List.length_set]
    · rw [if_neg hk]
  refine ⟨?_, fun k hk => ?_, fun k l hk hl => h.inj k l (by simpa using hk) (by simpa using hl)⟩
  · rw [List.length_set, show encs (sl id cap (A.set i ((A.getD i []).set j x))) (List.range A.length) = encs (sl id cap A) (List.range A.length) from List.map_congr_left fun k _ => hsl k]
    exact own_setCell h.outer (by simp [Value.ownBlock, h.ne (h.rows i hi)]) _
  · rw [List.length_set] at hk
    rw [getD_set _ _ _ _ hi]
    by_cases e : k = i
    · subst e; rw [if_pos rfl]; exact (h.rows k hk).put j x
    · rw [if_neg e]; exact (h.rows k hk).far (fun e2 => e (h.inj k i hk hi e2.symm)) _
theorem encs_set {enc enc' : Nat → Value} {n i : Nat} {u : Value} (hi : i < n) (hu : enc' i = u) (hne : ∀ k, k < n → k ≠ i → enc' k = enc k) : (encs enc (List.range n)).set i u = encs enc' (List.range n) := by
  unfold encs
  refine List.ext_getElem (by simp) fun k h1 h2 => ?_
  simp only [List.length_set, List.length_map, List.length_range] at h1
  rw [List.getElem_set]
  by_cases e : i = k
  · subst e; simp [hu]
  · simp [e, hne k h1 (fun e2 => e e2.symm)]
theorem Mt.setRow (h : Mt w base g cp id cap A) (i : Nat) (hi : i < A.length) (hr : Rw w base b c r) (hb : ∀ k, k < A.length → k ≠ i → id k ≠ b) :
    Mt (w.setCell ⟨g, i, none⟩ (.slice (some ⟨b, 0, none⟩) r.length c)) base g cp (up id i b) (up cap i c) (A.set i r) := by
  have hbg := h.ne hr
  have h1 : sl (up id i b) (up cap i c) (A.set i r) i = .slice (some ⟨b, 0, none⟩) r.length c := by unfold sl up; rw [getD_set _ _ _ _ hi]; simp
  have h2 : ∀ k, k ≠ i → sl (up id i b) (up cap i c) (A.set i r) k = sl id cap A k := by intro k hk; unfold sl up; rw [getD_set _ _ _ _ hi]; simp [hk]
  refine ⟨?_, fun k hk => ?_, fun k l hk hl => ?_⟩
  · rw [List.length_set, ← encs_set (enc := sl id cap A) hi h1 (fun k _ hk => h2 k hk)]
    exact (h.outer.stored i _).1
  · rw [List.length_set] at hk
    rw [getD_set _ _ _ _ hi]
    unfold up
    by_cases e : k = i
    · rw [if_pos e, if_pos e, if_pos e]; exact hr.far (Ne.symm hbg) _
    · rw [if_neg e, if_neg e, if_neg e]; exact (h.rows k hk).far (Ne.symm (h.ne (h.rows k hk))) _
  · rw [List.length_set] at hk hl
    unfold up
    by_cases e : k = i <;> by_cases e2 : l = i
    · intro _; rw [e, e2]
    · rw [if_pos e, if_neg e2]; intro h3; exact absurd h3.symm (hb l hl e2)
    · rw [if_neg e, if_pos e2]; intro h3; exact absurd h3 (hb k hk e)
    · rw [if_neg e, if_neg e2]; exact h.inj k l hk hl
theorem Mt.swap (h : Mt w base g cp id cap A) (i j : Nat) (hi : i < A.length) (hj : j < A.length) :
    Mt ((w.setCell ⟨g, i, none⟩ (sl id cap A j)).setCell ⟨g, j, none⟩ (sl id cap A i)) base g cp (tw id i j) (tw cap i j) (swapL A i j) := by
  have hs : ∀ k, sl (tw id i j) (tw cap i j) (swapL A i j) k = if k = j then sl id cap A i else if k = i then sl id cap A j else sl id cap A k := by
    intro k
    unfold sl tw
    rw [getD_swapL _ _ _ _ hi hj]
    by_cases e : k = j
    · simp [e]
    · by_cases e2 : k = i
      · subst e2; simp [e]
      · simp [e, e2]
  have h1 := h.outer.stored i (sl id cap A j)
  have h2 := h1.1.stored j (sl id cap A i)
  refine ⟨?_, fun k hk => ?_, fun k l hk hl => ?_⟩
  · rw [swapL_length]
    have e : ((encs (sl id cap A) (List.range A.length)).set i (sl id cap A j)).set j (sl id cap A i) = encs (sl (tw id i j) (tw cap i j) (swapL A i j)) (List.range A.length) := by
      rw [encs_set (enc := sl id cap A) (enc' := fun k => if k = i then sl id cap A j else sl id cap A k) hi (by simp) (fun k _ hk => by simp [hk]),
        encs_set (enc' := sl (tw id i j) (tw cap i j) (swapL A i j)) hj (by rw [hs]; simp) (fun k _ hk => by rw [hs]; simp [hk])]
    rw [← e]
    exact h2.1
  · rw [swapL_length] at hk
    have far : ∀ m, m < A.length → Rw ((w.setCell ⟨g, i, none⟩ (sl id cap A j)).setCell ⟨g, j, none⟩ (sl id cap A i)) base (id m) (cap m) (A.getD m []) := by
      intro m hm
      have hne := Ne.symm (h.ne (h.rows m hm))
      exact ((h.rows m hm).far hne _).far hne _
    rw [getD_swapL _ _ _ _ hi hj]
    unfold tw
    by_cases e : k = j
    · rw [if_pos e, if_pos e, if_pos e]; exact far i hi
    · rw [if_neg e, if_neg e, if_neg e]
      by_cases e2 : k = i
      · rw [if_pos e2, if_pos e2, if_pos e2]; exact far j hj
      · rw [if_neg e2, if_neg e2, if_neg e2]; exact far k hk
  · rw [swapL_length] at hk hl
    intro h3
    unfold tw at h3
    by_cases e : k = j <;> by_cases e2 : l = j
    · omega
    · rw [if_pos e, if_neg e2] at h3
      by_cases e3 : l = i
      · rw [if_pos e3] at h3; have := h.inj i j hi hj h3; omega
      · rw [if_neg e3] at h3; have := h.inj i l hi hl h3; omega
    · rw [if_neg e, if_pos e2] at h3
      by_cases e3 : k = i
      · rw [if_pos e3] at h3; have := h.inj j i hj hi h3; omega
      · rw [if_neg e3] at h3; have := h.inj k i hk hi h3; omega
    · rw [if_neg e, if_neg e2] at h3
      by_cases e3 : k = i <;> by_cases e4 : l = i
      · omega
      · rw [if_pos e3, if_neg e4] at h3; have := h.inj j l hj hl h3; omega
      · rw [if_neg e3, if_pos e4] at h3; have := h.inj k j hk hj h3; omega
      · rw [if_neg e3, if_neg e4] at h3; exact h.inj k l hk hl h3
theorem Mt.of_S {ok : Nat → Prop} {v : Value} (h : Kd.S (Kd.slice 5 (Kd.int .u8)) 22 w base ok v A) (h0 : 0 < A.length) (hr : ∀ i, i < A.length → 0 < (A.getD i []).length) :
    ∃ g cp id cap, v = .slice (some ⟨g, 0, none⟩) A.length cp ∧ Mt w base g cp id cap A ∧ ok g ∧ ∀ i, i < A.length → ok (id i) := by
  obtain ⟨g, cp, hv, _⟩ := Kd.S_form h h0
  obtain ⟨f, hok, inner, ho, hrp⟩ := h
  rw [List.length_zipIdx] at ho
  have hl : inner.length = A.length := by have := ho.1; rw [show (Kd.tag f (Kd.slice 5 (Kd.int .u8))).sz = 1 from rfl] at this; omega
  have key : ∀ i, i < A.length → ∃ b c, inner[i]? = some (.slice (some ⟨b, 0, none⟩) (A.getD i []).length c) ∧ Rw w base b c (A.getD i []) ∧ f b = i ∧ ok b := by
    intro i hi
    have hAi : A[i]? = some (A.getD i []) := by rw [List.getD_eq_getElem?_getD, List.getElem?_eq_getElem hi]; rfl
    obtain ⟨vi, hc, hR⟩ := hrp.2 i (A.getD i [], i) (Kd.zip_at hAi)
    obtain ⟨b, c, rfl, hb⟩ := Kd.R_form hR (hr i hi)
    have hci : (inner.drop i).take 1 = [.slice (some ⟨b, 0, none⟩) (A.getD i []).length c] := by simpa [Kd.tag, Kd.slice] using hc
    refine ⟨b, c, ?_, Kd.own_of_R hR, ?_, ?_⟩
    · have := congrArg (fun l => l[0]?) hci
      simpa [List.getElem?_take, List.getElem?_drop] using this
    · exact (hR.1 b rfl).2
    · exact (hR.1 b rfl).1.1
  let id : Nat → Nat := fun i => if hi : i < A.length then (key i hi).choose else 0
  let cap : Nat → Nat := fun i => if hi : i < A.length then (key i hi).choose_spec.choose else 0
  have kid : ∀ i, i < A.length → inner[i]? = some (.slice (some ⟨id i, 0, none⟩) (A.getD i []).length (cap i)) ∧ Rw w base (id i) (cap i) (A.getD i []) ∧ f (id i) = i ∧ ok (id i) := by
    intro i hi
    have := (key i hi).choose_spec.choose_spec
    simp only [id, cap, hi, dite_true]
    exact this
  subst hv
  refine ⟨g, cp, id, cap, rfl, ⟨?_, fun i hi => (kid i hi).2.1, fun i j hi hj e => ?_⟩, hok g rfl, fun i hi => (kid i hi).2.2.2⟩
  · have e : inner = encs (sl id cap A) (List.range A.length) := by
      unfold encs
      refine List.ext_getElem? fun i => ?_
      by_cases hi : i < A.length
      · rw [(kid i hi).1, List.getElem?_map, List.getElem?_range hi]
        rfl
      · rw [List.getElem?_eq_none (by omega), List.getElem?_eq_none (by simp; omega)]
    rw [← e]
    exact ho
  · have h1 := (kid i hi).2.2.1
    have h2 := (kid j hj).2.2.1
    rw [e] at h1
    omega
theorem Mt.to_S (h : Mt w base g cp id cap A) : Kd.S (Kd.slice 5 (Kd.int .u8)) 22 w base (fun k => k = g ∨ ∃ i, i < A.length ∧ k = id i) (.slice (some ⟨g, 0, none⟩) A.length cp) A := by
  refine ⟨fun k => ((List.range A.length).find? fun i => id i == k).getD 0, fun k hk => .inl (by simpa [Value.ownBlock] using hk.symm), encs (sl id cap A) (List.range A.length), ?_, ?_⟩
  · rw [List.length_zipIdx]; exact h.outer
  · refine ⟨by show (encs (sl id cap A) (List.range A.length)).length = A.zipIdx.length * 1; simp [encs], fun j p hj => ?_⟩
    have hj' : A.zipIdx[j]? = some p := hj
    rw [List.getElem?_zipIdx] at hj'
    obtain ⟨r, hr, rfl⟩ := Option.map_eq_some_iff.1 hj'
    have hlt : j < A.length := (List.getElem?_eq_some_iff.1 hr).1
    have hrD : A.getD j [] = r := by rw [List.getD_eq_getElem?_getD, hr]; rfl
    refine ⟨sl id cap A j, ?_, ?_⟩
    · show ((encs (sl id cap A) (List.range A.length)).drop (j * 1)).take 1 = _
      rw [Nat.mul_one]
      refine List.ext_getElem? fun k => ?_
      cases k with
      | zero => simp [encs, List.getElem?_drop, List.getElem?_range hlt]
      | succ k => simp [List.getElem?_take]
    · unfold sl
      rw [hrD]
      have hro := h.rows j hlt
      rw [hrD] at hro
      refine Kd.R_of_own hro fun k hk => ?_
      have hk' : k = id j := by simpa [Value.ownBlock] using hk.symm
      subst hk'
      refine ⟨⟨.inr ⟨j, hlt, rfl⟩, ?_⟩, ?_⟩
      · simp only [Value.ownBlock]
        intro e
        exact h.ne hro (Option.some.inj e)
      · show ((List.range A.length).find? fun i => id i == id j).getD 0 = 0 + j
        have : (List.range A.length).find? (fun i => id i == id j) = some j := by
          rw [List.find?_range_eq_some]
          refine ⟨by simp, by simpa using hlt, fun i hi => ?_⟩
          have : id i ≠ id j := fun e => by have := h.inj i j (by omega) hlt e; omega
          simpa using this
        rw [this]
        simp
end
end Go.Proofs.Ytbogmlckbkogiaa.H
namespace Go.Proofs.Ytbogmlckbkogiaa.H
open Go.RowKit Go.Proofs.YtbogmlckbkogiaaW.PrintWords Go.Proofs.Ytbogmlckbkogiaa.Leaf
set_option linter.unusedVariables false
set_option maxRecDepth 100000 in
theorem pred_calls (b cp : Nat) (r : List Int) (c : Nat) (q : Addr) (w : World) (base : Nat) (hr : Rw w base b cp r) (hc : c < r.length) (hq : w.cell? q = some (.int .i64 (c : Int))) :
    Calls Try.prog 100 #[.slice (some ⟨b, 0, none⟩) r.length cp, .pointer (some q)] w fun e w' => e = .returned (.bool (rd r (c : Int) != 0)) ∧ Below w.heap.size w w' := by
  obtain ⟨h1, h2⟩ := hr.cell c hc
  have hlt : (c : Int) < (r.length : Int) := by omega
  have h0 : (0 : Int) ≤ (c : Int) := by omega
  clear hr
  go_enter Try.func100, Try.ntmps100
  go_wp2
  go_ret
  exact ⟨rfl, Below.refl _ _⟩
end Go.Proofs.Ytbogmlckbkogiaa.H
namespace Go.Proofs.Ytbogmlckbkogiaa.Red
open Go.RowKit Go.Proofs.YtbogmlckbkogiaaW.PrintWords Go.Proofs.Ytbogmlckbkogiaa.Leaf Go.Proofs.Ytbogmlckbkogiaa.Gf Go.Proofs.Ytbogmlckbkogiaa.H
abbrev Mat := List (List B)
def row (A : Mat) (i : Nat) : List B := A.getD i []
def el (A : Mat) (i j : Nat) : B := at0 (row A i) j
def swapM (A : Mat) (i j : Nat) : Mat := (A.set i (row A j)).set j (row A i)
/-- A row's places from `j` on, times `v`. -/
def scF (v : B) : Nat → Nat → List B → List B
  | 0, _, r => r
  | n + 1, j, r => scF v n (j + 1) (r.set j (mul (at0 r j) v))
def scale (v : B) (r : List B) : List B := scF v r.length 0 r
/-- The rows from `i` on, the one at `d` taken off so often that column `c` is nought there. -/
def elF (c d : Nat) : Nat → Nat → Mat → Mat → Mat × Mat
  | 0, _, A, Z => (A, Z)
  | n + 1, i, A, Z => if i ≠ d ∧ el A i c ≠ 0#8 then elF c d n (i + 1) (A.set i (am (row A i) (row A d) (el A i c) (row A i).length)) (Z.set i (am (row Z i) (row Z d) (el A i c) (row Z i).length)) else elF c d n (i + 1) A Z
/-- One column's step: the row at `t` is the pivot. -/
def stepF (c d t : Nat) (A Z : Mat) : Mat × Mat :=
  let A1 := swapM A t d
  let Z1 := swapM Z t d
  let v := inv (el A1 d c)
  let A2 := A1.set d (scale v (row A1 d))
  let Z2 := Z1.set d (scale v (row Z1 d))
  elF c d A2.length 0 A2 Z2
/-- Where the pivot is, counted from `d` on; -1 if there is none. -/
def pivot (A : Mat) (d c : Nat) : Int := firstP (fun j => rd (ofL (row A (d + j))) (c : Int) != 0) (A.length - d)
def redF : Nat → Nat → Nat → Mat → Mat → Nat × Mat × Mat
  | 0, _, d, A, Z => (d, A, Z)
  | n + 1, c, d, A, Z => if pivot A d c < 0 then redF n (c + 1) d A Z else
      if d + 1 = A.length then (d + 1, stepF c d ((pivot A d c).toNat + d) A Z) else redF n (c + 1) (d + 1) (stepF c d ((pivot A d c).toNat + d) A Z).1 (stepF c d ((pivot A d c).toNat + d) A Z).2
/-- All rows of one length. -/
def Reg (A : Mat) (n m : Nat) : Prop := A.length = n ∧ ∀ i, i < n → (row A i).length = m
theorem row_set (A : Mat) (i k : Nat) (r : List B) (hi : i < A.length) : row (A.set i r) k = if k = i then r else row A k := by
  unfold row
  simp only [List.getD_eq_getElem?_getD, List.getElem?_set]
  by_cases h : k = i
  · subst h; simp [hi]
  · simp [h, Ne.symm h]
theorem Reg.set {A : Mat} {n m : Nat} (h : Reg A n m) {i : Nat} (hi : i < n) {r : List B} (hr : r.length = m) : Reg (A.set i r) n m := by
  refine ⟨by rw [List.length_set]; exact h.1, fun k hk => ?_⟩
  rw [row_set _ _ _ _ (by rw [h.1]; exact hi)]
  by_cases e : k = i
  · rw [if_pos e]; exact hr
  · rw [if_neg e]; exact h.2 k hk
theorem Reg.swap {A : Mat} {n m : Nat} (h : Reg A n m) {i j : Nat} (hi : i < n) (hj : j < n) : Reg (swapM A i j) n m := (h.set hi (h.2 j hj)).set hj (h.2 i hi)
theorem map_getD (A : Mat) (i : Nat) : (A.map ofL).getD i [] = ofL (row A i) := by
  unfold row
  simp only [List.getD_eq_getElem?_getD, List.getElem?_map]
  cases A[i]? <;> rfl
theorem map_set (A : Mat) (i : Nat) (r : List B) : (A.map ofL).set i (ofL r) = (A.set i r).map ofL := by rw [List.map_set]
theorem map_swap (A : Mat) (i j : Nat) : swapL (A.map ofL) i j = (swapM A i j).map ofL := by
  unfold swapL swapM
  rw [map_getD, map_getD, map_set, map_set]
theorem scF_length (v : B) (n : Nat) : ∀ (j : Nat) (r : List B), (scF v n j r).length = r.length := by
  induction n with
  | zero => intro j r; rfl
  | succ n ih => intro j r; simp only [scF]; rw [ih, List.length_set]
theorem scale_length (v : B) (r : List B) : (scale v r).length = r.length := scF_length _ _ _ _
end Go.Proofs.Ytbogmlckbkogiaa.Red
namespace Go.Proofs.Ytbogmlckbkogiaa.Mx
open Go.Proofs.Ytbogmlckbkogiaa.Gf
set_option linter.unusedVariables false
abbrev Fm := Nat → Nat → B
/-- The sum of the first n. -/
def sm : Nat → (Nat → B) → B
  | 0, _ => 0#8
  | n + 1, f => sm n f ^^^ f n
theorem sm_congr {n : Nat} {f g : Nat → B} (h : ∀ i, i < n → f i = g i) : sm n f = sm n g := by
  induction n with
  | zero => rfl
  | succ n ih => simp only [sm]; rw [ih (fun i hi => h i (by omega)), h n (by omega)]
theorem sm_zero {n : Nat} {f : Nat → B} (h : ∀ i, i < n → f i = 0#8) : sm n f = 0#8 := by
  induction n with
  | zero => rfl
  | succ n ih => simp only [sm]; rw [ih (fun i hi => h i (by omega)), h n (by omega)]; rfl
theorem sm_add (n : Nat) (f g : Nat → B) : sm n (fun i => f i ^^^ g i) = sm n f ^^^ sm n g := by
  induction n with
  | zero => simp [sm]
  | succ n ih => simp only [sm]; rw [ih, xor_swap4]
theorem sm_mulL (n : Nat) (c : B) (f : Nat → B) : sm n (fun i => mul c (f i)) = mul c (sm n f) := by
  induction n with
  | zero => exact (mul_zero c).symm
  | succ n ih => simp only [sm]; rw [ih, mul_add]
theorem sm_mulR (n : Nat) (c : B) (f : Nat → B) : sm n (fun i => mul (f i) c) = mul (sm n f) c := by
  induction n with
  | zero => exact (zero_mul c).symm
  | succ n ih => simp only [sm]; rw [ih, add_mul]
theorem sm_swap (n m : Nat) (f : Nat → Nat → B) : sm n (fun i => sm m (f i)) = sm m (fun j => sm n (fun i => f i j)) := by
  induction n with
  | zero => exact (sm_zero (fun _ _ => rfl)).symm
  | succ n ih => simp only [sm]; rw [ih, ← sm_add]
theorem sm_single {n i : Nat} {f : Nat → B} (hi : i < n) (h : ∀ j, j < n → j ≠ i → f j = 0#8) : sm n f = f i := by
  induction n with
  | zero => omega
  | succ n ih =>
    simp only [sm]
    by_cases e : i = n
    · subst e
      rw [sm_zero (fun j hj => h j (by omega) (by omega)), BitVec.zero_xor]
    · rw [ih (by omega) (fun j hj hne => h j (by omega) hne), h n (by omega) (fun e2 => e e2.symm), BitVec.xor_zero]
/-- The product over n places. -/
def mm (n : Nat) (a b : Fm) : Fm := fun i j => sm n (fun k => mul (a i k) (b k j))
def I : Fm := fun i j => if i = j then 1#8 else 0#8
theorem mm_assoc (n p : Nat) (a b c : Fm) (i j : Nat) : mm p (mm n a b) c i j = mm n a (mm p b c) i j := by
  unfold mm
  rw [show (fun k => mul (sm n fun l => mul (a i l) (b l k)) (c k j)) = fun k => sm n fun l => mul (mul (a i l) (b l k)) (c k j) from funext fun k => (sm_mulR _ _ _).symm, sm_swap]
  refine sm_congr fun l _ => ?_
  rw [← sm_mulL]
  exact sm_congr fun k _ => mul_assoc _ _ _
theorem mm_congr {n : Nat} {a a' b b' : Fm} {i j : Nat} (h1 : ∀ k, k < n → a i k = a' i k) (h2 : ∀ k, k < n → b k j = b' k j) : mm n a b i j = mm n a' b' i j := sm_congr fun k hk => by rw [h1 k hk, h2 k hk]
theorem mm_IL {n : Nat} (a : Fm) {i : Nat} (j : Nat) (hi : i < n) : mm n I a i j = a i j := by
  unfold mm
  rw [sm_single hi (fun k _ hne => by unfold I; rw [if_neg (fun e => hne e.symm), zero_mul])]
  unfold I
  rw [if_pos rfl, one_mul]
theorem mm_IR {n : Nat} (a : Fm) (i : Nat) {j : Nat} (hj : j < n) : mm n a I i j = a i j := by
  unfold mm
  rw [sm_single hj (fun k _ hne => by unfold I; rw [if_neg hne, mul_zero])]
  unfold I
  rw [if_pos rfl, mul_one]
/-- E and F undo one another. -/
def Inv2 (n : Nat) (E F : Fm) : Prop := (∀ i j, i < n → j < n → mm n E F i j = I i j) ∧ ∀ i j, i < n → j < n → mm n F E i j = I i j
/-- A' is E times A, of n rows and m columns. -/
def Lt (n m : Nat) (E A A' : Fm) : Prop := ∀ i j, i < n → j < m → A' i j = mm n E A i j
/-- Both matrices were turned by one thing that can be undone. -/
def Rturn (n m p : Nat) (A Z A' Z' : Fm) : Prop := ∃ E F, Inv2 n E F ∧ Lt n m E A A' ∧ Lt n p E Z Z'
theorem Inv2.refl (n : Nat) : Inv2 n I I := ⟨fun i j hi _ => mm_IL I j hi, fun i j hi _ => mm_IL I j hi⟩
theorem Lt.refl (n m : Nat) (A : Fm) : Lt n m I A A := fun i j hi _ => (mm_IL A j hi).symm
theorem Rturn.refl (n m p : Nat) (A Z : Fm) : Rturn n m p A Z A Z := ⟨I, I, Inv2.refl n, Lt.refl n m A, Lt.refl n p Z⟩
theorem Lt.trans {n m : Nat} {E E' A A' A'' : Fm} (h : Lt n m E A A') (h' : Lt n m E' A' A'') : Lt n m (mm n E' E) A A'' := by
  intro i j hi hj
  rw [h' i j hi hj, mm_assoc]
  exact mm_congr (fun _ _ => rfl) (fun k hk => h k j hk hj)
theorem Inv2.half {n : Nat} {E F E' F' : Fm} (h : ∀ i j, i < n → j < n → mm n E F i j = I i j) (h' : ∀ i j, i < n → j < n → mm n E' F' i j = I i j) : ∀ i j, i < n → j < n → mm n (mm n E' E) (mm n F F') i j = I i j := by
  intro i j hi hj
  rw [mm_assoc, ← h' i j hi hj]
  refine mm_congr (fun _ _ => rfl) (fun k hk => ?_)
  rw [← mm_assoc, mm_congr (a' := I) (b' := F') (fun l hl => h k l hk hl) (fun _ _ => rfl), mm_IL _ _ hk]
theorem Inv2.trans {n : Nat} {E F E' F' : Fm} (h : Inv2 n E F) (h' : Inv2 n E' F') : Inv2 n (mm n E' E) (mm n F F') := ⟨Inv2.half h.1 h'.1, Inv2.half h'.2 h.2⟩
theorem Rturn.trans {n m p : Nat} {A Z A' Z' A'' Z'' : Fm} (h : Rturn n m p A Z A' Z') (h' : Rturn n m p A' Z' A'' Z'') : Rturn n m p A Z A'' Z'' := by
  obtain ⟨E, F, h1, h2, h3⟩ := h
  obtain ⟨E', F', h1', h2', h3'⟩ := h'
  exact ⟨_, _, h1.trans h1', h2.trans h2', h3.trans h3'⟩
theorem Rturn.congr {n m p : Nat} {A Z A' Z' A'' Z'' : Fm} (h : Rturn n m p A Z A' Z') (hA : ∀ i j, i < n → j < m → A'' i j = A' i j) (hZ : ∀ i j, i < n → j < p → Z'' i j = Z' i j) : Rturn n m p A Z A'' Z'' := by
  obtain ⟨E, F, h1, h2, h3⟩ := h
  exact ⟨E, F, h1, fun i j hi hj => (hA i j hi hj).trans (h2 i j hi hj), fun i j hi hj => (hZ i j hi hj).trans (h3 i j hi hj)⟩
/-- Two rows change places. -/
theorem Rturn.swap {n m p s t : Nat} (A Z : Fm) (hs : s < n) (ht : t < n) : Rturn n m p A Z (fun i => A (if i = t then s else if i = s then t else i)) (fun i => Z (if i = t then s else if i = s then t else i)) := by
  have hlt : ∀ i, i < n → (if i = t then s else if i = s then t else i) < n := by
    intro i hi
    by_cases e : i = t
    · rw [if_pos e]; exact hs
    · rw [if_neg e]
      by_cases e2 : i = s
      · rw [if_pos e2]; exact ht
      · rw [if_neg e2]; exact hi
  have hinv : ∀ i, (if (if i = t then s else if i = s then t else i) = t then s else if (if i = t then s else if i = s then t else i) = s then t else (if i = t then s else if i = s then t else i)) = i := by
    intro i
    by_cases e : i = t
    · subst e
      simp only [if_true]
      by_cases e2 : s = i
      · rw [if_pos e2, e2]
      · rw [if_neg e2]
    · simp only [if_neg e]
      by_cases e2 : i = s
      · subst e2; simp
      · simp [e2, e]
  have hE : ∀ (X : Fm) i j, i < n → mm n (fun i => I (if i = t then s else if i = s then t else i)) X i j = X (if i = t then s else if i = s then t else i) j := by
    intro X i j hi
    exact mm_IL (n := n) X (i := if i = t then s else if i = s then t else i) j (hlt i hi)
  have h2 : ∀ i j, i < n → j < n → mm n (fun i => I (if i = t then s else if i = s then t else i)) (fun i => I (if i = t then s else if i = s then t else i)) i j = I i j := by
    intro i j hi hj
    rw [hE _ i j hi, hinv]
  exact ⟨_, _, ⟨h2, h2⟩, fun i j hi hj => (hE A i j hi).symm, fun i j hi hj => (hE Z i j hi).symm⟩
/-- A row is multiplied. -/
theorem Rturn.scale {n m p d : Nat} {v : B} (A Z : Fm) (hv : v ≠ 0#8) : Rturn n m p A Z (fun i j => mul (if i = d then v else 1#8) (A i j)) (fun i j => mul (if i = d then v else 1#8) (Z i j)) := by
  have hE : ∀ (s : Nat → B) (X : Fm) i j, i < n → mm n (fun i l => mul (s i) (I i l)) X i j = mul (s i) (X i j) := by
    intro s X i j hi
    unfold mm
    rw [show (fun k => mul (mul (s i) (I i k)) (X k j)) = fun k => mul (s i) (mul (I i k) (X k j)) from funext fun k => mul_assoc _ _ _, sm_mulL]
    congr 1
    exact mm_IL X j hi
  refine ⟨fun i l => mul (if i = d then v else 1#8) (I i l), fun i l => mul (if i = d then inv v else 1#8) (I i l), ⟨fun i j hi hj => ?_, fun i j hi hj => ?_⟩, fun i j hi hj => (hE (fun i => if i = d then v else 1#8) A i j hi).symm, fun i j hi hj => (hE (fun i => if i = d then v else 1#8) Z i j hi).symm⟩
  · rw [hE (fun i => if i = d then v else 1#8) _ i j hi, ← mul_assoc]
    by_cases e : i = d
    · rw [if_pos e, if_pos e, mul_inv v hv, one_mul]
    · rw [if_neg e, if_neg e, one_mul, one_mul]
  · rw [hE (fun i => if i = d then inv v else 1#8) _ i j hi, ← mul_assoc]
    by_cases e : i = d
    · rw [if_pos e, if_pos e, inv_mul v hv, one_mul]
    · rw [if_neg e, if_neg e, one_mul, one_mul]
/-- A row's multiples are added to the others. -/
theorem Rturn.add {n m p d : Nat} (A Z : Fm) (x : Nat → B) (hd : d < n) (hx : x d = 0#8) : Rturn n m p A Z (fun i j => A i j ^^^ mul (x i) (A d j)) (fun i j => Z i j ^^^ mul (x i) (Z d j)) := by
  have hE : ∀ (X : Fm) i j, i < n → mm n (fun i l => I i l ^^^ mul (x i) (I d l)) X i j = X i j ^^^ mul (x i) (X d j) := by
    intro X i j hi
    unfold mm
    rw [show (fun k => mul (I i k ^^^ mul (x i) (I d k)) (X k j)) = fun k => mul (I i k) (X k j) ^^^ mul (x i) (mul (I d k) (X k j)) from funext fun k => by rw [add_mul, mul_assoc], sm_add, sm_mulL]
    congr 1
    · exact mm_IL X j hi
    · congr 1
      exact mm_IL X j hd
  have h2 : ∀ i j, i < n → j < n → mm n (fun i l => I i l ^^^ mul (x i) (I d l)) (fun i l => I i l ^^^ mul (x i) (I d l)) i j = I i j := by
    intro i j hi hj
    rw [hE _ i j hi, hx, zero_mul, BitVec.xor_zero, BitVec.xor_assoc, BitVec.xor_self, BitVec.xor_zero]
  exact ⟨_, _, ⟨h2, h2⟩, fun i j hi hj => (hE A i j hi).symm, fun i j hi hj => (hE Z i j hi).symm⟩
/-- If A was turned into the identity, beside it the identity into Z: Z is A's inverse on both sides. -/
theorem Rturn.inverse {n : Nat} {A A' Z' : Fm} (h : Rturn n n n A I A' Z') (hI : ∀ i j, i < n → j < n → A' i j = I i j) : (∀ i j, i < n → j < n → mm n Z' A i j = I i j) ∧ ∀ i j, i < n → j < n → mm n A Z' i j = I i j := by
  obtain ⟨E, F, h1, h2, h3⟩ := h
  have hZ : ∀ i j, i < n → j < n → Z' i j = E i j := fun i j hi hj => by rw [h3 i j hi hj, mm_IR _ _ hj]
  have hA : ∀ i j, i < n → j < n → A i j = F i j := by
    intro i j hi hj
    have e : mm n F (mm n E A) i j = A i j := by
      rw [← mm_assoc, mm_congr (a' := I) (b' := A) (fun k hk => h1.2 i k hi hk) (fun _ _ => rfl), mm_IL _ _ hi]
    rw [← e, mm_congr (a' := F) (b' := I) (fun _ _ => rfl) (fun k hk => by rw [← h2 k j hk hj, hI k j hk hj]), mm_IR _ _ hj]
  refine ⟨fun i j hi hj => ?_, fun i j hi hj => ?_⟩
  · rw [mm_congr (a' := E) (b' := A) (fun k hk => hZ i k hi hk) (fun _ _ => rfl), ← h2 i j hi hj, hI i j hi hj]
  · rw [mm_congr (a' := F) (b' := E) (fun k hk => hA i k hi hk) (fun k hk => hZ k j hk hj), h1.2 i j hi hj]
/-- If a row came to nothing, some of A's rows cancel out. -/
theorem Rturn.null {n m p : Nat} {A Z A' Z' : Fm} {d : Nat} (h : Rturn n m p A Z A' Z') (hd : d < n) (h0 : ∀ j, j < m → A' d j = 0#8) : ∃ y : Nat → B, (∀ j, j < m → sm n (fun k => mul (y k) (A k j)) = 0#8) ∧ ∃ k, k < n ∧ y k ≠ 0#8 := by
  obtain ⟨E, F, h1, h2, h3⟩ := h
  refine ⟨E d, fun j hj => (h2 d j hd hj).symm.trans (h0 j hj), Classical.byContradiction fun hn => ?_⟩
  have hz : ∀ k, k < n → E d k = 0#8 := fun k hk => Classical.byContradiction fun he => hn ⟨k, hk, he⟩
  have := h1.1 d d hd hd
  rw [show mm n E F d d = 0#8 from sm_zero fun k hk => by rw [hz k hk, zero_mul]] at this
  unfold I at this
  rw [if_pos rfl] at this
  exact absurd this (by decide)
theorem add_eq_zero {x y : B} (h : x ^^^ y = 0#8) : x = y := by
  have := congrArg (· ^^^ y) h
  simpa [BitVec.xor_assoc] using this
def sl : List B → (B → B) → B
  | [], _ => 0#8
  | x :: l, f => f x ^^^ sl l f
theorem sl_congr {l : List B} {f g : B → B} (h : ∀ x ∈ l, f x = g x) : sl l f = sl l g := by
  induction l with
  | nil => rfl
  | cons x l ih => simp only [sl]; rw [h x (by simp), ih (fun y hy => h y (by simp [hy]))]
theorem sl_zero {l : List B} {f : B → B} (h : ∀ x ∈ l, f x = 0#8) : sl l f = 0#8 := by
  induction l with
  | nil => rfl
  | cons x l ih => simp only [sl]; rw [h x (by simp), ih (fun y hy => h y (by simp [hy]))]; rfl
theorem sl_add (l : List B) (f g : B → B) : sl l (fun x => f x ^^^ g x) = sl l f ^^^ sl l g := by
  induction l with
  | nil => simp [sl]
  | cons x l ih => simp only [sl]; rw [ih, xor_swap4]
theorem sl_mulL (l : List B) (c : B) (f : B → B) : sl l (fun x => mul c (f x)) = mul c (sl l f) := by
  induction l with
  | nil => exact (mul_zero c).symm
  | cons x l ih => simp only [sl]; rw [ih, mul_add]
theorem mul_cancel {a b : B} (ha : a ≠ 0#8) (h : mul a b = 0#8) : b = 0#8 := Classical.byContradiction fun hb => mul_ne a b ha hb h
/-- (x0 + y) / (x + y) - (x0 + y0) / (x + y0) -/
theorem cauchy_term (x0 x y0 y : B) (h1 : x ^^^ y ≠ 0#8) (h2 : x ^^^ y0 ≠ 0#8) :
    mul (x0 ^^^ y) (inv (x ^^^ y)) ^^^ mul (x0 ^^^ y0) (inv (x ^^^ y0)) = mul (y0 ^^^ y) (mul (mul (x0 ^^^ x) (inv (x ^^^ y0))) (inv (x ^^^ y))) := by
  have e1 : mul (x0 ^^^ y) (inv (x ^^^ y)) = 1#8 ^^^ mul (x0 ^^^ x) (inv (x ^^^ y)) := by
    have : x0 ^^^ y = (x ^^^ y) ^^^ (x0 ^^^ x) := by
      rw [BitVec.xor_comm x0 x, xor_swap4, BitVec.xor_self, BitVec.zero_xor, BitVec.xor_comm]
    rw [this, add_mul, mul_inv _ h1]
  have e2 : mul (x0 ^^^ y0) (inv (x ^^^ y0)) = 1#8 ^^^ mul (x0 ^^^ x) (inv (x ^^^ y0)) := by
    have : x0 ^^^ y0 = (x ^^^ y0) ^^^ (x0 ^^^ x) := by
      rw [BitVec.xor_comm x0 x, xor_swap4, BitVec.xor_self, BitVec.zero_xor, BitVec.xor_comm]
    rw [this, add_mul, mul_inv _ h2]
  rw [e1, e2, xor_swap4, BitVec.xor_self, BitVec.zero_xor, ← mul_add]
  have e3 : inv (x ^^^ y) ^^^ inv (x ^^^ y0) = mul (y0 ^^^ y) (mul (inv (x ^^^ y0)) (inv (x ^^^ y))) := by
    have h3 : y0 ^^^ y = (x ^^^ y0) ^^^ (x ^^^ y) := by rw [xor_swap4, BitVec.xor_self, BitVec.zero_xor]
    rw [h3, add_mul, ← mul_assoc, mul_inv _ h2, one_mul]
    congr 1
    rw [mul_comm (inv (x ^^^ y0)), ← mul_assoc, mul_inv _ h1, one_mul]
  rw [e3, ← mul_assoc, ← mul_assoc, mul_comm (x0 ^^^ x), mul_assoc, mul_assoc, mul_assoc]
theorem cauchy_null : ∀ (P J : List B), P.Nodup → J.Nodup → (∀ x ∈ P, ∀ y ∈ J, x ≠ y) → P.length ≤ J.length → ∀ c : B → B, (∀ y ∈ J, sl P (fun x => mul (c x) (inv (x ^^^ y))) = 0#8) → ∀ x ∈ P, c x = 0#8 := by
  intro P
  induction P with
  | nil => intro J _ _ _ _ c _ x hx; simp at hx
  | cons x0 P ih =>
    intro J hP hJ hne hlen c h
    cases J with
    | nil => simp at hlen
    | cons y0 J =>
      rw [List.nodup_cons] at hP hJ
      have hn : ∀ x y, x ∈ x0 :: P → y ∈ y0 :: J → x ^^^ y ≠ 0#8 := fun x y hx hy e => hne x hx y hy (add_eq_zero e)
      have key : ∀ x ∈ P, mul (c x) (mul (x0 ^^^ x) (inv (x ^^^ y0))) = 0#8 := by
        refine ih J hP.2 hJ.2 (fun x hx y hy => hne x (by simp [hx]) y (by simp [hy])) (by simpa using hlen) _ ?_
        intro y hy
        have hy0 : y0 ^^^ y ≠ 0#8 := fun e => hJ.1 (by rw [add_eq_zero e]; exact hy)
        refine mul_cancel hy0 ?_
        rw [← sl_mulL]
        have a1 := h y (by simp [hy])
        have a2 := h y0 (by simp)
        have b1 : mul (x0 ^^^ y) (sl (x0 :: P) (fun x => mul (c x) (inv (x ^^^ y)))) ^^^ mul (x0 ^^^ y0) (sl (x0 :: P) (fun x => mul (c x) (inv (x ^^^ y0)))) = 0#8 := by rw [a1, a2, mul_zero, mul_zero]; rfl
        rw [← sl_mulL, ← sl_mulL, ← sl_add] at b1
        simp only [sl] at b1
        have b2 : mul (x0 ^^^ y) (mul (c x0) (inv (x0 ^^^ y))) ^^^ mul (x0 ^^^ y0) (mul (c x0) (inv (x0 ^^^ y0))) = 0#8 := by
          rw [mul_comm (c x0), ← mul_assoc, mul_inv _ (hn x0 y (by simp) (by simp [hy])), mul_comm (c x0) (inv (x0 ^^^ y0)), ← mul_assoc, mul_inv _ (hn x0 y0 (by simp) (by simp)), BitVec.xor_self]
        rw [b2, BitVec.zero_xor] at b1
        rw [← b1]
        refine sl_congr fun x hx => ?_
        have ht := cauchy_term x0 x y0 y (hn x y (by simp [hx]) (by simp [hy])) (hn x y0 (by simp [hx]) (by simp))
        have e1 : ∀ s t, mul s (mul (c x) t) = mul (c x) (mul s t) := fun s t => by rw [← mul_assoc, mul_comm s, mul_assoc]
        rw [e1, e1, ← mul_add, ht, mul_assoc, e1]
      have hx : ∀ x ∈ P, c x = 0#8 := by
        intro x hx
        have hne0 : x0 ^^^ x ≠ 0#8 := fun e => hP.1 (by rw [add_eq_zero e]; exact hx)
        have := key x hx
        rw [mul_comm] at this
        exact mul_cancel (mul_ne _ _ hne0 (inv_ne _ (hn x y0 (by simp [hx]) (by simp)))) this
      intro x hxm
      rcases List.mem_cons.1 hxm with rfl | hxm
      · have a2 := h y0 (by simp)
        simp only [sl] at a2
        rw [sl_zero (fun z hz => by rw [hx z hz, zero_mul]), BitVec.xor_zero, mul_comm] at a2
        exact mul_cancel (inv_ne _ (hn x y0 (by simp) (by simp))) a2
      · exact hx x hxm
end Go.Proofs.Ytbogmlckbkogiaa.Mx
namespace Go.Proofs.Ytbogmlckbkogiaa.Red
open Go.RowKit Go.Proofs.YtbogmlckbkogiaaW.PrintWords Go.Proofs.Ytbogmlckbkogiaa.Leaf Go.Proofs.Ytbogmlckbkogiaa.Gf Go.Proofs.Ytbogmlckbkogiaa.H Go.Proofs.Ytbogmlckbkogiaa.Mx
set_option linter.unusedVariables false
theorem row_swap (A : Mat) (i j k : Nat) (hi : i < A.length) (hj : j < A.length) : row (swapM A i j) k = row A (if k = j then i else if k = i then j else k) := by
  unfold swapM
  rw [row_set _ _ _ _ (by simpa using hj), row_set _ _ _ _ hi]
  by_cases e : k = j
  · rw [if_pos e, if_pos e]
  · rw [if_neg e, if_neg e]
    by_cases e2 : k = i
    · rw [if_pos e2, if_pos e2]
    · rw [if_neg e2, if_neg e2]
theorem scF_at (v : B) (n : Nat) : ∀ (j0 : Nat) (r : List B) (j : Nat), j0 + n = r.length → at0 (scF v n j0 r) j = if j0 ≤ j ∧ j < r.length then mul (at0 r j) v else at0 r j := by
  induction n with
  | zero =>
    intro j0 r j h
    simp only [scF]
    rw [if_neg (by omega)]
  | succ n ih =>
    intro j0 r j h
    simp only [scF]
    rw [ih (j0 + 1) _ j (by rw [List.length_set]; omega), List.length_set, at0_set _ _ _ _ (by omega)]
    by_cases e : j0 = j
    · subst e
      rw [if_neg (by omega), if_pos rfl, if_pos (by omega)]
    · rw [if_neg e]
      by_cases h2 : j0 + 1 ≤ j ∧ j < r.length
      · rw [if_pos h2, if_pos (by omega)]
      · rw [if_neg h2, if_neg (by omega)]
theorem scale_at (v : B) (r : List B) (j : Nat) (hj : j < r.length) : at0 (scale v r) j = mul (at0 r j) v := by
  unfold scale
  rw [scF_at v r.length 0 r j (by omega), if_pos (by omega)]
theorem elF_row (c d : Nat) (n : Nat) : ∀ (i : Nat) (A Z : Mat), i + n = A.length → A.length = Z.length → d < A.length →
    (elF c d n i A Z).1.length = A.length ∧ (elF c d n i A Z).2.length = Z.length ∧
    (∀ k, row (elF c d n i A Z).1 k = if i ≤ k ∧ k < A.length ∧ k ≠ d ∧ el A k c ≠ 0#8 then am (row A k) (row A d) (el A k c) (row A k).length else row A k) ∧
    (∀ k, row (elF c d n i A Z).2 k = if i ≤ k ∧ k < A.length ∧ k ≠ d ∧ el A k c ≠ 0#8 then am (row Z k) (row Z d) (el A k c) (row Z k).length else row Z k) := by
  induction n with
  | zero =>
    intro i A Z h hl hd
    simp only [elF]
    exact ⟨trivial, trivial, fun k => by rw [if_neg (by omega)], fun k => by rw [if_neg (by omega)]⟩
  | succ n ih =>
    intro i A Z h hl hd
    simp only [elF]
    by_cases hc : i ≠ d ∧ el A i c ≠ 0#8
    · rw [if_pos hc]
      obtain ⟨h1, h2, h3, h4⟩ := ih (i + 1) (A.set i (am (row A i) (row A d) (el A i c) (row A i).length)) (Z.set i (am (row Z i) (row Z d) (el A i c) (row Z i).length)) (by rw [List.length_set]; omega) (by rw [List.length_set, List.length_set]; exact hl) (by rw [List.length_set]; exact hd)
      rw [List.length_set] at h1 h2 h3 h4
      have qk := fun k => row_set A i k (am (row A i) (row A d) (el A i c) (row A i).length) (by omega)
      have qz := fun k => row_set Z i k (am (row Z i) (row Z d) (el A i c) (row Z i).length) (by omega)
      have qd := (qk d).trans (if_neg (fun e : d = i => hc.1 e.symm))
      have qy := (qz d).trans (if_neg (fun e : d = i => hc.1 e.symm))
      have qe : ∀ k, k ≠ i → el (A.set i (am (row A i) (row A d) (el A i c) (row A i).length)) k c = el A k c := by
        intro k hk
        unfold el
        unfold el at qk
        rw [qk, if_neg hk]
      refine ⟨h1, h2, fun k => ?_, fun k => ?_⟩
      · by_cases e : k = i
        · rw [h3 k, if_neg (by omega), qk, if_pos e, e, if_pos ⟨Nat.le_refl _, by omega, hc.1, hc.2⟩]
        · rw [h3 k, qe k e, qk, if_neg e, qd]
          by_cases h5 : i + 1 ≤ k ∧ k < A.length ∧ k ≠ d ∧ el A k c ≠ 0#8
          · rw [if_pos h5, if_pos ⟨by omega, h5.2⟩]
          · rw [if_neg h5, if_neg (fun h6 => h5 ⟨by omega, h6.2⟩)]
      · by_cases e : k = i
        · rw [h4 k, if_neg (by omega), qz, if_pos e, e, if_pos ⟨Nat.le_refl _, by omega, hc.1, hc.2⟩]
        · rw [h4 k, qe k e, qz, if_neg e, qy]
          by_cases h5 : i + 1 ≤ k ∧ k < A.length ∧ k ≠ d ∧ el A k c ≠ 0#8
          · rw [if_pos h5, if_pos ⟨by omega, h5.2⟩]
          · rw [if_neg h5, if_neg (fun h6 => h5 ⟨by omega, h6.2⟩)]
    · rw [if_neg hc]
      obtain ⟨h1, h2, h3, h4⟩ := ih (i + 1) A Z (by omega) hl hd
      refine ⟨h1, h2, fun k => ?_, fun k => ?_⟩
      · rw [h3 k]
        by_cases e : k = i
        · subst e
          rw [if_neg (by omega), if_neg (fun h6 => hc h6.2.2)]
        · by_cases h5 : i + 1 ≤ k ∧ k < A.length ∧ k ≠ d ∧ el A k c ≠ 0#8
          · rw [if_pos h5, if_pos ⟨by omega, h5.2⟩]
          · rw [if_neg h5, if_neg (fun h6 => h5 ⟨by omega, h6.2⟩)]
      · rw [h4 k]
        by_cases e : k = i
        · subst e
          rw [if_neg (by omega), if_neg (fun h6 => hc h6.2.2)]
        · by_cases h5 : i + 1 ≤ k ∧ k < A.length ∧ k ≠ d ∧ el A k c ≠ 0#8
          · rw [if_pos h5, if_pos ⟨by omega, h5.2⟩]
          · rw [if_neg h5, if_neg (fun h6 => h5 ⟨by omega, h6.2⟩)]
theorem am_at (L M : List B) (s : B) (j : Nat) (hj : j < L.length) : at0 (am L M s L.length) j = at0 L j ^^^ mul (at0 M j) s := by
  rw [at0_am _ _ _ _ _ hj, if_pos hj]
/-- The turn of a column, element by element. -/
theorem stepF_spec {n m p : Nat} {A Z : Mat} (hA : Reg A n m) (hZ : Reg Z n p) {c d t : Nat} (hd : d < n) (ht : t < n) (hc : c < m) :
    Reg (stepF c d t A Z).1 n m ∧ Reg (stepF c d t A Z).2 n p ∧
    (∀ i j, i < n → j < m → el (stepF c d t A Z).1 i j = if i = d then mul (el A t j) (inv (el A t c)) else el A (if i = t then d else i) j ^^^ mul (mul (el A t j) (inv (el A t c))) (el A (if i = t then d else i) c)) ∧
    (∀ i j, i < n → j < p → el (stepF c d t A Z).2 i j = if i = d then mul (el Z t j) (inv (el A t c)) else el Z (if i = t then d else i) j ^^^ mul (mul (el Z t j) (inv (el A t c))) (el A (if i = t then d else i) c)) := by
  have hA1 := hA.swap ht hd
  have hZ1 := hZ.swap ht hd
  have rA := fun k => row_swap A t d k (by rw [hA.1]; exact ht) (by rw [hA.1]; exact hd)
  have rZ := fun k => row_swap Z t d k (by rw [hZ.1]; exact ht) (by rw [hZ.1]; exact hd)
  have sA : (swapM A t d).length = n := hA1.1
  have sZ : (swapM Z t d).length = n := hZ1.1
  have rAd : row (swapM A t d) d = row A t := by rw [rA, if_pos rfl]
  have rZd : row (swapM Z t d) d = row Z t := by rw [rZ, if_pos rfl]
  have hv : el (swapM A t d) d c = el A t c := by unfold el; rw [rAd]
  unfold stepF
  simp only []
  rw [hv, rAd, rZd]
  have hA2 : Reg ((swapM A t d).set d (scale (inv (el A t c)) (row A t))) n m := hA1.set hd (by rw [scale_length]; exact hA.2 t ht)
  have hZ2 : Reg ((swapM Z t d).set d (scale (inv (el A t c)) (row Z t))) n p := hZ1.set hd (by rw [scale_length]; exact hZ.2 t ht)
  have qA : ∀ k, row ((swapM A t d).set d (scale (inv (el A t c)) (row A t))) k = if k = d then scale (inv (el A t c)) (row A t) else row A (if k = t then d else k) := by
    intro k
    rw [row_set _ _ _ _ (by rw [sA]; exact hd), rA]
    by_cases e : k = d
    · rw [if_pos e, if_pos e]
    · rw [if_neg e, if_neg e, if_neg e]
  have qZ : ∀ k, row ((swapM Z t d).set d (scale (inv (el A t c)) (row Z t))) k = if k = d then scale (inv (el A t c)) (row Z t) else row Z (if k = t then d else k) := by
    intro k
    rw [row_set _ _ _ _ (by rw [sZ]; exact hd), rZ]
    by_cases e : k = d
    · rw [if_pos e, if_pos e]
    · rw [if_neg e, if_neg e, if_neg e]
  generalize (swapM A t d).set d (scale (inv (el A t c)) (row A t)) = A2 at *
  generalize (swapM Z t d).set d (scale (inv (el A t c)) (row Z t)) = Z2 at *
  obtain ⟨l1, l2, e1, e2⟩ := elF_row c d A2.length 0 A2 Z2 (by omega) (by rw [hA2.1, hZ2.1]) (by rw [hA2.1]; exact hd)
  have hs : ∀ i, i < n → (if i = t then d else i) < n := by
    intro i hi
    by_cases e : i = t
    · rw [if_pos e]; exact hd
    · rw [if_neg e]; exact hi
  refine ⟨⟨by rw [l1, hA2.1], fun i hi => ?_⟩, ⟨by rw [l2, hZ2.1], fun i hi => ?_⟩, fun i j hi hj => ?_, fun i j hi hj => ?_⟩
  · rw [e1]
    split
    · rw [am_length]; exact hA2.2 i hi
    · exact hA2.2 i hi
  · rw [e2]
    split
    · rw [am_length]; exact hZ2.2 i hi
    · exact hZ2.2 i hi
  · show at0 (row (elF c d A2.length 0 A2 Z2).1 i) j = _
    rw [e1, hA2.1]
    by_cases e : i = d
    · rw [if_neg (fun h => h.2.2.1 e), if_pos e, qA, if_pos e, scale_at _ _ _ (by rw [hA.2 t ht]; exact hj)]
      rfl
    · have q1 : row A2 i = row A (if i = t then d else i) := by rw [qA, if_neg e]
      have q2 : row A2 d = scale (inv (el A t c)) (row A t) := by rw [qA, if_pos rfl]
      have q3 : el A2 i c = el A (if i = t then d else i) c := by unfold el; rw [q1]
      rw [if_neg e, q3, q1, q2]
      by_cases hx : el A (if i = t then d else i) c = 0#8
      · rw [if_neg (fun h => h.2.2.2 hx), hx, mul_zero, BitVec.xor_zero]
        rfl
      · rw [if_pos ⟨Nat.zero_le _, hi, e, hx⟩, am_at _ _ _ _ (by rw [hA.2 _ (hs i hi)]; exact hj), scale_at _ _ _ (by rw [hA.2 t ht]; exact hj)]
        rfl
  · show at0 (row (elF c d A2.length 0 A2 Z2).2 i) j = _
    rw [e2, hA2.1]
    by_cases e : i = d
    · rw [if_neg (fun h => h.2.2.1 e), if_pos e, qZ, if_pos e, scale_at _ _ _ (by rw [hZ.2 t ht]; exact hj)]
      rfl
    · have q1 : row A2 i = row A (if i = t then d else i) := by rw [qA, if_neg e]
      have q3 : el A2 i c = el A (if i = t then d else i) c := by unfold el; rw [q1]
      have q4 : row Z2 i = row Z (if i = t then d else i) := by rw [qZ, if_neg e]
      have q5 : row Z2 d = scale (inv (el A t c)) (row Z t) := by rw [qZ, if_pos rfl]
      rw [if_neg e, q3, q4, q5]
      by_cases hx : el A (if i = t then d else i) c = 0#8
      · rw [if_neg (fun h => h.2.2.2 hx), hx, mul_zero, BitVec.xor_zero]
        rfl
      · rw [if_pos ⟨Nat.zero_le _, hi, e, hx⟩, am_at _ _ _ _ (by rw [hZ.2 _ (hs i hi)]; exact hj), scale_at _ _ _ (by rw [hZ.2 t ht]; exact hj)]
        rfl
theorem stepF_steps {n m p : Nat} {A Z : Mat} (hA : Reg A n m) (hZ : Reg Z n p) {c d t : Nat} (hd : d < n) (ht : t < n) (hc : c < m) (hx : el A t c ≠ 0#8) :
    Rturn n m p (el A) (el Z) (el (stepF c d t A Z).1) (el (stepF c d t A Z).2) := by
  obtain ⟨_, _, h1, h2⟩ := stepF_spec hA hZ hd ht hc
  have s1 := Rturn.swap (m := m) (p := p) (s := t) (t := d) (el A) (el Z) ht hd
  have s2 := s1.trans (Rturn.scale (d := d) _ _ (inv_ne _ hx))
  have s3 := s2.trans (Rturn.add (d := d) _ _ (fun i => if i = d then 0#8 else el A (if i = t then d else i) c) hd (if_pos rfl))
  refine s3.congr (fun i j hi hj => ?_) (fun i j hi hj => ?_)
  · rw [h1 i j hi hj]
    by_cases e : i = d
    · simp only [if_pos e, zero_mul, BitVec.xor_zero]
      rw [mul_comm]
    · simp only [if_neg e, one_mul, if_true]
      rw [mul_comm (el A (if i = t then d else i) c), mul_comm (inv (el A t c))]
  · rw [h2 i j hi hj]
    by_cases e : i = d
    · simp only [if_pos e, zero_mul, BitVec.xor_zero]
      rw [mul_comm]
    · simp only [if_neg e, one_mul, if_true]
      rw [mul_comm (el A (if i = t then d else i) c), mul_comm (inv (el A t c))]
/-- Where the pivot is. -/
theorem pivot_miss {n m : Nat} {A : Mat} (hA : Reg A n m) {d c : Nat} (h : pivot A d c < 0) : ∀ i, d ≤ i → i < n → el A i c = 0#8 := by
  intro i h1 h2
  unfold pivot at h
  have h3 : decide (0 ≤ firstP (fun j => rd (ofL (row A (d + j))) (c : Int) != 0) (A.length - d)) = false := decide_eq_false (by omega)
  rw [firstP_nonneg, List.any_eq_false] at h3
  have h4 := h3 (i - d) (List.mem_range.2 (by rw [hA.1]; omega))
  rw [show d + (i - d) = i by omega] at h4
  have h5 : rd (ofL (row A i)) (c : Int) = 0 := by simpa using h4
  rw [rd_ofL, ofB_eq_zero] at h5
  exact h5
theorem firstP_found {p : Nat → Bool} {n : Nat} (h : ¬ firstP p n < 0) : ∃ k : Nat, firstP p n = (k : Int) ∧ k < n ∧ p k = true ∧ ∀ j, j < k → p j = false := by
  unfold firstP at h ⊢
  cases e : (List.range n).find? p with
  | none => rw [e] at h; exact absurd (by decide) h
  | some k =>
    rw [List.find?_range_eq_some] at e
    exact ⟨k, rfl, List.mem_range.1 e.2.1, e.1, fun j hj => by simpa using e.2.2 j hj⟩
theorem pivot_hit {n m : Nat} {A : Mat} (hA : Reg A n m) {d c : Nat} (h : ¬ pivot A d c < 0) : ∃ t : Nat, pivot A d c = (t : Int) ∧ d + t < n ∧ el A (d + t) c ≠ 0#8 ∧ ∀ i, d ≤ i → i < d + t → el A i c = 0#8 := by
  obtain ⟨t, h1, h2, h3, h4⟩ := firstP_found h
  refine ⟨t, h1, by rw [hA.1] at h2; omega, fun e => ?_, fun i hi1 hi2 => ?_⟩
  · have h5 : rd (ofL (row A (d + t))) (c : Int) ≠ 0 := by simpa using h3
    rw [rd_ofL] at h5
    exact h5 ((ofB_eq_zero _).2 e)
  · have h5 := h4 (i - d) (by omega)
    rw [show d + (i - d) = i by omega] at h5
    have h6 : rd (ofL (row A i)) (c : Int) = 0 := by simpa using h5
    rw [rd_ofL, ofB_eq_zero] at h6
    exact h6
/-- How far the columns are: below row d nought, and where each column had a row: the identity. -/
def Done (n c d : Nat) (A : Mat) : Prop := d ≤ c ∧ (∀ i, d ≤ i → i < n → ∀ j, j < c → el A i j = 0#8) ∧ (d = c → ∀ i, i < n → ∀ j, j < c → el A i j = I i j)
theorem done_miss {n m c d : Nat} {A : Mat} (hA : Reg A n m) (h : Done n c d A) (hp : pivot A d c < 0) : Done n (c + 1) d A := by
  refine ⟨by have := h.1; omega, fun i h1 h2 j hj => ?_, fun e => by have := h.1; omega⟩
  by_cases e : j = c
  · subst e; exact pivot_miss hA hp i h1 h2
  · exact h.2.1 i h1 h2 j (by omega)
theorem done_step {n m p c d t : Nat} {A Z : Mat} (hA : Reg A n m) (hZ : Reg Z n p) (hd : d < n) (hdt : d ≤ t) (ht : t < n) (hc : c < m) (hx : el A t c ≠ 0#8) (h : Done n c d A) : Done n (c + 1) (d + 1) (stepF c d t A Z).1 := by
  obtain ⟨_, _, h1, _⟩ := stepF_spec hA hZ hd ht hc
  have hcol : ∀ i, i < n → i ≠ d → el (stepF c d t A Z).1 i c = 0#8 := by
    intro i hi e
    rw [h1 i c hi hc, if_neg e, mul_inv _ hx, one_mul, BitVec.xor_self]
  refine ⟨by have := h.1; omega, fun i hi1 hi2 j hj => ?_, fun e i hi j hj => ?_⟩
  · by_cases e : j = c
    · subst e; exact hcol i hi2 (by omega)
    · rw [h1 i j hi2 (by omega), if_neg (by omega), h.2.1 t hdt ht j (by omega), zero_mul, zero_mul, BitVec.xor_zero]
      by_cases e2 : i = t
      · rw [if_pos e2]; exact h.2.1 d (Nat.le_refl _) hd j (by omega)
      · rw [if_neg e2]; exact h.2.1 i (by omega) hi2 j (by omega)
  · have hdc : d = c := by omega
    by_cases e1 : j = c
    · subst e1
      by_cases e2 : i = d
      · rw [h1 i j hi hc, if_pos e2, mul_inv _ hx]
        unfold I
        rw [if_pos (by omega)]
      · rw [hcol i hi e2]
        unfold I
        rw [if_neg (by omega)]
    · rw [h1 i j hi (by omega), h.2.1 t hdt ht j (by omega), zero_mul, zero_mul, BitVec.xor_zero]
      by_cases e2 : i = d
      · rw [if_pos e2]
        unfold I
        rw [if_neg (by omega)]
      · rw [if_neg e2]
        by_cases e3 : i = t
        · rw [if_pos e3, h.2.1 d (Nat.le_refl _) hd j (by omega)]
          unfold I
          rw [if_neg (by omega)]
        · rw [if_neg e3]
          exact h.2.2 hdc i hi j (by omega)
theorem redF_spec {n m p : Nat} (fuel : Nat) : ∀ (c d : Nat) (A Z : Mat), c + fuel = m → d < n → Reg A n m → Reg Z n p →
    Reg (redF fuel c d A Z).2.1 n m ∧ Reg (redF fuel c d A Z).2.2 n p ∧ (redF fuel c d A Z).1 ≤ n ∧ Rturn n m p (el A) (el Z) (el (redF fuel c d A Z).2.1) (el (redF fuel c d A Z).2.2) ∧
    (Done n c d A → ((redF fuel c d A Z).1 < n → ∀ j, j < m → el (redF fuel c d A Z).2.1 (redF fuel c d A Z).1 j = 0#8) ∧ ((redF fuel c d A Z).1 = n → n = m → ∀ i, i < n → ∀ j, j < n → el (redF fuel c d A Z).2.1 i j = I i j)) := by
  induction fuel with
  | zero =>
    intro c d A Z hc hd hA hZ
    simp only [redF]
    refine ⟨hA, hZ, by omega, Rturn.refl _ _ _ _ _, fun h => ⟨fun _ j hj => h.2.1 d (Nat.le_refl _) hd j (by omega), fun e => by omega⟩⟩
  | succ fuel ih =>
    intro c d A Z hc hd hA hZ
    simp only [redF]
    by_cases hp : pivot A d c < 0
    · rw [if_pos hp]
      obtain ⟨r1, r2, r3, r4, r5⟩ := ih (c + 1) d A Z (by omega) hd hA hZ
      exact ⟨r1, r2, r3, r4, fun h => r5 (done_miss hA h hp)⟩
    · rw [if_neg hp]
      obtain ⟨t, e, ht, hx, _⟩ := pivot_hit hA hp
      rw [e, show ((t : Int)).toNat = t from rfl]
      have ht' : t + d < n := by omega
      have hx' : el A (t + d) c ≠ 0#8 := by rw [Nat.add_comm]; exact hx
      have hst := stepF_steps hA hZ hd ht' (show c < m by omega) hx'
      obtain ⟨g1, g2, _, _⟩ := stepF_spec hA hZ hd ht' (show c < m by omega)
      have hdn := fun h => done_step hA hZ hd (by omega : d ≤ t + d) ht' (show c < m by omega) hx' h
      generalize stepF c d (t + d) A Z = S at *
      by_cases he : d + 1 = A.length
      · rw [if_pos he]
        have hA1 := hA.1
        refine ⟨g1, g2, by omega, hst, fun h => ⟨fun h2 => by omega, fun _ hnm i hi j hj => ?_⟩⟩
        have hd1 := hdn h
        have hdc := h.1
        exact hd1.2.2 (by omega) i hi j (by omega)
      · rw [if_neg he]
        have hA1 := hA.1
        obtain ⟨r1, r2, r3, r4, r5⟩ := ih (c + 1) (d + 1) S.1 S.2 (by omega) (by omega) g1 g2
        exact ⟨r1, r2, r3, hst.trans r4, fun h => r5 (hdn h)⟩
theorem done_start (n : Nat) (A : Mat) : Done n 0 0 A := ⟨Nat.le_refl _, fun _ _ _ j hj => by omega, fun _ _ _ j hj => by omega⟩
/-- The identity. -/
def idM (n : Nat) : Mat := (List.range n).map fun i => (List.range n).map fun j => if i = j then 1#8 else 0#8
theorem row_map (n : Nat) (f : Nat → List B) (i : Nat) (hi : i < n) : row ((List.range n).map f) i = f i := by
  unfold row
  rw [List.getD_eq_getElem?_getD, List.getElem?_map, List.getElem?_range hi]
  rfl
theorem at0_map (n : Nat) (f : Nat → B) (i : Nat) (hi : i < n) : at0 ((List.range n).map f) i = f i := by
  unfold at0
  rw [List.getD_eq_getElem?_getD, List.getElem?_map, List.getElem?_range hi]
  rfl
/-- The matrix of n rows and m columns whose elements are told. -/
def matF (n m : Nat) (f : Fm) : Mat := (List.range n).map fun i => (List.range m).map (f i)
theorem matF_reg (n m : Nat) (f : Fm) : Reg (matF n m f) n m := ⟨by simp [matF], fun i hi => by unfold matF; rw [row_map _ _ _ hi]; simp⟩
theorem el_matF {n m : Nat} (f : Fm) {i j : Nat} (hi : i < n) (hj : j < m) : el (matF n m f) i j = f i j := by
  unfold el matF
  rw [row_map _ _ _ hi, at0_map _ _ _ hj]
theorem idM_eq (n : Nat) : idM n = matF n n I := rfl
theorem mat_ext {n m : Nat} {A C : Mat} (hA : Reg A n m) (hC : Reg C n m) (h : ∀ i j, i < n → j < m → el A i j = el C i j) : A = C := by
  refine List.ext_getElem (by rw [hA.1, hC.1]) fun i h1 h2 => ?_
  have hi : i < n := by rw [← hA.1]; exact h1
  have e1 : A[i] = row A i := by unfold row; rw [List.getD_eq_getElem?_getD, List.getElem?_eq_getElem h1]; rfl
  have e2 : C[i] = row C i := by unfold row; rw [List.getD_eq_getElem?_getD, List.getElem?_eq_getElem h2]; rfl
  rw [e1, e2]
  exact ext0 (by rw [hA.2 i hi, hC.2 i hi]) fun j hj => h i j hi (by rw [← hA.2 i hi]; exact hj)
/-- What Inverse tells: a matrix' inverse on both sides, if no rank is lost. -/
theorem inverse_yes {n : Nat} {A : Mat} (hn : 0 < n) (hA : Reg A n n) (h : (redF n 0 0 A (idM n)).1 = n) :
    Reg (redF n 0 0 A (idM n)).2.2 n n ∧ (∀ i j, i < n → j < n → mm n (el (redF n 0 0 A (idM n)).2.2) (el A) i j = I i j) ∧ ∀ i j, i < n → j < n → mm n (el A) (el (redF n 0 0 A (idM n)).2.2) i j = I i j := by
  obtain ⟨r1, r2, r3, r4, r5⟩ := redF_spec n 0 0 A (idM n) (by omega) hn hA (matF_reg n n I)
  have hI := (r5 (done_start n A)).2 h rfl
  have r4' : Rturn n n n (el A) I (el (redF n 0 0 A (idM n)).2.1) (el (redF n 0 0 A (idM n)).2.2) := by
    obtain ⟨E, F, h1, h2, h3⟩ := r4
    exact ⟨E, F, h1, h2, fun i j hi hj => (h3 i j hi hj).trans (mm_congr (fun _ _ => rfl) (fun k hk => el_matF I hk hj))⟩
  obtain ⟨q1, q2⟩ := r4'.inverse (fun i j hi hj => hI i hi j hj)
  exact ⟨r2, q1, q2⟩
/-- If a rank is lost, some rows cancel out. -/
theorem inverse_no {n : Nat} {A Z : Mat} {p : Nat} (hn : 0 < n) (hA : Reg A n n) (hZ : Reg Z n p) (h : (redF n 0 0 A Z).1 < n) : ∃ y : Nat → B, (∀ j, j < n → sm n (fun k => mul (y k) (el A k j)) = 0#8) ∧ ∃ k, k < n ∧ y k ≠ 0#8 := by
  obtain ⟨r1, r2, r3, r4, r5⟩ := redF_spec n 0 0 A Z (by omega) hn hA hZ
  exact r4.null h ((r5 (done_start n A)).1 h)
theorem redF_le {n m p : Nat} {A Z : Mat} (hn : 0 < n) (hA : Reg A n m) (hZ : Reg Z n p) : (redF m 0 0 A Z).1 ≤ n := (redF_spec m 0 0 A Z (by omega) hn hA hZ).2.2.1
end Go.Proofs.Ytbogmlckbkogiaa.Red
namespace Go.Proofs.Ytbogmlckbkogiaa.Red
open Go.RowKit Go.Proofs.YtbogmlckbkogiaaW.PrintWords Go.Proofs.Ytbogmlckbkogiaa.Leaf Go.Proofs.Ytbogmlckbkogiaa.Gf Go.Proofs.Ytbogmlckbkogiaa.H Go.Proofs.Ytbogmlckbkogiaa.Mx Go.Proofs.Ytbogmlckbkogiaa.P
set_option linter.unusedVariables false
set_option linter.unusedSimpArgs false
def oM (A : Mat) : List (List Int) := A.map ofL
theorem oM_length (A : Mat) : (oM A).length = A.length := List.length_map _
theorem rd_oM (A : Mat) (i : Nat) : rd_L1 (oM A) (i : Int) = ofL (row A i) := map_getD A i
theorem rd_oM0 (A : Mat) : rd_L1 (oM A) 0 = ofL (row A 0) := map_getD A 0
theorem oM_set (A : Mat) (i : Nat) (r : List B) : (oM A).set i (ofL r) = oM (A.set i r) := map_set A i r
theorem oM_append (A C : Mat) : oM A ++ oM C = oM (A ++ C) := by unfold oM; rw [List.map_append]
theorem oM_one (r : List B) : [ofL r] = oM [r] := rfl
def zeroM (n m : Nat) : Mat := List.replicate n (List.replicate m 0#8)
theorem zeroM_reg (n m : Nat) : Reg (zeroM n m) n m := by
  refine ⟨List.length_replicate .., fun i hi => ?_⟩
  unfold row zeroM
  rw [List.getD_eq_getElem?_getD, List.getElem?_replicate, if_pos hi]
  simp
theorem el_zeroM {n m i j : Nat} (hi : i < n) (hj : j < m) : el (zeroM n m) i j = 0#8 := by
  unfold el row zeroM at0
  rw [List.getD_eq_getElem?_getD (l := List.replicate n _), List.getElem?_replicate, if_pos hi]
  rw [Option.getD_some, List.getD_eq_getElem?_getD, List.getElem?_replicate, if_pos hj]
  rfl
theorem zeros_l0 (n m : Nat) (hm : m ≤ 281474976710656) (hn : n < 2 ^ 62) (d : Nat) : ∀ (i : Nat) (X : List (List Int)), i + d = n → X.length = n → (∀ j, j < i → X.getD j [] = List.replicate m 0) → Ev (fun k => matrix_zeros.l0 k (m : Int) X (n : Int) (i : Int)) (List.replicate n (List.replicate m 0)) := by
  induction d with
  | zero =>
    intro i X hi hl h
    refine Ev.step (f := fun _ => some X) (fun k => ?_) ?_
    · simp only [matrix_zeros.l0]
      rw [if_neg (by omega)]
    · rw [show List.replicate n (List.replicate m (0 : Int)) = X from List.ext_getElem (by rw [List.length_replicate, hl]) fun j h1 h2 => by
        have h3 := h j (by omega)
        rw [List.getD_eq_getElem?_getD, List.getElem?_eq_getElem h2] at h3
        rw [List.getElem_replicate]
        exact h3.symm]
      exact Ev.now _
  | succ d ih =>
    intro i X hi hl h
    refine Ev.step (f := fun k => matrix_zeros.l0 k (m : Int) (X.set i (List.replicate m 0)) (n : Int) ((i + 1 : Nat) : Int)) (fun k => ?_) (ih (i + 1) _ (by omega) (by rw [List.length_set]; exact hl) (fun j hj => ?_))
    · simp only [matrix_zeros.l0, hl, Int.toNat_natCast]
      rw [if_pos (by omega), if_pos (by omega), if_pos hm, if_pos (by omega), if_pos (by omega), w64 _ (by omega) (by omega)]
      rfl
    · simp only [List.getD_eq_getElem?_getD, List.getElem?_set]
      by_cases e : i = j
      · subst e; rw [if_pos rfl, if_pos (by omega)]; rfl
      · rw [if_neg e]
        have := h j (by omega)
        rwa [List.getD_eq_getElem?_getD] at this
theorem evZeros (n m : Nat) (hm : m ≤ 281474976710656) (hn : n ≤ 11728124029610) : Ev (fun k => matrix_zeros.f k (n : Int) (m : Int)) (oM (zeroM n m)) := by
  unfold matrix_zeros.f
  simp only [show ((0 : Int) ≤ (n : Int)) = True from eq_true (by omega), if_true, Int.toNat_natCast, show (n ≤ 11728124029610) = True from eq_true hn, Option.bind_some, List.length_replicate]
  have e : oM (zeroM n m) = List.replicate n (List.replicate m 0) := by unfold oM zeroM; rw [List.map_replicate, ofL_replicate]
  rw [e]
  exact zeros_l0 n m hm (by omega) n 0 _ (by omega) (List.length_replicate ..) (fun j hj => by omega)
theorem set_one (r : List B) (i : Nat) : (ofL r).set i 1 = ofL (r.set i 1#8) := by rw [← ofB_one, ofL_set]
/-- The identity's rows, the first i of them done. -/
theorem id_l0 (n : Nat) (hn : n ≤ 255) (d : Nat) : ∀ i : Nat, i + d = n → Ev (fun k => matrix_Identity.l0 k (oM (matF n n (fun a b => if a < i then I a b else 0#8))) (n : Int) (i : Int)) (oM (idM n), 0) := by
  induction d with
  | zero =>
    intro i hi
    refine Ev.step (f := fun _ => some (oM (idM n), 0)) (fun k => ?_) (Ev.now _)
    simp only [matrix_Identity.l0]
    rw [if_neg (by omega), idM_eq, mat_ext (matF_reg n n _) (matF_reg n n I) (fun a b ha hb => by rw [el_matF _ ha hb, el_matF _ ha hb, if_pos (by omega)])]
  | succ d ih =>
    intro i hi
    have hr := (matF_reg n n (fun a b => if a < i then I a b else 0#8))
    have e : (matF n n (fun a b => if a < i then I a b else 0#8)).set i ((row (matF n n (fun a b => if a < i then I a b else 0#8)) i).set i 1#8) = matF n n (fun a b => if a < i + 1 then I a b else 0#8) := by
      refine mat_ext (hr.set (by omega) (by rw [List.length_set]; exact hr.2 i (by omega))) (matF_reg n n _) (fun a b ha hb => ?_)
      unfold el
      rw [row_set _ _ _ _ (by rw [hr.1]; omega)]
      show _ = el (matF n n _) a b
      rw [el_matF _ ha hb]
      by_cases e : a = i
      · subst e
        rw [if_pos rfl, at0_set _ _ _ _ (by rw [hr.2 a ha]; exact ha)]
        by_cases e2 : a = b
        · rw [if_pos e2, if_pos (by omega)]; unfold I; rw [if_pos e2]
        · rw [if_neg e2]
          show el (matF n n _) a b = _
          rw [el_matF _ ha hb, if_neg (by omega), if_pos (by omega)]
          unfold I; rw [if_neg e2]
      · rw [if_neg e]
        show el (matF n n _) a b = _
        rw [el_matF _ ha hb]
        by_cases e2 : a < i
        · rw [if_pos e2, if_pos (by omega)]
        · rw [if_neg e2, if_neg (by omega)]
    refine Ev.step (f := fun k => matrix_Identity.l0 k (oM (matF n n (fun a b => if a < i + 1 then I a b else 0#8))) (n : Int) ((i + 1 : Nat) : Int)) (fun k => ?_) (ih (i + 1) (by omega))
    simp only [matrix_Identity.l0, oM_length, rd_oM, ofL_length, hr.1, hr.2 i (by omega), Int.toNat_natCast]
    rw [if_pos (by omega), if_pos (by omega), if_pos (by omega), if_pos (by omega), set_one, oM_set, e, w64 _ (by omega) (by omega)]
    rfl
def idR (n : Int) : List (List Int) × Int := if 1 ≤ n ∧ n ≤ 255 then (oM (idM n.toNat), 0) else ([], 1)
theorem evIdentity (n : Int) : Ev (fun k => matrix_Identity.f k n) (idR n) := by
  unfold matrix_Identity.f idR
  have j1 : Ev (fun k => matrix_Identity.j0 k n true) ([], 1) := Ev.step (f := fun _ => some ([], 1)) (fun k => by simp only [matrix_Identity.j0, if_true]) (Ev.now _)
  by_cases h1 : n < 1
  · simp only [show (n < 1) = True from eq_true h1, if_true]
    rw [if_neg (by omega)]
    exact j1
  · simp only [show (n < 1) = False from eq_false h1, if_false]
    by_cases h2 : n > 255
    · simp only [show decide (n > 255) = true from decide_eq_true h2]
      rw [if_neg (by omega)]
      exact j1
    · simp only [show decide (n > 255) = false from decide_eq_false h2]
      rw [if_pos (by omega)]
      obtain ⟨m, rfl⟩ := Int.eq_ofNat_of_zero_le (show 0 ≤ n by omega)
      rw [Int.toNat_natCast]
      have hz : zeroM m m = matF m m (fun a b => if a < 0 then I a b else 0#8) := mat_ext (zeroM_reg m m) (matF_reg m m _) fun a b ha hb => by rw [el_zeroM ha hb, el_matF _ ha hb, if_neg (by omega)]
      refine Ev.step (f := fun k => (matrix_zeros.f k (m : Int) (m : Int)).bind fun t101 => matrix_Identity.l0 k t101 (t101.length : Int) 0) (fun k => by simp only [matrix_Identity.j0, Bool.false_eq_true, if_false]) ?_
      refine Ev.bind (evZeros m m (by omega) (by omega)) ?_
      rw [oM_length, (zeroM_reg m m).1, hz]
      exact id_l0 m (by omega) m 0 (by omega)
theorem refId_l0 (n : Nat) (hn : n ≤ 281474976710656) (hn2 : n < 5864062014805) (d : Nat) : ∀ i : Nat, i + d = n → Ev (fun k => mooringref02_Identity.l0 k (n : Int) (oM (matF i n I)) (i : Int)) (oM (idM n)) := by
  induction d with
  | zero =>
    intro i hi
    obtain rfl : i = n := by omega
    refine Ev.step (f := fun _ => some (oM (matF i i I))) (fun k => ?_) (Ev.now _)
    simp only [mooringref02_Identity.l0]
    rw [if_neg (by omega)]
  | succ d ih =>
    intro i hi
    refine Ev.step (f := fun k => mooringref02_Identity.l0 k (n : Int) (oM (matF (i + 1) n I)) ((i + 1 : Nat) : Int)) (fun k => ?_) (ih (i + 1) (by omega))
    simp only [mooringref02_Identity.l0, Int.toNat_natCast, Option.bind_some, List.length_replicate, oM_length, (matF_reg i n I).1]
    have e : (List.replicate n (0 : Int)).set i 1 = ofL ((List.range n).map (I i)) := by
      rw [ofL_replicate, ← ofB_one, ofL_set]
      congr 1
      refine ext0 (by simp) fun j hj => ?_
      simp only [List.length_set, List.length_replicate] at hj
      rw [at0_set _ _ _ _ (by rw [List.length_replicate]; omega), at0_map _ _ _ hj]
      unfold I
      by_cases e : i = j
      · rw [if_pos e, if_pos e]
      · rw [if_neg e, if_neg e]
        unfold at0
        simp [List.getD_eq_getElem?_getD, hj]
    rw [if_pos (by omega), if_pos (by omega), if_pos hn, if_pos (by omega), if_pos (by omega), if_pos (by omega), e, oM_one, oM_append, w64 _ (by omega) (by omega)]
    have e2 : matF i n I ++ [(List.range n).map (I i)] = matF (i + 1) n I := by unfold matF; rw [List.range_succ, List.map_append]; rfl
    rw [e2]
    rfl
theorem evRefIdentity (n : Nat) (hn : n < 5864062014805) : Ev (fun k => mooringref02_Identity.f k (n : Int)) (oM (idM n)) := by
  unfold mooringref02_Identity.f
  exact refId_l0 n (by omega) hn n 0 (by omega)
theorem uneven {A : Mat} (h : ¬ ∀ j, j < A.length → (row A j).length = (row A 0).length) : ∃ j, j < A.length ∧ (row A j).length ≠ (row A 0).length := by
  apply Classical.byContradiction
  intro hn
  exact h fun j hj => Classical.byContradiction fun he => hn ⟨j, hj, he⟩
end Go.Proofs.Ytbogmlckbkogiaa.Red
namespace Go.Proofs.Ytbogmlckbkogiaa.P
open Go.Proofs.Ytbogmlckbkogiaa.Leaf
open Go.RowKit Go.Proofs.YtbogmlckbkogiaaW.PrintWords Go.Proofs.YtbogmlckbkogiaaW.PrintLast Go.Proofs.YtbogmlckbkogiaaW.PrintMore
attribute [local go_sem] max2_int min2_int max_two min_two max_three min_three max_four min_four   -- for this text's walks alone
set_option linter.unusedVariables false
set_option linter.unusedSimpArgs false
mutual
def matrix_Check.j0 : Nat → List (List Int) → Bool → Option (Int)
  | 0, _, _ => none
  | k + 1, x0, x26 => if x26 = true then (some 1) else (matrix_Check.l0 k x0 x0 (x0.length : Int) 0)
def matrix_Check.l0 : Nat → List (List Int) → List (List Int) → Int → Int → Option (Int)
  | 0, _, _, _, _ => none
  | k + 1, x0, x27, x28, x29 => if x29 < x28 then (if 0 ≤ x29 then (if x29 < (x27.length : Int) then (if 0 < (x0.length : Int) then (if ((rd_L1 x27 x29).length : Int) = ((rd_L1 x0 0).length : Int) then (matrix_Check.l0 k x0 x27 x28 (wrap64 (x29 + 1))) else (some 1)) else (none)) else (none)) else (none)) else (some 0)
end
def matrix_Check.f (k : Nat) (l0 : List (List Int)) : Option (Int) := if (l0.length : Int) = 0 then (matrix_Check.j0 k l0 true) else (if (l0.length : Int) > 255 then (matrix_Check.j0 k l0 true) else (if 0 < (l0.length : Int) then (if ((rd_L1 l0 0).length : Int) = 0 then (matrix_Check.j0 k l0 true) else (matrix_Check.j0 k l0 (decide (((rd_L1 l0 0).length : Int) > 255)))) else (none)))
theorem matrix_Check.mono_l : ∀ k, (∀ y0 y1, LeO (matrix_Check.j0 k y0 y1) (matrix_Check.j0 (k + 1) y0 y1)) ∧ (∀ y0 y1 y2 y3, LeO (matrix_Check.l0 k y0 y1 y2 y3) (matrix_Check.l0 (k + 1) y0 y1 y2 y3))
  | 0 => ⟨fun _ _ r h => by simp [matrix_Check.j0] at h, fun _ _ _ _ r h => by simp [matrix_Check.l0] at h⟩
  | k + 1 => by
    obtain ⟨ih0, ih1⟩ := matrix_Check.mono_l k
    refine ⟨?_, ?_⟩
    · intro y0 y1
      unfold matrix_Check.j0
      repeat' first
      | (with_reducible exact ih0 _ _)
      | (with_reducible exact ih1 _ _ _ _)
      | (with_reducible exact LeO.refl _)
      | (with_reducible exact LeO.none _)
      | (with_reducible refine LeO.ite ?_ ?_)
      | (with_reducible refine LeO.bind ?_ (fun _ => ?_))
      | exact ih0 _ _
      | exact ih1 _ _ _ _
      | exact LeO.none _
      | refine LeO.ite ?_ ?_
      | refine LeO.bind ?_ (fun _ => ?_)
    · intro y0 y1 y2 y3
      unfold matrix_Check.l0
      repeat' first
      | (with_reducible exact ih0 _ _)
      | (with_reducible exact ih1 _ _ _ _)
      | (with_reducible exact LeO.refl _)
      | (with_reducible exact LeO.none _)
      | (with_reducible refine LeO.ite ?_ ?_)
      | (with_reducible refine LeO.bind ?_ (fun _ => ?_))
      | exact ih0 _ _
      | exact ih1 _ _ _ _
      | exact LeO.none _
      | refine LeO.ite ?_ ?_
      | refine LeO.bind ?_ (fun _ => ?_)
theorem matrix_Check.mono : ∀ a0 k, LeO (matrix_Check.f k a0) (matrix_Check.f (k + 1) a0) := by
  intro a0 k
  obtain ⟨ih0, ih1⟩ := matrix_Check.mono_l k
  unfold matrix_Check.f
  repeat' first
      | (with_reducible exact ih0 _ _)
      | (with_reducible exact ih1 _ _ _ _)
      | (with_reducible exact LeO.refl _)
      | (with_reducible exact LeO.none _)
      | (with_reducible refine LeO.ite ?_ ?_)
      | (with_reducible refine LeO.bind ?_ (fun _ => ?_))
      | exact ih0 _ _
      | exact ih1 _ _ _ _
      | exact LeO.none _
      | refine LeO.ite ?_ ?_
      | refine LeO.bind ?_ (fun _ => ?_)
set_option maxHeartbeats 8000000 in
set_option maxRecDepth 100000 in
theorem matrix_Check.calls (k : Nat) (A0 : Option Addr) (c0 : Nat) (l0 : List (List Int)) (r : Int) (w : World) (hr0 : Kd.C (Kd.slice 5 (Kd.int .u8)) w A0 l0.length l0) (hc0 : l0.length ≤ c0) (h : matrix_Check.f k l0 = some r) :
    Calls Try.prog 65 #[.slice A0 l0.length c0] w fun e w' => e = .returned (.int .i64 r) ∧ Drawn0 w w' := by
  have HR0 := Aside0.mk hr0
  have HC0 := Aside0.mk hc0
  clear hr0 hc0
  have H : (if (l0.length : Int) = 0 then (matrix_Check.j0 k l0 true) else (if (l0.length : Int) > 255 then (matrix_Check.j0 k l0 true) else (if 0 < (l0.length : Int) then (if ((rd_L1 l0 0).length : Int) = 0 then (matrix_Check.j0 k l0 true) else (matrix_Check.j0 k l0 (decide (((rd_L1 l0 0).length : Int) > 255)))) else (none)))) = some r := h
  clear h
  have HC2 := Aside0.mk H
  clear H
  go_enter Try.func65, Try.ntmps65
  go_upto_region 1 with (fail)
  go_cut [26] (fun v26 wc => ∃ (kq : Nat) (x26_1 : Bool), v26 = .bool x26_1 ∧ Aside0 (matrix_Check.j0 kq l0 x26_1 = some r) ∧ Aside0 (kq ≤ k) ∧ Drawn0 w wc)
  case first =>
    have H := HC2.out
    clear HC2
    by_cases c3 : (l0.length : Int) = 0
    · rw [if_pos c3] at H
      have c3b0 : ((l0.length : Int) == 0) = true := beq_iff_eq.mpr c3
      have c3b1 : ((l0.length : Int) != 0) = false := bne_eq_false_iff_eq.mpr c3
      clear c3
      (first | rw [c3b0] | (simp only [i64_w, i32_w]; rw [c3b0]) | skip)
      have H' := Aside0.mk H
      clear H
      go_wp2
      go_meet
      case rel => exact ⟨_, (true), (by first | rfl | (simp; done) | (simp [*]; done)), H', ⟨by first | omega | exact Nat.le_refl _⟩, by repeat (first | exact Drawn0.refl _ | apply Drawn0.step)⟩
    · rw [if_neg c3] at H
      have c3b0 : ((l0.length : Int) == 0) = false := beq_eq_false_iff_ne.mpr c3
      have c3b1 : ((l0.length : Int) != 0) = true := bne_iff_ne.mpr c3
      have c3b2 : ¬ (l0 = []) := fun h_ => c3 (by rw [h_]; rfl)
      (first | rw [c3b0] | (simp only [i64_w, i32_w]; rw [c3b0]) | skip)
      by_cases c4 : (l0.length : Int) > 255
      · rw [if_pos c4] at H
        have c4b0 : decide (255 < (l0.length : Int)) = true := decide_eq_true c4
        have c4b1 : decide (255 < l0.length) = true := decide_eq_true (by omega)
        clear c4
        have H' := Aside0.mk H
        clear H
        go_wp2
        go_meet
        case rel => exact ⟨_, (true), (by first | rfl | (simp; done) | (simp [*]; done)), H', ⟨by first | omega | exact Nat.le_refl _⟩, by repeat (first | exact Drawn0.refl _ | apply Drawn0.step)⟩
      · rw [if_neg c4] at H
        have c4b0 : decide (255 < (l0.length : Int)) = false := decide_eq_false c4
        have c4b1 : decide (255 < l0.length) = false := decide_eq_false (by omega)
        clear c4
        by_cases c5 : 0 < (l0.length : Int)
        · rw [if_pos c5] at H
          have c5b0 : decide (0 < (l0.length : Int)) = true := decide_eq_true c5
          have c5b1 : decide (0 < l0.length) = true := decide_eq_true (by omega)
          clear c5
          by_cases c6 : ((rd_L1 l0 0).length : Int) = 0
          · rw [if_pos c6] at H
            have c6b0 : (((rd_L1 l0 0).length : Int) == 0) = true := beq_iff_eq.mpr c6
            have c6b1 : (((rd_L1 l0 0).length : Int) != 0) = false := bne_eq_false_iff_eq.mpr c6
            clear c6
            have H' := Aside0.mk H
            clear H
            have p101 : 0 ≤ (0 : Int) := (by omega)
            have q101 : 0 < (l0.length : Int) := of_decide_eq_true (by first | (with_reducible assumption) | assumption)
            obtain ⟨ad101, A101_0, c101_0, e101, hx101_0, hl101_0, hi101_0⟩ := at_L1 HR0.out 0 p101 q101
            cases e101
            have qi101 : (0 < l0.length) = True := eq_true (by omega)
            (try rw [show ((0 : Int)).toNat = 0 from rfl] at hx101_0)
            (try rw [Addr.add_zero'] at hx101_0)
            have HR101_0 := Aside0.mk hi101_0
            have HC101_0 := Aside0.mk hl101_0
            clear hi101_0 hl101_0
            replace p101 := eq_true p101
            replace q101 := eq_true q101
            go_wp2
            go_meet
            case rel => exact ⟨_, (true), (by first | rfl | (simp; done) | (simp [*]; done)), H', ⟨by first | omega | exact Nat.le_refl _⟩, by repeat (first | exact Drawn0.refl _ | apply Drawn0.step)⟩
          · rw [if_neg c6] at H
            have c6b0 : (((rd_L1 l0 0).length : Int) == 0) = false := beq_eq_false_iff_ne.mpr c6
            have c6b1 : (((rd_L1 l0 0).length : Int) != 0) = true := bne_iff_ne.mpr c6
            have c6b2 : ¬ ((rd_L1 l0 0) = []) := fun h_ => c6 (by rw [h_]; rfl)
            have H' := Aside0.mk H
            clear H
            have p101 : 0 ≤ (0 : Int) := (by omega)
            have q101 : 0 < (l0.length : Int) := of_decide_eq_true (by first | (with_reducible assumption) | assumption)
            obtain ⟨ad101, A101_0, c101_0, e101, hx101_0, hl101_0, hi101_0⟩ := at_L1 HR0.out 0 p101 q101
            cases e101
            have qi101 : (0 < l0.length) = True := eq_true (by omega)
            (try rw [show ((0 : Int)).toNat = 0 from rfl] at hx101_0)
            (try rw [Addr.add_zero'] at hx101_0)
            have HR101_0 := Aside0.mk hi101_0
            have HC101_0 := Aside0.mk hl101_0
            clear hi101_0 hl101_0
            replace p101 := eq_true p101
            replace q101 := eq_true q101
            have p102 : 0 ≤ (0 : Int) := (by omega)
            have q102 : 0 < (l0.length : Int) := of_decide_eq_true (by first | (with_reducible assumption) | assumption)
            obtain ⟨ad102, A102_0, c102_0, e102, hx102_0, hl102_0, hi102_0⟩ := at_L1 HR0.out 0 p102 q102
            obtain rfl : ad101 = ad102 := (by injection e102)
            have qi102 : (0 < l0.length) = True := eq_true (by omega)
            (try rw [show ((0 : Int)).toNat = 0 from rfl] at hx102_0)
            (try rw [Addr.add_zero'] at hx102_0)
            have HR102_0 := Aside0.mk hi102_0
            have HC102_0 := Aside0.mk hl102_0
            clear hi102_0 hl102_0
            replace p102 := eq_true p102
            replace q102 := eq_true q102
            have ea_ := Option.some.inj (hx101_0.symm.trans hx102_0)
            injection ea_ with ea_ en_ ec_
            subst ea_
            subst ec_
            clear en_
            go_wp2
            go_meet
            case rel => exact ⟨_, (decide (((rd_L1 l0 0).length : Int) > 255)), (by first | rfl | (simp; done) | (simp [*]; done)), H', ⟨by first | omega | exact Nat.le_refl _⟩, by repeat (first | exact Drawn0.refl _ | apply Drawn0.step)⟩
        · rw [if_neg c5] at H
          exact absurd H (by simp)
  case rest =>
    clear HC2
    try clear c1
    try clear p1
    try clear q1
    try clear hx1
    try clear qi1
    try clear p2
    try clear c3
    try clear c3b0
    try clear c3b1
    try clear c3b2
    try clear c4
    try clear c4b0
    try clear c4b1
    try clear c5
    try clear c5b0
    try clear c5b1
    try clear c6
    try clear c6b0
    try clear c6b1
    try clear c6b2
    try clear hx101_0
    try clear hx102_0
    try clear p101
    try clear p102
    try clear q101
    try clear q102
    obtain ⟨kq, x26_1, rfl, HA, HJ1, ⟨mc1, rfl⟩⟩ := hcut
    cases kq with
    | zero => exact absurd HA.out (by simp [matrix_Check.j0])
    | succ kj1 =>
      have H := HA.out
      clear HA
      simp only [matrix_Check.j0] at H
      by_cases c7 : x26_1 = true
      · subst c7
        have H1 : (some 1) = some r := by rw [if_pos rfl] at H; exact H
        clear H
        have H := H1
        clear H1
        obtain rfl := Option.some.inj H
        go_wp2
        go_ret
        exact ⟨by first | rfl | (simp; done) | (simp [*]; done), by repeat (first | exact Drawn0.refl _ | apply Drawn0.step)⟩
      · replace c7 := Bool.eq_false_iff.mpr c7
        subst c7
        have H1 : (matrix_Check.l0 kj1 l0 l0 (l0.length : Int) 0) = some r := by rw [if_neg (show ¬ (false = true) by decide)] at H; exact H
        clear H
        have H := H1
        clear H1
        have H' := Aside0.mk H
        clear H
        go_wp2
        go_loopg [29] kj1 (fun kq v29 w' => ∃ (x29_2 : Int), v29 = .int .i64 x29_2 ∧ Aside0 (matrix_Check.l0 kq l0 l0 (l0.length : Int) x29_2 = some r) ∧ Aside0 (kq ≤ kj1) ∧ Drawn0 w w')
        case atStart => exact ⟨(0), (by first | rfl | (simp; done) | (simp [*]; done)), H', ⟨Nat.le_refl _⟩, by repeat (first | exact Drawn0.refl _ | apply Drawn0.step)⟩
        case round =>
          clear H'
          try clear c1
          try clear p1
          try clear q1
          try clear hx1
          try clear qi1
          try clear p2
          try clear c3
          try clear c3b0
          try clear c3b1
          try clear c3b2
          try clear c4
          try clear c4b0
          try clear c4b1
          try clear c5
          try clear c5b0
          try clear c5b1
          try clear c6
          try clear c6b0
          try clear c6b1
          try clear c6b2
          try clear c7
          try clear hx101_0
          try clear hx102_0
          try clear p1
          try clear p101
          try clear p102
          try clear p2
          try clear q1
          try clear q101
          try clear q102
          obtain ⟨x29_2, rfl, HA, HK2, ⟨m2, rfl⟩⟩ := hrel
          cases gk with
          | zero => exact absurd HA.out (by simp [matrix_Check.l0])
          | succ k2 =>
            have H := HA.out
            clear HA
            simp only [matrix_Check.l0] at H
            by_cases c8 : x29_2 < (l0.length : Int)
            · rw [if_pos c8] at H
              have c8b0 : decide (x29_2 < (l0.length : Int)) = true := decide_eq_true c8
              clear c8
              by_cases c9 : 0 ≤ x29_2
              · rw [if_pos c9] at H
                have c9b0 : decide (0 ≤ x29_2) = true := decide_eq_true c9
                clear c9
                by_cases c10 : x29_2 < (l0.length : Int)
                · rw [if_pos c10] at H
                  have c10b0 : decide (x29_2 < (l0.length : Int)) = true := decide_eq_true c10
                  clear c10
                  by_cases c11 : 0 < (l0.length : Int)
                  · rw [if_pos c11] at H
                    have c11b0 : decide (0 < (l0.length : Int)) = true := decide_eq_true c11
                    have c11b1 : decide (0 < l0.length) = true := decide_eq_true (by omega)
                    clear c11
                    by_cases c12 : ((rd_L1 l0 x29_2).length : Int) = ((rd_L1 l0 0).length : Int)
                    · rw [if_pos c12] at H
                      have c12b0 : (((rd_L1 l0 x29_2).length : Int) == ((rd_L1 l0 0).length : Int)) = true := beq_iff_eq.mpr c12
                      have c12b1 : (((rd_L1 l0 x29_2).length : Int) != ((rd_L1 l0 0).length : Int)) = false := bne_eq_false_iff_eq.mpr c12
                      have c12b2 : ((rd_L1 l0 x29_2).length == (rd_L1 l0 0).length) = true := by first | simpa using c12 | (simp at c12 ⊢; omega)
                      clear c12
                      have H' := Aside0.mk H
                      clear H
                      have p103 : 0 ≤ (x29_2 : Int) := of_decide_eq_true (by first | (with_reducible assumption) | assumption)
                      have q103 : x29_2 < (l0.length : Int) := of_decide_eq_true (by first | (with_reducible assumption) | assumption)
                      obtain ⟨ad103, A103_0, c103_0, e103, hx103_0, hl103_0, hi103_0⟩ := at_L1 HR0.out x29_2 p103 q103
                      cases e103
                      have HR103_0 := Aside0.mk hi103_0
                      have HC103_0 := Aside0.mk hl103_0
                      clear hi103_0 hl103_0
                      replace p103 := eq_true p103
                      replace q103 := eq_true q103
                      have p104 : 0 ≤ (0 : Int) := (by omega)
                      have q104 : 0 < (l0.length : Int) := of_decide_eq_true (by first | (with_reducible assumption) | assumption)
                      obtain ⟨ad104, A104_0, c104_0, e104, hx104_0, hl104_0, hi104_0⟩ := at_L1 HR0.out 0 p104 q104
                      obtain rfl : ad103 = ad104 := (by injection e104)
                      have qi104 : (0 < l0.length) = True := eq_true (by omega)
                      (try rw [show ((0 : Int)).toNat = 0 from rfl] at hx104_0)
                      (try rw [Addr.add_zero'] at hx104_0)
                      have HR104_0 := Aside0.mk hi104_0
                      have HC104_0 := Aside0.mk hl104_0
                      clear hi104_0 hl104_0
                      replace p104 := eq_true p104
                      replace q104 := eq_true q104
                      go_wp2
                      go_roundg k2
                      case measure => have := HJ1.out; have := HK2.out; omega
                      case rel => exact ⟨(wrap64 (x29_2 + 1)), (by first | rfl | (simp; done) | (simp [*]; done)), H', ⟨by have := HJ1.out; have := HK2.out; omega⟩, by repeat (first | exact Drawn0.refl _ | apply Drawn0.step)⟩
                    · rw [if_neg c12] at H
                      have c12b0 : (((rd_L1 l0 x29_2).length : Int) == ((rd_L1 l0 0).length : Int)) = false := beq_eq_false_iff_ne.mpr c12
                      have c12b1 : (((rd_L1 l0 x29_2).length : Int) != ((rd_L1 l0 0).length : Int)) = true := bne_iff_ne.mpr c12
                      have c12b2 : ((rd_L1 l0 x29_2).length == (rd_L1 l0 0).length) = false := by first | simpa using c12 | (simp at c12 ⊢; omega)
                      obtain rfl := Option.some.inj H
                      have p103 : 0 ≤ (x29_2 : Int) := of_decide_eq_true (by first | (with_reducible assumption) | assumption)
                      have q103 : x29_2 < (l0.length : Int) := of_decide_eq_true (by first | (with_reducible assumption) | assumption)
                      obtain ⟨ad103, A103_0, c103_0, e103, hx103_0, hl103_0, hi103_0⟩ := at_L1 HR0.out x29_2 p103 q103
                      cases e103
                      have HR103_0 := Aside0.mk hi103_0
                      have HC103_0 := Aside0.mk hl103_0
                      clear hi103_0 hl103_0
                      replace p103 := eq_true p103
                      replace q103 := eq_true q103
                      have p104 : 0 ≤ (0 : Int) := (by omega)
                      have q104 : 0 < (l0.length : Int) := of_decide_eq_true (by first | (with_reducible assumption) | assumption)
                      obtain ⟨ad104, A104_0, c104_0, e104, hx104_0, hl104_0, hi104_0⟩ := at_L1 HR0.out 0 p104 q104
                      obtain rfl : ad103 = ad104 := (by injection e104)
                      have qi104 : (0 < l0.length) = True := eq_true (by omega)
                      (try rw [show ((0 : Int)).toNat = 0 from rfl] at hx104_0)
                      (try rw [Addr.add_zero'] at hx104_0)
                      have HR104_0 := Aside0.mk hi104_0
                      have HC104_0 := Aside0.mk hl104_0
                      clear hi104_0 hl104_0
                      replace p104 := eq_true p104
                      replace q104 := eq_true q104
                      go_wp2
                      go_ret
                      exact ⟨by first | rfl | (simp; done) | (simp [*]; done), by repeat (first | exact Drawn0.refl _ | apply Drawn0.step)⟩
                  · rw [if_neg c11] at H
                    exact absurd H (by simp)
                · rw [if_neg c10] at H
                  exact absurd H (by simp)
              · rw [if_neg c9] at H
                exact absurd H (by simp)
            · rw [if_neg c8] at H
              have c8b0 : decide (x29_2 < (l0.length : Int)) = false := decide_eq_false c8
              clear c8
              obtain rfl := Option.some.inj H
              go_wp2
              go_ret
              exact ⟨by first | rfl | (simp; done) | (simp [*]; done), by repeat (first | exact Drawn0.refl _ | apply Drawn0.step)⟩
end Go.Proofs.Ytbogmlckbkogiaa.P
namespace Go.Proofs.Ytbogmlckbkogiaa.P
open Go.Proofs.Ytbogmlckbkogiaa.Leaf
open Go.RowKit Go.Proofs.YtbogmlckbkogiaaW.PrintWords Go.Proofs.YtbogmlckbkogiaaW.PrintLast Go.Proofs.YtbogmlckbkogiaaW.PrintMore
attribute [local go_sem] max2_int min2_int max_two min_two max_three min_three max_four min_four   -- for this text's walks alone
set_option linter.unusedVariables false
set_option linter.unusedSimpArgs false
def matrix_own.l0 : Nat → List (List Int) → List (List Int) → Int → Int → Option ((List (List Int)))
  | 0, _, _, _, _ => none
  | k + 1, x3, x9, x10, x11 => if x11 < x10 then (if 0 ≤ x11 then (if x11 < (x9.length : Int) then ((slices_Clone_byte_byte.f (rd_L1 x9 x11)).bind fun t105 => (if x11 < (x3.length : Int) then (matrix_own.l0 k (x3.set (x11 : Int).toNat t105) x9 x10 (wrap64 (x11 + 1))) else (none))) else (none)) else (none)) else (some x3)
def matrix_own.f (k : Nat) (l0 : List (List Int)) : Option ((List (List Int))) := if 0 ≤ (l0.length : Int) then (if ((l0.length : Int) : Int).toNat ≤ 11728124029610 then (matrix_own.l0 k (List.replicate ((l0.length : Int) : Int).toNat []) l0 (l0.length : Int) 0) else (none)) else (none)
theorem matrix_own.mono_l : ∀ k, (∀ y0 y1 y2 y3, LeO (matrix_own.l0 k y0 y1 y2 y3) (matrix_own.l0 (k + 1) y0 y1 y2 y3))
  | 0 => fun _ _ _ _ r h => by simp [matrix_own.l0] at h
  | k + 1 => by
    have ih0 := matrix_own.mono_l k
    · intro y0 y1 y2 y3
      unfold matrix_own.l0
      repeat' first
      | (with_reducible exact ih0 _ _ _ _)
      | (with_reducible exact LeO.refl _)
      | (with_reducible exact LeO.none _)
      | (with_reducible refine LeO.ite ?_ ?_)
      | (with_reducible refine LeO.bind ?_ (fun _ => ?_))
      | exact ih0 _ _ _ _
      | exact LeO.none _
      | refine LeO.ite ?_ ?_
      | refine LeO.bind ?_ (fun _ => ?_)
theorem matrix_own.mono : ∀ a0 k, LeO (matrix_own.f k a0) (matrix_own.f (k + 1) a0) := by
  intro a0 k
  have ih0 := matrix_own.mono_l k
  unfold matrix_own.f
  repeat' first
      | (with_reducible exact ih0 _ _ _ _)
      | (with_reducible exact LeO.refl _)
      | (with_reducible exact LeO.none _)
      | (with_reducible refine LeO.ite ?_ ?_)
      | (with_reducible refine LeO.bind ?_ (fun _ => ?_))
      | exact ih0 _ _ _ _
      | exact LeO.none _
      | refine LeO.ite ?_ ?_
      | refine LeO.bind ?_ (fun _ => ?_)
set_option maxHeartbeats 8000000 in
set_option maxRecDepth 100000 in
theorem matrix_own.calls (k : Nat) (A0 : Option Addr) (c0 : Nat) (l0 : List (List Int)) (r : List (List Int)) (w : World) (hr0 : Kd.C (Kd.slice 5 (Kd.int .u8)) w A0 l0.length l0) (hc0 : l0.length ≤ c0) (h : matrix_own.f k l0 = some r) :
    Calls Try.prog 91 #[.slice A0 l0.length c0] w fun e w' => ∃ v0_ : Value, e = .returned (v0_) ∧ Kd.S (Kd.slice 5 (Kd.int .u8)) 22 w' w.heap.size (fun _ => True) v0_ r ∧ Below w.heap.size w w' := by
  have HR0 := Aside0.mk hr0
  have HC0 := Aside0.mk hc0
  clear hr0 hc0
  have HB := Aside0.mk (Below.refl w.heap.size w)
  have H : (if 0 ≤ (l0.length : Int) then (if ((l0.length : Int) : Int).toNat ≤ 11728124029610 then (matrix_own.l0 k (List.replicate ((l0.length : Int) : Int).toNat []) l0 (l0.length : Int) 0) else (none)) else (none)) = some r := h
  clear h
  by_cases c2 : 0 ≤ (l0.length : Int)
  · rw [if_pos c2] at H
    have c2b0 := eq_true c2
    have c2b1 : decide (0 ≤ (l0.length : Int)) = true := decide_eq_true c2
    clear c2
    by_cases c3 : ((l0.length : Int) : Int).toNat ≤ 11728124029610
    · rw [if_pos c3] at H
      have c3b0 := eq_true c3
      have c3b1 : decide (((l0.length : Int) : Int).toNat ≤ 11728124029610) = true := decide_eq_true c3
      clear c3
      obtain ⟨y101, hy101⟩ : ∃ y_ : List (List Int), y_ = (List.replicate ((l0.length : Int) : Int).toNat []) := ⟨_, rfl⟩
      replace H : (matrix_own.l0 k y101 l0 (l0.length : Int) 0) = some r := by first | (rw [hy101]; with_reducible exact H) | (have H2_ := (Option.bind_some _ _).symm.trans H; rw [hy101]; with_reducible exact H2_) | (have H2_ := (Option.bind_some _ _).symm.trans H; with_reducible exact H2_) | with_reducible exact H | (rw [hy101]; exact H) | exact H
      have Ny101 := Aside0.mk hy101
      clear hy101
      have H' := Aside0.mk H
      clear H
      go_enter Try.func91, Try.ntmps91
      go_wp2_with (first | ((with_reducible refine gate_dst (N := 8) rfl ?_); refine Kd.S_make (Kd.slice 5 (Kd.int .u8)) _ 22 rfl (N := 8) rfl 51 _ _ rfl (l0.length : Int) rfl rfl Try.underlying51 (.slice none 0 0) 24 info22 rfl (by decide) (by omega) [] (ok := fun _ => True) (okp := fun _ => True) ⟨_, rfl, Kd.R_nil _ _ _ _ _⟩ (fun _ hk => hk) trivial (of_decide_eq_true (by first | (with_reducible assumption) | assumption)) (Nat.le_trans (Nat.mul_le_mul_right _ (of_decide_eq_true (by first | (with_reducible assumption) | assumption) : (l0.length : Int).toNat ≤ 11728124029610)) (by omega)) (Below.refl _ _) (Nat.le_refl _) ?_; intro v102 w4 ho5 hb hg_ hnew_; clear hg_ hnew_; (first | rw [← Ny101.out] at ho5 | (simp only [Int.reduceToNat] at ho5; rw [← Ny101.out] at ho5)); have n0_ := Aside0.mk (Kd.S_lower ho5 (below_size (by repeat (first | (with_reducible first | exact HB.out | apply below_alloc | apply pw_below_drewN | apply below_drew1) | exact HB.out)))); have n1_ := Aside0.mk (below_step (by repeat (first | (with_reducible first | exact HB.out | apply below_alloc | apply pw_below_drewN | apply below_drew1) | exact HB.out)) hb); clear HB; have HO103 := n0_; have HB := n1_; clear n0_ n1_; clear hb ho5))
      go_loopg [11] k (fun kq v11 w' => ∃ (x3_1 : List (List Int)) (x11_1 : Int), v11 = .int .i64 x11_1 ∧ Aside0 (matrix_own.l0 kq x3_1 l0 (l0.length : Int) x11_1 = some r) ∧ Aside0 (kq ≤ k) ∧ Aside0 (Kd.S (Kd.slice 5 (Kd.int .u8)) 22 w' w.heap.size (fun _ => True) v102 x3_1) ∧ Aside0 (Below w.heap.size w w'))
      case atStart => exact ⟨(y101), (0), (by first | rfl | (simp; done) | (simp [*]; done)), H', ⟨Nat.le_refl _⟩, ⟨by (with_reducible repeat (first | apply Kd.S_alloc | apply Kd.S_drewN | apply Kd.S_drew)); exact HO103.out⟩, ⟨by repeat (first | (with_reducible first | exact HB.out | apply below_alloc | apply pw_below_drewN | apply below_drew1) | exact HB.out)⟩⟩
      case round =>
        clear H'
        try clear c2
        try clear c2b0
        try clear c2b1
        try clear p2
        try clear c3
        try clear c3b0
        try clear c3b1
        obtain ⟨x3_1, x11_1, rfl, HA, HK1, HO_3, HB⟩ := hrel
        cases gk with
        | zero => exact absurd HA.out (by simp [matrix_own.l0])
        | succ k1 =>
          have H := HA.out
          clear HA
          simp only [matrix_own.l0] at H
          by_cases c6 : x11_1 < (l0.length : Int)
          · rw [if_pos c6] at H
            have c6b0 : decide (x11_1 < (l0.length : Int)) = true := decide_eq_true c6
            clear c6
            by_cases c7 : 0 ≤ x11_1
            · rw [if_pos c7] at H
              have c7b0 : decide (0 ≤ x11_1) = true := decide_eq_true c7
              clear c7
              by_cases c8 : x11_1 < (l0.length : Int)
              · rw [if_pos c8] at H
                have c8b0 : decide (x11_1 < (l0.length : Int)) = true := decide_eq_true c8
                clear c8
                replace H := Option.bind_eq_some_iff.mp H
                obtain ⟨t105, A90, H⟩ := H
                replace H : (if x11_1 < (x3_1.length : Int) then (matrix_own.l0 k1 (x3_1.set (x11_1 : Int).toNat t105) l0 (l0.length : Int) (wrap64 (x11_1 + 1))) else (none)) = some r := H
                have A9 := Aside0.mk A90
                clear A90
                by_cases c10 : x11_1 < (x3_1.length : Int)
                · rw [if_pos c10] at H
                  have c10b0 : decide (x11_1 < (x3_1.length : Int)) = true := decide_eq_true c10
                  clear c10
                  obtain ⟨y108, hy108⟩ : ∃ y_ : List (List Int), y_ = (x3_1.set (x11_1 : Int).toNat t105) := ⟨_, rfl⟩
                  replace H : (matrix_own.l0 k1 y108 l0 (l0.length : Int) (wrap64 (x11_1 + 1))) = some r := by first | (rw [hy108]; with_reducible exact H) | (have H2_ := (Option.bind_some _ _).symm.trans H; rw [hy108]; with_reducible exact H2_) | (have H2_ := (Option.bind_some _ _).symm.trans H; with_reducible exact H2_) | with_reducible exact H | (rw [hy108]; exact H) | exact H
                  have Ny108 := Aside0.mk hy108
                  clear hy108
                  have H' := Aside0.mk H
                  clear H
                  have p104 : 0 ≤ (x11_1 : Int) := of_decide_eq_true (by first | (with_reducible assumption) | assumption)
                  have q104 : x11_1 < (l0.length : Int) := of_decide_eq_true (by first | (with_reducible assumption) | assumption)
                  obtain ⟨ad104, A104_0, c104_0, e104, hx104_0, hl104_0, hi104_0⟩ := at_L1 HR0.out x11_1 p104 q104
                  cases e104
                  replace hx104_0 := (HB.out.cell (World.block_lt_of_cell? w _ hx104_0)).trans hx104_0
                  have HR104_0 := Aside0.mk hi104_0
                  have HC104_0 := Aside0.mk hl104_0
                  clear hi104_0 hl104_0
                  replace p104 := eq_true p104
                  replace q104 := eq_true q104
                  go_wp2_with (first | ((with_reducible refine gate_callee (f := 89) rfl ?_); refine goesL_ (some 19) rfl rfl Try.func89 (by kernel_rfl) rfl #[.slice A104_0 (rd_L1 l0 x11_1).length c104_0] rfl (by (try simp only [List.map_toArray, List.map_cons, List.map_nil]); first | done | rfl | (simp only [List.length_drop, List.length_take]; rfl)) ?_; (with_reducible refine (slices_Clone_byte_byte.calls _ _ (rd_L1 l0 x11_1) t105 _ ?side1 ?side2 A9.out).mono ?_); (case side1 => repeat (first | exact (Kd.C_below HR104_0.out HB.out) | (with_reducible refine Kd.C_alloc ?_ _) | (with_reducible refine Kd.C_drewN ?_ _) | (with_reducible refine Kd.C_drew ?_))); (case side2 => exact HC104_0.out); rintro e w12 ⟨v106, rfl, ho0, hb⟩; refine ⟨_, rfl, ?_⟩; have n0_ := Aside0.mk (Kd.S_elder' (by (with_reducible repeat (first | apply Kd.S_alloc | apply Kd.S_drewN | apply Kd.S_drew)); exact HO_3.out) (Kd.R_base ho0) hb); have n1_ := Aside0.mk (Kd.R_lower ho0 (below_size (by repeat (first | (with_reducible first | exact HB.out | apply below_alloc | apply pw_below_drewN | apply below_drew1) | exact HB.out)))); have n2_ := Aside0.mk (below_step (by repeat (first | (with_reducible first | exact HB.out | apply below_alloc | apply pw_below_drewN | apply below_drew1) | exact HB.out)) hb); clear HO_3; clear HB; have HO_3 := n0_; have HO107 := n1_; have HB := n2_; clear n0_ n1_ n2_; (try clear hb); (try clear hb2); (try clear hk); (try clear hi); (try clear ho0); have p11 : 0 ≤ (x11_1 : Int) := of_decide_eq_true (by first | (with_reducible assumption) | assumption); have q11 : (x11_1 : Int) < ((x3_1.length : Int) : Int) := of_decide_eq_true (by first | (with_reducible assumption) | assumption); obtain ⟨go11, co11, eo11, gb11, gl11, cl11, HG11⟩ := Kd.S_form HO_3.out (by omega); (first | cases eo11 | (injection eo11 with ea_ en_ ec_; (first | subst ea_ | (injection ea_ with ea_; subst ea_)); subst ec_; clear en_)); have GB11 := Aside0.mk gb11; have GG11 := Aside0.mk HG11; clear gb11 gl11 HG11; obtain ⟨_, ce11, hcl11, hM11, hcc11, hfr11, _, _⟩ := Kd.S_elem HO_3.out [] (x11_1 : Int) p11 q11; obtain ⟨ve11_0, rfl, ge11_0⟩ := hM11; have hx11_0 := hcc11 0 _ rfl; have hf11_0 := hfr11 0; (try simp only [show ((Kd.slice 5 (Kd.int .u8))).sz = 1 from rfl, Nat.mul_one, Nat.add_zero] at hx11_0); (try simp only [show ((Kd.slice 5 (Kd.int .u8))).sz = 1 from rfl, Nat.mul_one, Nat.add_zero] at hf11_0); (try clear hcl11); (try clear hcc11); (try clear hfr11); (try clear hM11); replace p11 := eq_true p11; replace q11 := eq_true q11; have n_ := Aside0.mk (Kd.S_mono (ok' := (fun k_ => some k_ ≠ (v106 : Value).ownBlock)) HO_3.out (fun k_ hk => hk.2)); clear HO_3; have HO_3 := n_; clear n_; have HX13 := Aside0.mk (show Kd.S (Kd.slice 5 (Kd.int .u8)) 22 w12 w.heap.size (fun k_ => ((fun _ => True)) k_ ∧ ¬ ((fun k_ => some k_ = (v106 : Value).ownBlock)) k_) (.slice (some ⟨go11, 0, none⟩) x3_1.length co11) x3_1 from (by (with_reducible repeat (first | apply Kd.S_alloc | apply Kd.S_drewN | apply Kd.S_drew)); exact Kd.S_mono HO_3.out (fun k_ hk => ⟨trivial, fun e_ => hk e_⟩))); obtain ⟨oki13, ce13, hcl13, hM13, hcc13, hfr13, hoki13, hH13⟩ := Kd.S_elem HX13.out [] (x11_1 : Int) (of_decide_eq_true (by first | (with_reducible assumption) | assumption)) (by have h_ : (x11_1 : Int) < ((x3_1.length : Int) : Int) := of_decide_eq_true (by first | (with_reducible assumption) | assumption); first | exact h_ | (have e_ := (Kd.S_reads' HO_3.out).1; omega) | simpa using h_); obtain ⟨ve13_0, rfl, ge13_0⟩ := hM13; obtain ⟨Av13_, cv13_, ev13_⟩ := Kd.R_slice HO107.out; subst ev13_; have HP13 := Kd.S_seg hH13 (of_decide_eq_true (by first | (with_reducible assumption) | assumption)) (by have h_ : (x11_1 : Int) < ((x3_1.length : Int) : Int) := of_decide_eq_true (by first | (with_reducible assumption) | assumption); first | exact h_ | (have e_ := (Kd.S_reads' HO_3.out).1; omega) | simpa using h_) (seg := [(.slice Av13_ t105.length cv13_)]) (j := 0) (show 1 ≤ 1 from by decide) (x' := t105) (Kd.M_row (Kd.R_mono (Kd.R_tight rfl (Kd.R_mono (ok' := fun k_ => ((fun _ => True)) k_ ∧ k_ ≠ go11) (Kd.R_apart' (HO107.out) (Kd.S_typed HO_3.out) (by decide)) (fun k_ hk => ⟨trivial, fun e_ => (hk.2) (by rw [e_]; rfl)⟩))) (fun _ h_ => Or.inr (h_)))) (fun _ hk => hk) (fun k_ hk_ => ((Kd.R_mono (ok' := fun k_ => ((fun _ => True)) k_ ∧ k_ ≠ go11) (Kd.R_apart' (HO107.out) (Kd.S_typed HO_3.out) (by decide)) (fun k_ hk => ⟨trivial, fun e_ => (hk.2) (by rw [e_]; rfl)⟩))).1 k_ hk_.symm); have hx13_0 := hcc13 0 _ rfl; (try simp only [show ((Kd.slice 5 (Kd.int .u8))).sz = 1 from rfl, Nat.mul_one, Nat.add_zero] at hx13_0); have hf13_0 := hfr13 0; (try simp only [show ((Kd.slice 5 (Kd.int .u8))).sz = 1 from rfl, Nat.mul_one, Nat.add_zero] at hf13_0); (try clear hcl13); (try clear hcc13); (try clear hfr13); (try clear hM13); (try clear hoki13); (try clear hH13); (try simp only [show ((Kd.slice 5 (Kd.int .u8))).sz = 1 from rfl, Nat.mul_one, Nat.add_zero] at HP13)) | ((with_reducible refine gate_store (t := 22) (p := 20) rfl ?_); refine store_event (t := 22) (p := 20) (v := ?vo_w14) (w1 := (w12.setCell ⟨go11, (x11_1 : Int).toNat, none⟩ ((.slice Av13_ t105.length cv13_)))) ?hg ?ho ?hn ?hr ?_; (case ho => rfl); (case hg => rfl); (case hn => rfl); (case hr => first | (go_simp; done) | (go_simp; rfl)); intro w14 hw; have hg : w12.grownBy w14 (some go11) := (by rw [hw]; exact HP13.2); have hp_ : Kd.S (Kd.slice 5 (Kd.int .u8)) 22 w14 w.heap.size (fun _ => True) (.slice (some ⟨go11, 0, none⟩) x3_1.length co11) y108 := (by rw [hw, Ny108.out]; exact HP13.1); clear HP13; have n0_ := Aside0.mk (hp_); have n1_ := Aside0.mk ((by rw [hw]; exact below_set (HB.out) GB11.out : Below w.heap.size w w14)); clear HO_3; clear HB; clear HO107; have HO_3 := n0_; have HB := n1_; clear n0_ n1_; clear hg hw hp_))
                  go_roundg k1
                  case measure => have := HK1.out; omega
                  case rel => exact ⟨(y108), (wrap64 (x11_1 + 1)), (by first | rfl | (simp; done) | (simp [*]; done)), H', ⟨by have := HK1.out; omega⟩, ⟨by (with_reducible repeat (first | apply Kd.S_alloc | apply Kd.S_drewN | apply Kd.S_drew)); exact HO_3.out⟩, ⟨by repeat (first | (with_reducible first | exact HB.out | apply below_alloc | apply pw_below_drewN | apply below_drew1) | exact HB.out)⟩⟩
                · rw [if_neg c10] at H
                  exact absurd H (by simp)
              · rw [if_neg c8] at H
                exact absurd H (by simp)
            · rw [if_neg c7] at H
              exact absurd H (by simp)
          · rw [if_neg c6] at H
            have c6b0 : decide (x11_1 < (l0.length : Int)) = false := decide_eq_false c6
            clear c6
            obtain rfl := Option.some.inj H
            go_wp2
            go_ret
            exact ⟨_, by first | rfl | (simp [errW_none, errW_some] <;> rfl) | (simp [*, errW_none, errW_some] <;> rfl), by (with_reducible repeat (first | apply Kd.S_alloc | apply Kd.S_drewN | apply Kd.S_drew)); exact HO_3.out, by repeat (first | (with_reducible first | exact HB.out | apply below_alloc | apply pw_below_drewN | apply below_drew1) | exact HB.out)⟩
    · rw [if_neg c3] at H
      exact absurd H (by simp)
  · rw [if_neg c2] at H
    exact absurd H (by simp)
end Go.Proofs.Ytbogmlckbkogiaa.P
namespace Go.Proofs.Ytbogmlckbkogiaa.P
open Go.Proofs.Ytbogmlckbkogiaa.Leaf
open Go.RowKit Go.Proofs.YtbogmlckbkogiaaW.PrintWords Go.Proofs.YtbogmlckbkogiaaW.PrintLast Go.Proofs.YtbogmlckbkogiaaW.PrintMore
attribute [local go_sem] max2_int min2_int max_two min_two max_three min_three max_four min_four   -- for this text's walks alone
set_option linter.unusedVariables false
set_option linter.unusedSimpArgs false
mutual
def mooringref02_May.j0 : Nat → List (List Int) → Bool → Option (Bool)
  | 0, _, _ => none
  | k + 1, x0, x11 => if x11 = true then (some false) else (mooringref02_May.l0 k x0 0)
def mooringref02_May.l0 : Nat → List (List Int) → Int → Option (Bool)
  | 0, _, _ => none
  | k + 1, x0, x3 => if x3 < (x0.length : Int) then (if 0 ≤ x3 then (if ((rd_L1 x0 x3).length : Int) < 1 then (some false) else (if ((rd_L1 x0 x3).length : Int) > 255 then (some false) else (if 0 < (x0.length : Int) then (if ((rd_L1 x0 x3).length : Int) = ((rd_L1 x0 0).length : Int) then (mooringref02_May.l0 k x0 (wrap64 (x3 + 1))) else (some false)) else (none)))) else (none)) else (some true)
end
def mooringref02_May.f (k : Nat) (l0 : List (List Int)) : Option (Bool) := if (l0.length : Int) < 1 then (mooringref02_May.j0 k l0 true) else (mooringref02_May.j0 k l0 (decide ((l0.length : Int) > 255)))
theorem mooringref02_May.mono_l : ∀ k, (∀ y0 y1, LeO (mooringref02_May.j0 k y0 y1) (mooringref02_May.j0 (k + 1) y0 y1)) ∧ (∀ y0 y1, LeO (mooringref02_May.l0 k y0 y1) (mooringref02_May.l0 (k + 1) y0 y1))
  | 0 => ⟨fun _ _ r h => by simp [mooringref02_May.j0] at h, fun _ _ r h => by simp [mooringref02_May.l0] at h⟩
  | k + 1 => by
    obtain ⟨ih0, ih1⟩ := mooringref02_May.mono_l k
    refine ⟨?_, ?_⟩
    · intro y0 y1
      unfold mooringref02_May.j0
      repeat' first
      | (with_reducible exact ih0 _ _)
      | (with_reducible exact ih1 _ _)
      | (with_reducible exact LeO.refl _)
      | (with_reducible exact LeO.none _)
      | (with_reducible refine LeO.ite ?_ ?_)
      | (with_reducible refine LeO.bind ?_ (fun _ => ?_))
      | exact ih0 _ _
      | exact ih1 _ _
      | exact LeO.none _
      | refine LeO.ite ?_ ?_
      | refine LeO.bind ?_ (fun _ => ?_)
    · intro y0 y1
      unfold mooringref02_May.l0
      repeat' first
      | (with_reducible exact ih0 _ _)
      | (with_reducible exact ih1 _ _)
      | (with_reducible exact LeO.refl _)
      | (with_reducible exact LeO.none _)
      | (with_reducible refine LeO.ite ?_ ?_)
      | (with_reducible refine LeO.bind ?_ (fun _ => ?_))
      | exact ih0 _ _
      | exact ih1 _ _
      | exact LeO.none _
      | refine LeO.ite ?_ ?_
      | refine LeO.bind ?_ (fun _ => ?_)
theorem mooringref02_May.mono : ∀ a0 k, LeO (mooringref02_May.f k a0) (mooringref02_May.f (k + 1) a0) := by
  intro a0 k
  obtain ⟨ih0, ih1⟩ := mooringref02_May.mono_l k
  unfold mooringref02_May.f
  repeat' first
      | (with_reducible exact ih0 _ _)
      | (with_reducible exact ih1 _ _)
      | (with_reducible exact LeO.refl _)
      | (with_reducible exact LeO.none _)
      | (with_reducible refine LeO.ite ?_ ?_)
      | (with_reducible refine LeO.bind ?_ (fun _ => ?_))
      | exact ih0 _ _
      | exact ih1 _ _
      | exact LeO.none _
      | refine LeO.ite ?_ ?_
      | refine LeO.bind ?_ (fun _ => ?_)
end Go.Proofs.Ytbogmlckbkogiaa.P
namespace Go.Proofs.Ytbogmlckbkogiaa.Red
open Go.RowKit Go.Proofs.YtbogmlckbkogiaaW.PrintWords Go.Proofs.Ytbogmlckbkogiaa.Leaf Go.Proofs.Ytbogmlckbkogiaa.Gf Go.Proofs.Ytbogmlckbkogiaa.H Go.Proofs.Ytbogmlckbkogiaa.Mx Go.Proofs.Ytbogmlckbkogiaa.P
set_option linter.unusedVariables false
set_option linter.unusedSimpArgs false
/-- May a matrix be? -/
def mayB (A : Mat) : Bool := decide (0 < A.length) && decide (A.length ≤ 255) && decide (0 < (row A 0).length) && decide ((row A 0).length ≤ 255) && (List.range A.length).all fun i => (row A i).length == (row A 0).length
theorem mayB_iff (A : Mat) : mayB A = true ↔ 0 < A.length ∧ A.length ≤ 255 ∧ 0 < (row A 0).length ∧ (row A 0).length ≤ 255 ∧ ∀ i, i < A.length → (row A i).length = (row A 0).length := by
  unfold mayB
  simp only [Bool.and_eq_true, decide_eq_true_eq, List.all_eq_true, List.mem_range, beq_iff_eq]
  exact ⟨fun ⟨⟨⟨⟨a, b⟩, c⟩, d⟩, e⟩ => ⟨a, b, c, d, e⟩, fun ⟨a, b, c, d, e⟩ => ⟨⟨⟨⟨a, b⟩, c⟩, d⟩, e⟩⟩
theorem mayB_reg {A : Mat} (h : mayB A = true) : Reg A A.length (row A 0).length ∧ 0 < A.length ∧ A.length ≤ 255 ∧ 0 < (row A 0).length ∧ (row A 0).length ≤ 255 := by
  obtain ⟨a, b, c, d, e⟩ := (mayB_iff A).1 h
  exact ⟨⟨rfl, e⟩, a, b, c, d⟩
theorem mayB_of {A : Mat} {n m : Nat} (h : Reg A n m) (h1 : 0 < n) (h2 : n ≤ 255) (h3 : 0 < m) (h4 : m ≤ 255) : mayB A = true := by
  rw [mayB_iff, h.1, h.2 0 h1]
  exact ⟨h1, h2, h3, h4, fun i hi => h.2 i hi⟩
theorem chk_ok (A : Mat) (hs : A.length ≤ 9223372036854775807) (h : ∀ j, j < A.length → (row A j).length = (row A 0).length) (n : Nat) : ∀ i : Nat, i + n = A.length → Ev (fun k => matrix_Check.l0 k (oM A) (oM A) (A.length : Int) (i : Int)) 0 := by
  induction n with
  | zero =>
    intro i hi
    refine Ev.step (f := fun _ => some 0) (fun k => ?_) (Ev.now _)
    simp only [matrix_Check.l0]
    rw [if_neg (by omega)]
  | succ n ih =>
    intro i hi
    refine Ev.step (f := fun k => matrix_Check.l0 k (oM A) (oM A) (A.length : Int) ((i + 1 : Nat) : Int)) (fun k => ?_) (ih (i + 1) (by omega))
    simp only [matrix_Check.l0, oM_length, rd_oM, rd_oM0, ofL_length]
    rw [if_pos (by omega), if_pos (by omega), if_pos (by omega), if_pos (by omega), if_pos (by rw [h i (by omega)]), w64 _ (by omega) (by omega)]
    rfl
theorem chk_bad (A : Mat) (hs : A.length ≤ 9223372036854775807) (j : Nat) (hj : j < A.length) (hne : (row A j).length ≠ (row A 0).length) (n : Nat) : ∀ i : Nat, i + n = j → Ev (fun k => matrix_Check.l0 k (oM A) (oM A) (A.length : Int) (i : Int)) 1 := by
  induction n with
  | zero =>
    intro i hi
    refine Ev.step (f := fun _ => some 1) (fun k => ?_) (Ev.now _)
    simp only [matrix_Check.l0, oM_length, rd_oM, rd_oM0, ofL_length]
    rw [if_pos (by omega), if_pos (by omega), if_pos (by omega), if_pos (by omega), if_neg (by rw [show i = j by omega]; omega)]
  | succ n ih =>
    intro i hi
    by_cases he : (row A i).length = (row A 0).length
    · refine Ev.step (f := fun k => matrix_Check.l0 k (oM A) (oM A) (A.length : Int) ((i + 1 : Nat) : Int)) (fun k => ?_) (ih (i + 1) (by omega))
      simp only [matrix_Check.l0, oM_length, rd_oM, rd_oM0, ofL_length]
      rw [if_pos (by omega), if_pos (by omega), if_pos (by omega), if_pos (by omega), if_pos (by rw [he]), w64 _ (by omega) (by omega)]
      rfl
    · refine Ev.step (f := fun _ => some 1) (fun k => ?_) (Ev.now _)
      simp only [matrix_Check.l0, oM_length, rd_oM, rd_oM0, ofL_length]
      rw [if_pos (by omega), if_pos (by omega), if_pos (by omega), if_pos (by omega), if_neg (by omega)]
theorem not_may {A : Mat} (h : ¬ (0 < A.length ∧ A.length ≤ 255 ∧ 0 < (row A 0).length ∧ (row A 0).length ≤ 255 ∧ ∀ i, i < A.length → (row A i).length = (row A 0).length)) : mayB A = false := by
  rw [← Bool.not_eq_true, mayB_iff]; exact h
theorem evCheck (A : Mat) (hs : A.length ≤ 9223372036854775807) : Ev (fun k => matrix_Check.f k (oM A)) (if mayB A = true then 0 else 1) := by
  have j1 : Ev (fun k => matrix_Check.j0 k (oM A) true) 1 := Ev.step (f := fun _ => some 1) (fun k => by simp only [matrix_Check.j0, if_true]) (Ev.now _)
  unfold matrix_Check.f
  simp only [oM_length, rd_oM0, ofL_length]
  by_cases h1 : A.length = 0
  · rw [not_may (by omega)]
    simp only [show ((A.length : Int) = 0) = True from eq_true (by omega), if_true, Bool.false_eq_true, if_false]
    exact j1
  · simp only [show ((A.length : Int) = 0) = False from eq_false (by omega), if_false]
    by_cases h2 : A.length > 255
    · rw [not_may (by omega)]
      simp only [show ((A.length : Int) > 255) = True from eq_true (by omega), if_true, Bool.false_eq_true, if_false]
      exact j1
    · simp only [show ((A.length : Int) > 255) = False from eq_false (by omega), if_false, show ((0 : Int) < (A.length : Int)) = True from eq_true (by omega), if_true]
      by_cases h3 : (row A 0).length = 0
      · rw [not_may (by omega)]
        simp only [show (((row A 0).length : Int) = 0) = True from eq_true (by omega), if_true, Bool.false_eq_true, if_false]
        exact j1
      · simp only [show (((row A 0).length : Int) = 0) = False from eq_false (by omega), if_false]
        by_cases h4 : (row A 0).length > 255
        · rw [not_may (by omega)]
          simp only [show decide (((row A 0).length : Int) > 255) = true from decide_eq_true (by omega), Bool.false_eq_true, if_false]
          exact j1
        · simp only [show decide (((row A 0).length : Int) > 255) = false from decide_eq_false (by omega)]
          by_cases h5 : ∀ j, j < A.length → (row A j).length = (row A 0).length
          · rw [show mayB A = true from (mayB_iff A).2 ⟨by omega, by omega, by omega, by omega, h5⟩, if_pos rfl]
            refine Ev.step (f := fun k => matrix_Check.l0 k (oM A) (oM A) (A.length : Int) ((0 : Nat) : Int)) (fun k => ?_) (chk_ok A hs h5 A.length 0 (by omega))
            simp only [matrix_Check.j0, Bool.false_eq_true, if_false, oM_length]
            rfl
          · obtain ⟨j, hj, hne⟩ := uneven h5
            rw [not_may (fun h => h5 h.2.2.2.2)]
            simp only [Bool.false_eq_true, if_false]
            refine Ev.step (f := fun k => matrix_Check.l0 k (oM A) (oM A) (A.length : Int) ((0 : Nat) : Int)) (fun k => ?_) (chk_bad A hs j hj hne j 0 (by omega))
            simp only [matrix_Check.j0, Bool.false_eq_true, if_false, oM_length]
            rfl
theorem own_l0 (A : Mat) (hs : A.length < 2 ^ 62) (hr : ∀ i, i < A.length → (row A i).length < 140737488355328) (d : Nat) : ∀ (i : Nat) (X : Mat), i + d = A.length → X.length = A.length → (∀ j, j < i → row X j = row A j) → Ev (fun k => matrix_own.l0 k (oM X) (oM A) (A.length : Int) (i : Int)) (oM A) := by
  induction d with
  | zero =>
    intro i X hi hl h
    refine Ev.step (f := fun _ => some (oM X)) (fun k => ?_) ?_
    · simp only [matrix_own.l0]
      rw [if_neg (by omega)]
    · rw [show A = X from List.ext_getElem hl.symm fun j h1 h2 => by
        have h3 := h j (by omega)
        unfold row at h3
        rw [List.getD_eq_getElem?_getD, List.getElem?_eq_getElem h2, List.getD_eq_getElem?_getD, List.getElem?_eq_getElem h1] at h3
        exact h3.symm]
      exact Ev.now _
  | succ d ih =>
    intro i X hi hl h
    refine Ev.step (f := fun k => matrix_own.l0 k (oM (X.set i (row A i))) (oM A) (A.length : Int) ((i + 1 : Nat) : Int)) (fun k => ?_) (ih (i + 1) _ (by omega) (by rw [List.length_set]; exact hl) (fun j hj => ?_))
    · simp only [matrix_own.l0, oM_length, rd_oM, slices_Clone_byte_byte.f, ofL_length, Int.toNat_natCast]
      rw [if_pos (by omega), if_pos (by omega), if_pos (by omega), if_pos (hr i (by omega)), Option.bind_some, if_pos (by omega), oM_set, w64 _ (by omega) (by omega)]
      rfl
    · rw [row_set _ _ _ _ (by omega)]
      by_cases e : j = i
      · rw [if_pos e, e]
      · rw [if_neg e]; exact h j (by omega)
theorem evOwn (A : Mat) (hs : A.length ≤ 11728124029610) (hr : ∀ i, i < A.length → (row A i).length < 140737488355328) : Ev (fun k => matrix_own.f k (oM A)) (oM A) := by
  unfold matrix_own.f
  simp only [oM_length, Int.toNat_natCast, show ((0 : Int) ≤ (A.length : Int)) = True from eq_true (by omega), if_true, show (A.length ≤ 11728124029610) = True from eq_true hs]
  have e : List.replicate A.length ([] : List Int) = oM (List.replicate A.length []) := by unfold oM; rw [List.map_replicate]; rfl
  rw [e]
  exact own_l0 A (by omega) hr A.length 0 _ (by omega) (List.length_replicate ..) (fun j hj => by omega)
end Go.Proofs.Ytbogmlckbkogiaa.Red
namespace Go.Proofs.Ytbogmlckbkogiaa.P
open Go.Proofs.Ytbogmlckbkogiaa.Leaf
open Go.RowKit Go.Proofs.YtbogmlckbkogiaaW.PrintWords Go.Proofs.YtbogmlckbkogiaaW.PrintLast Go.Proofs.YtbogmlckbkogiaaW.PrintMore
attribute [local go_sem] max2_int min2_int max_two min_two max_three min_three max_four min_four   -- for this text's walks alone
set_option linter.unusedVariables false
set_option linter.unusedSimpArgs false
mutual
def matrix_Rows.j0 : Nat → List (List Int) → List Int → Bool → Option ((List (List Int)) × Int)
  | 0, _, _, _ => none
  | k + 1, x0, x1, x21 => if x21 = true then (some (([] : List (List Int)), 1)) else (matrix_Rows.l0 k x0 ([] : List (List Int)) x1 (x1.length : Int) 0)
def matrix_Rows.l0 : Nat → List (List Int) → List (List Int) → List Int → Int → Int → Option ((List (List Int)) × Int)
  | 0, _, _, _, _, _ => none
  | k + 1, x0, x6, x22, x23, x24 => if x24 < x23 then (if 0 ≤ x24 then (if x24 < (x22.length : Int) then (if (rd x22 x24) < 0 then (some (([] : List (List Int)), 1)) else (if (rd x22 x24) ≥ (x0.length : Int) then (some (([] : List (List Int)), 1)) else (if 0 ≤ (rd x22 x24) then (if (rd x22 x24) < (x0.length : Int) then ((slices_Clone_byte_byte.f (rd_L1 x0 (rd x22 x24))).bind fun t104 => (if x6.length < 5864062014805 then (matrix_Rows.l0 k x0 (x6 ++ [t104]) x22 x23 (wrap64 (x24 + 1))) else (none))) else (none)) else (none)))) else (none)) else (none)) else (some (x6, 0))
end
def matrix_Rows.f (k : Nat) (l0 : List (List Int)) (l1 : List Int) : Option ((List (List Int)) × Int) := (matrix_Check.f k l0).bind fun t101 => (if t101 = 0 then (if (l1.length : Int) = 0 then (matrix_Rows.j0 k l0 l1 true) else (matrix_Rows.j0 k l0 l1 (decide ((l1.length : Int) > 255)))) else (matrix_Rows.j0 k l0 l1 true))
theorem matrix_Rows.mono_l : ∀ k, (∀ y0 y1 y2, LeO (matrix_Rows.j0 k y0 y1 y2) (matrix_Rows.j0 (k + 1) y0 y1 y2)) ∧ (∀ y0 y1 y2 y3 y4, LeO (matrix_Rows.l0 k y0 y1 y2 y3 y4) (matrix_Rows.l0 (k + 1) y0 y1 y2 y3 y4))
  | 0 => ⟨fun _ _ _ r h => by simp [matrix_Rows.j0] at h, fun _ _ _ _ _ r h => by simp [matrix_Rows.l0] at h⟩
  | k + 1 => by
    obtain ⟨ih0, ih1⟩ := matrix_Rows.mono_l k
    refine ⟨?_, ?_⟩
    · intro y0 y1 y2
      unfold matrix_Rows.j0
      repeat' first
      | (with_reducible exact ih0 _ _ _)
      | (with_reducible exact ih1 _ _ _ _ _)
      | (with_reducible exact matrix_Check.mono _ _)
      | (with_reducible exact LeO.refl _)
      | (with_reducible exact LeO.none _)
      | (with_reducible refine LeO.ite ?_ ?_)
      | (with_reducible refine LeO.bind ?_ (fun _ => ?_))
      | exact ih0 _ _ _
      | exact ih1 _ _ _ _ _
      | exact matrix_Check.mono _ _
      | exact LeO.none _
      | refine LeO.ite ?_ ?_
      | refine LeO.bind ?_ (fun _ => ?_)
    · intro y0 y1 y2 y3 y4
      unfold matrix_Rows.l0
      repeat' first
      | (with_reducible exact ih0 _ _ _)
      | (with_reducible exact ih1 _ _ _ _ _)
      | (with_reducible exact matrix_Check.mono _ _)
      | (with_reducible exact LeO.refl _)
      | (with_reducible exact LeO.none _)
      | (with_reducible refine LeO.ite ?_ ?_)
      | (with_reducible refine LeO.bind ?_ (fun _ => ?_))
      | exact ih0 _ _ _
      | exact ih1 _ _ _ _ _
      | exact matrix_Check.mono _ _
      | exact LeO.none _
      | refine LeO.ite ?_ ?_
      | refine LeO.bind ?_ (fun _ => ?_)
theorem matrix_Rows.mono : ∀ a0 a1 k, LeO (matrix_Rows.f k a0 a1) (matrix_Rows.f (k + 1) a0 a1) := by
  intro a0 a1 k
  obtain ⟨ih0, ih1⟩ := matrix_Rows.mono_l k
  unfold matrix_Rows.f
  repeat' first
      | (with_reducible exact ih0 _ _ _)
      | (with_reducible exact ih1 _ _ _ _ _)
      | (with_reducible exact matrix_Check.mono _ _)
      | (with_reducible exact LeO.refl _)
      | (with_reducible exact LeO.none _)
      | (with_reducible refine LeO.ite ?_ ?_)
      | (with_reducible refine LeO.bind ?_ (fun _ => ?_))
      | exact ih0 _ _ _
      | exact ih1 _ _ _ _ _
      | exact matrix_Check.mono _ _
      | exact LeO.none _
      | refine LeO.ite ?_ ?_
      | refine LeO.bind ?_ (fun _ => ?_)
set_option maxHeartbeats 8000000 in
set_option maxRecDepth 100000 in
theorem matrix_Rows.calls (k : Nat) (A0 : Option Addr) (c0 : Nat) (l0 : List (List Int)) (A1 : Option Addr) (c1 : Nat) (l1 : List Int) (r1 : List (List Int)) (r2 : Int) (w : World) (hr0 : Kd.C (Kd.slice 5 (Kd.int .u8)) w A0 l0.length l0) (hc0 : l0.length ≤ c0) (hr1 : Kd.C (Kd.int .i64) w A1 l1.length l1) (hc1 : l1.length ≤ c1) (h : matrix_Rows.f k l0 l1 = some (r1, r2)) :
    Calls Try.prog 69 #[.slice A0 l0.length c0, .slice A1 l1.length c1] w fun e w' => ∃ v0_ : Value, e = .returned (.tuple #[v0_, .int .i64 r2]) ∧ Kd.S (Kd.slice 5 (Kd.int .u8)) 22 w' w.heap.size (fun _ => True) v0_ r1 ∧ Below w.heap.size w w' := by
  have HR0 := Aside0.mk hr0
  have HC0 := Aside0.mk hc0
  clear hr0 hc0
  have HR1 := Aside0.mk hr1
  have HC1 := Aside0.mk hc1
  clear hr1 hc1
  have HB := Aside0.mk (Below.refl w.heap.size w)
  have H : ((matrix_Check.f k l0).bind fun t101 => (if t101 = 0 then (if (l1.length : Int) = 0 then (matrix_Rows.j0 k l0 l1 true) else (matrix_Rows.j0 k l0 l1 (decide ((l1.length : Int) > 255)))) else (matrix_Rows.j0 k l0 l1 true))) = some (r1, r2) := h
  clear h
  have HC3 := Aside0.mk H
  clear H
  go_enter Try.func69, Try.ntmps69
  go_upto_region 1 with (fail)
  go_cut [21] (fun v21 wc => ∃ (kq : Nat) (x21_2 : Bool), v21 = .bool x21_2 ∧ Aside0 (matrix_Rows.j0 kq l0 l1 x21_2 = some (r1, r2)) ∧ Aside0 (kq ≤ k) ∧ Aside0 (Below w.heap.size w wc))
  case first =>
    have H := HC3.out
    clear HC3
    replace H := Option.bind_eq_some_iff.mp H
    obtain ⟨t101, A40, H⟩ := H
    replace H : (if t101 = 0 then (if (l1.length : Int) = 0 then (matrix_Rows.j0 k l0 l1 true) else (matrix_Rows.j0 k l0 l1 (decide ((l1.length : Int) > 255)))) else (matrix_Rows.j0 k l0 l1 true)) = some (r1, r2) := H
    have A4 := Aside0.mk A40
    clear A40
    by_cases c5 : t101 = 0
    · rw [if_pos c5] at H
      have c5b0 : (t101 == 0) = true := beq_iff_eq.mpr c5
      have c5b1 : (t101 != 0) = false := bne_eq_false_iff_eq.mpr c5
      clear c5
      (first | rw [c5b0] | (simp only [i64_w, i32_w]; rw [c5b0]) | skip)
      by_cases c6 : (l1.length : Int) = 0
      · rw [if_pos c6] at H
        have c6b0 : ((l1.length : Int) == 0) = true := beq_iff_eq.mpr c6
        have c6b1 : ((l1.length : Int) != 0) = false := bne_eq_false_iff_eq.mpr c6
        clear c6
        have H' := Aside0.mk H
        clear H
        go_wp2_with (first | ((with_reducible refine gate_callee (f := 65) rfl ?_); refine goesL_ (some 10) rfl rfl Try.func65 (by kernel_rfl) rfl #[.slice A0 l0.length c0] rfl (by (try simp only [List.map_toArray, List.map_cons, List.map_nil]); first | done | rfl | (simp only [List.length_drop, List.length_take]; rfl)) ?_; (with_reducible refine (matrix_Check.calls k _ _ l0 t101 _ ?side1 ?side2 A4.out).mono ?_); (case side1 => repeat (first | exact (Kd.C_below HR0.out HB.out) | (with_reducible refine Kd.C_alloc ?_ _) | (with_reducible refine Kd.C_drewN ?_ _) | (with_reducible refine Kd.C_drew ?_))); (case side2 => exact HC0.out); rintro e w' ⟨rfl, ⟨nd, rfl⟩⟩; refine ⟨_, rfl, ?_⟩))
        go_meet
        case rel => exact ⟨_, (true), (by first | rfl | (simp; done) | (simp [*]; done)), H', ⟨by first | omega | exact Nat.le_refl _⟩, ⟨by repeat (first | (with_reducible first | exact HB.out | apply below_alloc | apply pw_below_drewN | apply below_drew1) | exact HB.out)⟩⟩
      · rw [if_neg c6] at H
        have c6b0 : ((l1.length : Int) == 0) = false := beq_eq_false_iff_ne.mpr c6
        have c6b1 : ((l1.length : Int) != 0) = true := bne_iff_ne.mpr c6
        have c6b2 : ¬ (l1 = []) := fun h_ => c6 (by rw [h_]; rfl)
        have H' := Aside0.mk H
        clear H
        go_wp2_with (first | ((with_reducible refine gate_callee (f := 65) rfl ?_); refine goesL_ (some 10) rfl rfl Try.func65 (by kernel_rfl) rfl #[.slice A0 l0.length c0] rfl (by (try simp only [List.map_toArray, List.map_cons, List.map_nil]); first | done | rfl | (simp only [List.length_drop, List.length_take]; rfl)) ?_; (with_reducible refine (matrix_Check.calls k _ _ l0 t101 _ ?side1 ?side2 A4.out).mono ?_); (case side1 => repeat (first | exact (Kd.C_below HR0.out HB.out) | (with_reducible refine Kd.C_alloc ?_ _) | (with_reducible refine Kd.C_drewN ?_ _) | (with_reducible refine Kd.C_drew ?_))); (case side2 => exact HC0.out); rintro e w' ⟨rfl, ⟨nd, rfl⟩⟩; refine ⟨_, rfl, ?_⟩))
        go_meet
        case rel => exact ⟨_, (decide ((l1.length : Int) > 255)), (by first | rfl | (simp; done) | (simp [*]; done)), H', ⟨by first | omega | exact Nat.le_refl _⟩, ⟨by repeat (first | (with_reducible first | exact HB.out | apply below_alloc | apply pw_below_drewN | apply below_drew1) | exact HB.out)⟩⟩
    · rw [if_neg c5] at H
      have c5b0 : (t101 == 0) = false := beq_eq_false_iff_ne.mpr c5
      have c5b1 : (t101 != 0) = true := bne_iff_ne.mpr c5
      (first | rw [c5b0] | (simp only [i64_w, i32_w]; rw [c5b0]) | skip)
      have H' := Aside0.mk H
      clear H
      go_wp2_with (first | ((with_reducible refine gate_callee (f := 65) rfl ?_); refine goesL_ (some 10) rfl rfl Try.func65 (by kernel_rfl) rfl #[.slice A0 l0.length c0] rfl (by (try simp only [List.map_toArray, List.map_cons, List.map_nil]); first | done | rfl | (simp only [List.length_drop, List.length_take]; rfl)) ?_; (with_reducible refine (matrix_Check.calls k _ _ l0 t101 _ ?side1 ?side2 A4.out).mono ?_); (case side1 => repeat (first | exact (Kd.C_below HR0.out HB.out) | (with_reducible refine Kd.C_alloc ?_ _) | (with_reducible refine Kd.C_drewN ?_ _) | (with_reducible refine Kd.C_drew ?_))); (case side2 => exact HC0.out); rintro e w' ⟨rfl, ⟨nd, rfl⟩⟩; refine ⟨_, rfl, ?_⟩))
      go_meet
      case rel => exact ⟨_, (true), (by first | rfl | (simp; done) | (simp [*]; done)), H', ⟨by first | omega | exact Nat.le_refl _⟩, ⟨by repeat (first | (with_reducible first | exact HB.out | apply below_alloc | apply pw_below_drewN | apply below_drew1) | exact HB.out)⟩⟩
  case rest =>
    clear HC3
    try clear c1
    try clear p2
    try clear c5
    try clear c5b0
    try clear c5b1
    try clear c6
    try clear c6b0
    try clear c6b1
    try clear c6b2
    obtain ⟨kq, x21_2, rfl, HA, HJ2, HB⟩ := hcut
    cases kq with
    | zero => exact absurd HA.out (by simp [matrix_Rows.j0])
    | succ kj2 =>
      have H := HA.out
      clear HA
      simp only [matrix_Rows.j0] at H
      by_cases c7 : x21_2 = true
      · subst c7
        have H1 : (some (([] : List (List Int)), 1)) = some (r1, r2) := by rw [if_pos rfl] at H; exact H
        clear H
        have H := H1
        clear H1
        simp only [Option.some.injEq, Prod.mk.injEq] at H
        obtain ⟨rfl, rfl⟩ := H
        go_wp2
        go_ret2
        exact ⟨_, by first | rfl | (simp [errW_none, errW_some] <;> rfl) | (simp [*, errW_none, errW_some] <;> rfl), by first | exact Kd.S_nil _ _ _ _ _ | exact Kd.N_nil _ _ _ _ _ | exact Kd.V_nil _ _ _ _ _ | exact Kd.Q_nil _ _ _ _ _ | exact Kd.R_nil _ _ _ _ _, by repeat (first | (with_reducible first | exact HB.out | apply below_alloc | apply pw_below_drewN | apply below_drew1) | exact HB.out)⟩
      · replace c7 := Bool.eq_false_iff.mpr c7
        subst c7
        have H1 : (matrix_Rows.l0 kj2 l0 ([] : List (List Int)) l1 (l1.length : Int) 0) = some (r1, r2) := by rw [if_neg (show ¬ (false = true) by decide)] at H; exact H
        clear H
        have H := H1
        clear H1
        have H' := Aside0.mk H
        clear H
        go_wp2
        go_loopg [6, 24] kj2 (fun kq v6 v24 w' => ∃ (x6_2 : List (List Int)) (x24_2 : Int), v24 = .int .i64 x24_2 ∧ Aside0 (matrix_Rows.l0 kq l0 x6_2 l1 (l1.length : Int) x24_2 = some (r1, r2)) ∧ Aside0 (kq ≤ kj2) ∧ Aside0 (Kd.S (Kd.slice 5 (Kd.int .u8)) 22 w' w.heap.size (fun _ => True) v6 x6_2) ∧ Aside0 (Below w.heap.size w w'))
        case atStart => exact ⟨(([] : List (List Int))), (0), (by first | rfl | (simp; done) | (simp [*]; done)), H', ⟨Nat.le_refl _⟩, ⟨by first | exact Kd.S_nil _ _ _ _ _ | exact Kd.N_nil _ _ _ _ _ | exact Kd.V_nil _ _ _ _ _ | exact Kd.Q_nil _ _ _ _ _ | exact Kd.R_nil _ _ _ _ _⟩, ⟨by repeat (first | (with_reducible first | exact HB.out | apply below_alloc | apply pw_below_drewN | apply below_drew1) | exact HB.out)⟩⟩
        case round =>
          clear H'
          try clear c1
          try clear p2
          try clear c5
          try clear c5b0
          try clear c5b1
          try clear c6
          try clear c6b0
          try clear c6b1
          try clear c6b2
          try clear c7
          try clear p2
          obtain ⟨x6_2, x24_2, rfl, HA, HK2, HO_6, HB⟩ := hrel
          cases gk with
          | zero => exact absurd HA.out (by simp [matrix_Rows.l0])
          | succ k2 =>
            have H := HA.out
            clear HA
            simp only [matrix_Rows.l0] at H
            by_cases c8 : x24_2 < (l1.length : Int)
            · rw [if_pos c8] at H
              have c8b0 : decide (x24_2 < (l1.length : Int)) = true := decide_eq_true c8
              clear c8
              by_cases c9 : 0 ≤ x24_2
              · rw [if_pos c9] at H
                have c9b0 : decide (0 ≤ x24_2) = true := decide_eq_true c9
                clear c9
                by_cases c10 : x24_2 < (l1.length : Int)
                · rw [if_pos c10] at H
                  have c10b0 : decide (x24_2 < (l1.length : Int)) = true := decide_eq_true c10
                  clear c10
                  by_cases c11 : (rd l1 x24_2) < 0
                  · rw [if_pos c11] at H
                    have c11b0 : decide ((rd l1 x24_2) < 0) = true := decide_eq_true c11
                    clear c11
                    simp only [Option.some.injEq, Prod.mk.injEq] at H
                    obtain ⟨rfl, rfl⟩ := H
                    have p102 : 0 ≤ (x24_2 : Int) := of_decide_eq_true (by first | (with_reducible assumption) | assumption)
                    have q102 : x24_2 < (l1.length : Int) := of_decide_eq_true (by first | (with_reducible assumption) | assumption)
                    obtain ⟨ad102, e102, hx102_0⟩ := Kd.at_int HR1.out x24_2 p102 q102
                    cases e102
                    replace hx102_0 := (HB.out.cell (World.block_lt_of_cell? w _ hx102_0)).trans hx102_0
                    replace p102 := eq_true p102
                    replace q102 := eq_true q102
                    go_wp2
                    go_ret2
                    exact ⟨_, by first | rfl | (simp [errW_none, errW_some] <;> rfl) | (simp [*, errW_none, errW_some] <;> rfl), by first | exact Kd.S_nil _ _ _ _ _ | exact Kd.N_nil _ _ _ _ _ | exact Kd.V_nil _ _ _ _ _ | exact Kd.Q_nil _ _ _ _ _ | exact Kd.R_nil _ _ _ _ _, by repeat (first | (with_reducible first | exact HB.out | apply below_alloc | apply pw_below_drewN | apply below_drew1) | exact HB.out)⟩
                  · rw [if_neg c11] at H
                    have c11b0 : decide ((rd l1 x24_2) < 0) = false := decide_eq_false c11
                    clear c11
                    by_cases c12 : (rd l1 x24_2) ≥ (l0.length : Int)
                    · rw [if_pos c12] at H
                      have c12b0 : decide ((l0.length : Int) ≤ (rd l1 x24_2)) = true := decide_eq_true c12
                      clear c12
                      simp only [Option.some.injEq, Prod.mk.injEq] at H
                      obtain ⟨rfl, rfl⟩ := H
                      have p102 : 0 ≤ (x24_2 : Int) := of_decide_eq_true (by first | (with_reducible assumption) | assumption)
                      have q102 : x24_2 < (l1.length : Int) := of_decide_eq_true (by first | (with_reducible assumption) | assumption)
                      obtain ⟨ad102, e102, hx102_0⟩ := Kd.at_int HR1.out x24_2 p102 q102
                      cases e102
                      replace hx102_0 := (HB.out.cell (World.block_lt_of_cell? w _ hx102_0)).trans hx102_0
                      replace p102 := eq_true p102
                      replace q102 := eq_true q102
                      go_wp2
                      go_ret2
                      exact ⟨_, by first | rfl | (simp [errW_none, errW_some] <;> rfl) | (simp [*, errW_none, errW_some] <;> rfl), by first | exact Kd.S_nil _ _ _ _ _ | exact Kd.N_nil _ _ _ _ _ | exact Kd.V_nil _ _ _ _ _ | exact Kd.Q_nil _ _ _ _ _ | exact Kd.R_nil _ _ _ _ _, by repeat (first | (with_reducible first | exact HB.out | apply below_alloc | apply pw_below_drewN | apply below_drew1) | exact HB.out)⟩
                    · rw [if_neg c12] at H
                      have c12b0 : decide ((l0.length : Int) ≤ (rd l1 x24_2)) = false := decide_eq_false c12
                      clear c12
                      by_cases c13 : 0 ≤ (rd l1 x24_2)
                      · rw [if_pos c13] at H
                        have c13b0 : decide (0 ≤ (rd l1 x24_2)) = true := decide_eq_true c13
                        clear c13
                        by_cases c14 : (rd l1 x24_2) < (l0.length : Int)
                        · rw [if_pos c14] at H
                          have c14b0 : decide ((rd l1 x24_2) < (l0.length : Int)) = true := decide_eq_true c14
                          clear c14
                          replace H := Option.bind_eq_some_iff.mp H
                          obtain ⟨t104, A150, H⟩ := H
                          replace H : (if x6_2.length < 5864062014805 then (matrix_Rows.l0 k2 l0 (x6_2 ++ [t104]) l1 (l1.length : Int) (wrap64 (x24_2 + 1))) else (none)) = some (r1, r2) := H
                          have A15 := Aside0.mk A150
                          clear A150
                          by_cases c16 : x6_2.length < 5864062014805
                          · rw [if_pos c16] at H
                            have LMc16 := Aside0.mk c16
                            clear c16
                            obtain ⟨y107, hy107⟩ : ∃ y_ : List (List Int), y_ = (x6_2 ++ [t104]) := ⟨_, rfl⟩
                            replace H : (matrix_Rows.l0 k2 l0 y107 l1 (l1.length : Int) (wrap64 (x24_2 + 1))) = some (r1, r2) := by first | (rw [hy107]; with_reducible exact H) | (have H2_ := (Option.bind_some _ _).symm.trans H; rw [hy107]; with_reducible exact H2_) | (have H2_ := (Option.bind_some _ _).symm.trans H; with_reducible exact H2_) | with_reducible exact H | (rw [hy107]; exact H) | exact H
                            have Ny107 := Aside0.mk hy107
                            clear hy107
                            have H' := Aside0.mk H
                            clear H
                            have p102 : 0 ≤ (x24_2 : Int) := of_decide_eq_true (by first | (with_reducible assumption) | assumption)
                            have q102 : x24_2 < (l1.length : Int) := of_decide_eq_true (by first | (with_reducible assumption) | assumption)
                            obtain ⟨ad102, e102, hx102_0⟩ := Kd.at_int HR1.out x24_2 p102 q102
                            cases e102
                            replace hx102_0 := (HB.out.cell (World.block_lt_of_cell? w _ hx102_0)).trans hx102_0
                            replace p102 := eq_true p102
                            replace q102 := eq_true q102
                            have p103 : 0 ≤ ((rd l1 x24_2) : Int) := of_decide_eq_true (by first | (with_reducible assumption) | assumption)
                            have q103 : (rd l1 x24_2) < (l0.length : Int) := of_decide_eq_true (by first | (with_reducible assumption) | assumption)
                            obtain ⟨ad103, A103_0, c103_0, e103, hx103_0, hl103_0, hi103_0⟩ := at_L1 HR0.out (rd l1 x24_2) p103 q103
                            cases e103
                            replace hx103_0 := (HB.out.cell (World.block_lt_of_cell? w _ hx103_0)).trans hx103_0
                            have HR103_0 := Aside0.mk hi103_0
                            have HC103_0 := Aside0.mk hl103_0
                            clear hi103_0 hl103_0
                            replace p103 := eq_true p103
                            replace q103 := eq_true q103
                            go_wp2_with (first | ((with_reducible refine gate_callee (f := 89) rfl ?_); refine goesL_ (some 41) rfl rfl Try.func89 (by kernel_rfl) rfl #[.slice A103_0 (rd_L1 l0 (rd l1 x24_2)).length c103_0] rfl (by (try simp only [List.map_toArray, List.map_cons, List.map_nil]); first | done | rfl | (simp only [List.length_drop, List.length_take]; rfl)) ?_; (with_reducible refine (slices_Clone_byte_byte.calls _ _ (rd_L1 l0 (rd l1 x24_2)) t104 _ ?side1 ?side2 A15.out).mono ?_); (case side1 => repeat (first | exact (Kd.C_below HR103_0.out HB.out) | (with_reducible refine Kd.C_alloc ?_ _) | (with_reducible refine Kd.C_drewN ?_ _) | (with_reducible refine Kd.C_drew ?_))); (case side2 => exact HC103_0.out); rintro e w17 ⟨v105, rfl, ho0, hb⟩; refine ⟨_, rfl, ?_⟩; have n0_ := Aside0.mk (Kd.S_elder' (by (with_reducible repeat (first | apply Kd.S_alloc | apply Kd.S_drewN | apply Kd.S_drew)); exact HO_6.out) (Kd.R_base ho0) hb); have n1_ := Aside0.mk (Kd.R_lower ho0 (below_size (by repeat (first | (with_reducible first | exact HB.out | apply below_alloc | apply pw_below_drewN | apply below_drew1) | exact HB.out)))); have n2_ := Aside0.mk (below_step (by repeat (first | (with_reducible first | exact HB.out | apply below_alloc | apply pw_below_drewN | apply below_drew1) | exact HB.out)) hb); clear HO_6; clear HB; have HO_6 := n0_; have HO106 := n1_; have HB := n2_; clear n0_ n1_ n2_; (try clear hb); (try clear hb2); (try clear hk); (try clear hi); (try clear ho0); obtain ⟨Ao19, co19, eo19⟩ := Kd.R_slice HO106.out; subst eo19) | ((with_reducible refine gate_builtin (b := .append) (xs := #[.tmp 36, .tmp 42]) rfl ?_); (try (refine gate_guard (by rfl) ?_; dsimp only)); at_builtin; refine Kd.S_append (Kd.slice 5 (Kd.int .u8)) (w0 := w) w.heap.size rfl (.tmp 36) (.tmp 42) 51 22 (.slice none 0 0) 24 rfl Try.underlying51 info22 rfl (by decide) (by omega) u6 x6_2 t104 [.slice Ao19 t104.length co19] (fun _ => True) (fun k_ => some k_ = (.slice Ao19 t104.length co19 : Value).ownBlock) rfl rfl ?aP (fun k_ hk_ => ((Kd.R_mono (ok' := fun k_ => ((fun _ => True)) k_ ∧ some k_ ≠ (u6 : Value).ownBlock) (Kd.R_apart' (HO106.out) (Kd.S_typed HO_6.out) (by decide)) (fun k_ hk => ⟨trivial, hk.2⟩))).1 k_ hk_.symm) ?aF ?aO ?aB ?aS ?aL ?_; (case aP => exact Kd.M_row (Kd.R_mono (Kd.R_tight rfl (Kd.R_mono (ok' := fun k_ => ((fun _ => True)) k_ ∧ some k_ ≠ (u6 : Value).ownBlock) (Kd.R_apart' (HO106.out) (Kd.S_typed HO_6.out) (by decide)) (fun k_ hk => ⟨trivial, hk.2⟩))) (fun _ h_ => h_))); (case aB => exact (by repeat (first | (with_reducible first | exact HB.out | apply below_alloc | apply pw_below_drewN | apply below_drew1) | exact HB.out))); (case aF => exact (fun _ _ => trivial)); (case aO => exact (by (with_reducible repeat (first | apply Kd.S_alloc | apply Kd.S_drewN | apply Kd.S_drew)); exact Kd.S_mono HO_6.out (fun k_ hk => ⟨trivial, fun e_ => hk.2 e_⟩))); (case aS => exact (below_size (by repeat (first | (with_reducible first | exact HB.out | apply below_alloc | apply pw_below_drewN | apply below_drew1) | exact HB.out)))); (case aL => have := LMc16.out; omega); intro v108 w18 ho hb hg hat; rw [← Ny107.out] at ho; have n0_ := Aside0.mk (hb); have n1_ := Aside0.mk (ho); clear HB; clear HO_6; clear HO106; have HB := n0_; have HO109 := n1_; clear n0_ n1_; clear ho hb hg hat))
                            go_roundg k2
                            case measure => have := HJ2.out; have := HK2.out; omega
                            case rel => exact ⟨(y107), (wrap64 (x24_2 + 1)), (by first | rfl | (simp; done) | (simp [*]; done)), H', ⟨by have := HJ2.out; have := HK2.out; omega⟩, ⟨by (with_reducible repeat (first | apply Kd.S_alloc | apply Kd.S_drewN | apply Kd.S_drew)); exact HO109.out⟩, ⟨by repeat (first | (with_reducible first | exact HB.out | apply below_alloc | apply pw_below_drewN | apply below_drew1) | exact HB.out)⟩⟩
                          · rw [if_neg c16] at H
                            exact absurd H (by simp)
                        · rw [if_neg c14] at H
                          exact absurd H (by simp)
                      · rw [if_neg c13] at H
                        exact absurd H (by simp)
                · rw [if_neg c10] at H
                  exact absurd H (by simp)
              · rw [if_neg c9] at H
                exact absurd H (by simp)
            · rw [if_neg c8] at H
              have c8b0 : decide (x24_2 < (l1.length : Int)) = false := decide_eq_false c8
              clear c8
              simp only [Option.some.injEq, Prod.mk.injEq] at H
              obtain ⟨rfl, rfl⟩ := H
              go_wp2
              go_ret2
              exact ⟨_, by first | rfl | (simp [errW_none, errW_some] <;> rfl) | (simp [*, errW_none, errW_some] <;> rfl), by (with_reducible repeat (first | apply Kd.S_alloc | apply Kd.S_drewN | apply Kd.S_drew)); exact HO_6.out, by repeat (first | (with_reducible first | exact HB.out | apply below_alloc | apply pw_below_drewN | apply below_drew1) | exact HB.out)⟩
end Go.Proofs.Ytbogmlckbkogiaa.P
