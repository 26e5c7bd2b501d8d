/- Dot and AddMul, of the program and of the reference, answer the sums and rows of products. Conditions: lists below 2^47 bytes. -/
import Derived.Test.YtbogmlckbkogiaaGfb
import Derived.Test.YtbogmlckbkogiaaPGfDot
import Derived.Test.YtbogmlckbkogiaaPGfAddMul
import Derived.Test.YtbogmlckbkogiaaPMooringref01Dot
import Derived.Test.YtbogmlckbkogiaaPMooringref01Same
namespace Go.Proofs.Ytbogmlckbkogiaa.Gf
open Go.RowKit Go.Proofs.YtbogmlckbkogiaaW.PrintWords Go.Proofs.Ytbogmlckbkogiaa.Leaf Go.Proofs.Ytbogmlckbkogiaa.P
/-! ### Lists of bytes -/
/-- The numbers of a list of bytes. -/
def ofL (L : List B) : List Int := L.map ofB
/-- The byte at a place, nought behind the end. -/
def at0 (L : List B) (i : Nat) : B := L.getD i 0#8
theorem ofL_length (L : List B) : (ofL L).length = L.length := List.length_map _
theorem rd_ofL (L : List B) (i : Nat) : rd (ofL L) (i : Int) = ofB (at0 L i) := by
  unfold rd ofL at0
  simp only [List.getD_eq_getElem?_getD, List.getElem?_map, Int.toNat_natCast]
  cases L[i]? <;> rfl
theorem row_of {l : List Int} (h : ∀ x ∈ l, (Lit.int .u8 x).wf = true) : ∃ L : List B, l = ofL L := by
  refine ⟨l.map toB, ?_⟩
  unfold ofL
  rw [List.map_map]
  refine (List.map_id' l).symm.trans (List.map_congr_left fun x hx => ?_)
  have h1 : 0 ≤ x ∧ x ≤ 255 := by simpa [Lit.wf, IntKind.min, IntKind.max, IntKind.signed, IntKind.bits] using h x hx
  exact (ofB_toB x h1.1 (by omega)).symm
theorem ofL_inj {L M : List B} (h : ofL L = ofL M) : L = M := by
  have := congrArg (List.map toB) h
  unfold ofL at this
  rw [List.map_map, List.map_map] at this
  simpa [Function.comp_def, toB_ofB] using this
theorem ofL_nil : ofL [] = [] := rfl
theorem ofL_set (L : List B) (i : Nat) (b : B) : (ofL L).set i (ofB b) = ofL (L.set i b) := by unfold ofL; rw [List.map_set]
theorem ofL_replicate (n : Nat) : List.replicate n (0 : Int) = ofL (List.replicate n 0#8) := by unfold ofL; rw [List.map_replicate]; rfl
/-- The sum of the products at the first `n` places. -/
def dn (L M : List B) : Nat → B
  | 0 => 0#8
  | n + 1 => dn L M n ^^^ mul (at0 L n) (at0 M n)
theorem gfDot_l0 (L M : List B) (hL : L.length = M.length) (hs : L.length < 2 ^ 62) (n : Nat) : ∀ i : Nat, i + n = L.length → Ev (fun k => gf_Dot.l0 k (ofL L) (ofL M) (ofB (dn L M i)) (L.length : Int) (i : Int)) (ofB (dn L M L.length), true) := by
  induction n with
  | zero =>
    intro i hi
    refine Ev.step (f := fun _ => some (ofB (dn L M i), true)) (fun k => ?_) ?_
    · simp only [gf_Dot.l0]
      rw [if_neg (by omega)]
    · rw [show i = L.length by omega]
      exact Ev.now _
  | succ n ih =>
    intro i hi
    refine Ev.step (f := fun k => gf_Dot.l0 k (ofL L) (ofL M) (ofB (dn L M (i + 1))) (L.length : Int) ((i + 1 : Nat) : Int)) (fun k => ?_) (ih (i + 1) (by omega))
    simp only [gf_Dot.l0, ofL_length]
    rw [if_pos (by omega), if_pos (by omega), if_pos (by omega), if_pos (by omega), rd_ofL, rd_ofL, gfMul_eq, Option.bind_some, xor_ofB, w64 _ (by omega) (by omega)]
    rfl
def dotB (L M : List B) : Int × Bool := if L.length = M.length then (ofB (dn L M L.length), true) else (0, false)
theorem gfDot (L M : List B) (hs : L.length < 2 ^ 62) : Ev (fun k => gf_Dot.f k (ofL L) (ofL M)) (dotB L M) := by
  unfold gf_Dot.f dotB
  simp only [ofL_length]
  by_cases h : L.length = M.length
  · simp only [show ((L.length : Int) = (M.length : Int)) = True from eq_true (by omega), if_true, if_pos h]
    exact gfDot_l0 L M h hs L.length 0 (by omega)
  · simp only [show ((L.length : Int) = (M.length : Int)) = False from eq_false (by omega), if_false, if_neg h]
    exact Ev.now _
theorem refDot_l0 (L M : List B) (hL : L.length = M.length) (hs : L.length < 2 ^ 62) (n : Nat) : ∀ i : Nat, i + n = L.length → Ev (fun k => mooringref01_Dot.l0 k (ofL L) (ofL M) (ofB (dn L M i)) (i : Int)) (ofB (dn L M L.length), true) := by
  induction n with
  | zero =>
    intro i hi
    refine Ev.step (f := fun _ => some (ofB (dn L M i), true)) (fun k => ?_) ?_
    · simp only [mooringref01_Dot.l0, ofL_length]
      rw [if_neg (by omega)]
    · rw [show i = L.length by omega]
      exact Ev.now _
  | succ n ih =>
    intro i hi
    refine Ev.step (f := fun k => (mooringref01_Mul.f k (ofB (at0 L i)) (ofB (at0 M i))).bind fun t => mooringref01_Dot.l0 k (ofL L) (ofL M) (Go.bits .xor .u8 (ofB (dn L M i)) t) ((i + 1 : Nat) : Int)) (fun k => ?_) ?_
    · simp only [mooringref01_Dot.l0, ofL_length]
      rw [if_pos (by omega), if_pos (by omega), if_pos (by omega), rd_ofL, rd_ofL, w64 _ (by omega) (by omega)]
      rfl
    · refine Ev.bind (refMul _ _) ?_
      rw [xor_ofB]
      exact ih (i + 1) (by omega)
theorem refDot (L M : List B) (hs : L.length < 2 ^ 62) : Ev (fun k => mooringref01_Dot.f k (ofL L) (ofL M)) (dotB L M) := by
  unfold mooringref01_Dot.f dotB
  simp only [ofL_length]
  by_cases h : L.length = M.length
  · simp only [show ((L.length : Int) = (M.length : Int)) = True from eq_true (by omega), if_true, if_pos h]
    exact refDot_l0 L M h hs L.length 0 (by omega)
  · simp only [show ((L.length : Int) = (M.length : Int)) = False from eq_false (by omega), if_false, if_neg h]
    exact Ev.now _
/-- The row of `a + s * b`, its first `n` places done. -/
def am (L M : List B) (s : B) (n : Nat) : List B := (List.range L.length).map fun j => if j < n then at0 L j ^^^ mul (at0 M j) s else 0#8
theorem am_length (L M : List B) (s : B) (n : Nat) : (am L M s n).length = L.length := by unfold am; rw [List.length_map, List.length_range]
theorem at0_am (L M : List B) (s : B) (n j : Nat) (hj : j < L.length) : at0 (am L M s n) j = if j < n then at0 L j ^^^ mul (at0 M j) s else 0#8 := by
  unfold am
  show ((List.range L.length).map _).getD j 0#8 = _
  rw [List.getD_eq_getElem?_getD, List.getElem?_map, List.getElem?_range hj]
  rfl
theorem ext0 {L M : List B} (hl : L.length = M.length) (h : ∀ j, j < L.length → at0 L j = at0 M j) : L = M := by
  refine List.ext_getElem hl fun j h1 h2 => ?_
  have := h j h1
  unfold at0 at this
  simpa [List.getD_eq_getElem?_getD, h1, h2] using this
theorem at0_set (L : List B) (i j : Nat) (b : B) (hi : i < L.length) : at0 (L.set i b) j = if i = j then b else at0 L j := by
  unfold at0
  simp only [List.getD_eq_getElem?_getD, List.getElem?_set]
  by_cases h : i = j
  · subst h; simp [hi]
  · simp [h]
theorem am_set (L M : List B) (s : B) (i : Nat) (hi : i < L.length) : (am L M s i).set i (at0 L i ^^^ mul (at0 M i) s) = am L M s (i + 1) := by
  refine ext0 (by rw [List.length_set, am_length, am_length]) fun j hj => ?_
  rw [List.length_set, am_length] at hj
  rw [at0_set _ _ _ _ (by rw [am_length]; exact hi), at0_am _ _ _ _ _ hj, at0_am _ _ _ _ _ hj]
  by_cases h : i = j
  · subst h; rw [if_pos rfl, if_pos (by omega)]
  · rw [if_neg h]
    by_cases h2 : j < i
    · rw [if_pos h2, if_pos (by omega)]
    · rw [if_neg h2, if_neg (by omega)]
theorem am_zero (L M : List B) (s : B) : List.replicate L.length 0#8 = am L M s 0 := by
  refine ext0 (by rw [List.length_replicate, am_length]) fun j hj => ?_
  rw [List.length_replicate] at hj
  rw [at0_am _ _ _ _ _ hj, if_neg (by omega)]
  unfold at0
  simp [List.getD_eq_getElem?_getD, hj]
theorem gfAddMul_l0 (L M : List B) (s : B) (hL : L.length = M.length) (hs : L.length < 2 ^ 62) (n : Nat) : ∀ i : Nat, i + n = L.length → Ev (fun k => gf_AddMul.l0 k (ofL L) (ofL M) (ofB s) (ofL (am L M s i)) (L.length : Int) (i : Int)) (ofL (am L M s L.length), true) := by
  induction n with
  | zero =>
    intro i hi
    refine Ev.step (f := fun _ => some (ofL (am L M s i), true)) (fun k => ?_) ?_
    · simp only [gf_AddMul.l0]
      rw [if_neg (by omega)]
    · rw [show i = L.length by omega]
      exact Ev.now _
  | succ n ih =>
    intro i hi
    refine Ev.step (f := fun k => gf_AddMul.l0 k (ofL L) (ofL M) (ofB s) (ofL (am L M s (i + 1))) (L.length : Int) ((i + 1 : Nat) : Int)) (fun k => ?_) (ih (i + 1) (by omega))
    simp only [gf_AddMul.l0, ofL_length, am_length]
    rw [if_pos (by omega), if_pos (by omega), if_pos (by omega), if_pos (by omega), rd_ofL, rd_ofL, gfMul_eq, Option.bind_some, if_pos (by omega), xor_ofB, Int.toNat_natCast, ofL_set, am_set _ _ _ _ (by omega), w64 _ (by omega) (by omega)]
    rfl
def addMulB (L M : List B) (s : B) : List Int × Bool := if L.length = M.length then (ofL (am L M s L.length), true) else ([], false)
theorem gfAddMul (L M : List B) (s : B) (hs : L.length < 2 ^ 48) : Ev (fun k => gf_AddMul.f k (ofL L) (ofL M) (ofB s)) (addMulB L M s) := by
  unfold gf_AddMul.f addMulB
  simp only [ofL_length]
  by_cases h : L.length = M.length
  · simp only [show ((L.length : Int) = (M.length : Int)) = True from eq_true (by omega), show (0 ≤ (L.length : Int)) = True from eq_true (by omega), if_true, if_pos h]
    simp only [Int.toNat_natCast, show (L.length ≤ 281474976710656) = True from eq_true (by omega), if_true, Option.bind_some, Int.toNat_natCast, List.length_replicate]
    rw [ofL_replicate, am_zero L M s]
    exact gfAddMul_l0 L M s h (by omega) L.length 0 (by omega)
  · simp only [show ((L.length : Int) = (M.length : Int)) = False from eq_false (by omega), if_false, if_neg h]
    exact Ev.now _
theorem refSame_self (l : List Int) : mooringref01_Same.f l l = some true := by
  unfold mooringref01_Same.f
  rw [beq_self_eq_true]
end Go.Proofs.Ytbogmlckbkogiaa.Gf
