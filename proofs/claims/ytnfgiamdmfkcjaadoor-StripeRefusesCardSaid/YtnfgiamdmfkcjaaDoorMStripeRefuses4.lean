/- Words and walks that the claim StripeRefuses leans on (what it does not use is left out). -/
import Derived.Test.YtnfgiamdmfkcjaaDoorMStripeRefuses3
import Derived.Test.YtnfgiamdmfkcjaaDoorMStripeRefuses1
import Derived.Test.YtnfgiamdmfkcjaaDoorMStripeRefuses2
namespace Go.Proofs.YtnfgiamdmfkcjaaDoor.Mx
open Go.Proofs.YtnfgiamdmfkcjaaDoor.Gf
set_option linter.unusedVariables false
set_option linter.unusedSimpArgs false
def sq {α : Type} : List α → (α → B) → B
  | [], _ => 0#8
  | x :: l, f => f x ^^^ sq l f
theorem sl_sq (l : List B) (f : B → B) : sl l f = sq l f := by
  induction l with
  | nil => rfl
  | cons x l ih => simp only [sl, sq]; rw [ih]
theorem sq_congr {α : Type} {l : List α} {f g : α → B} (h : ∀ x ∈ l, f x = g x) : sq l f = sq l g := by
  induction l with
  | nil => rfl
  | cons x l ih => simp only [sq]; rw [h x (by simp), ih (fun y hy => h y (by simp [hy]))]
theorem nodup_len {α : Type} [DecidableEq α] : ∀ (l l' : List α), l.Nodup → (∀ x ∈ l, x ∈ l') → l.length ≤ l'.length := by
  intro l
  induction l with
  | nil => intro l' _ _; exact Nat.zero_le _
  | cons a l ih =>
    intro l' hn hs
    rw [List.nodup_cons] at hn
    have h1 := hs a (by simp)
    have h2 := ih (l'.erase a) hn.2 (fun x hx => (List.mem_erase_of_ne (fun e => hn.1 (by rw [← e]; exact hx))).2 (hs x (by simp [hx])))
    rw [List.length_erase_of_mem h1] at h2
    have h3 := List.length_pos_of_mem h1
    rw [List.length_cons]
    omega
theorem filter_split {α : Type} (p : α → Bool) (l : List α) : (l.filter p).length + (l.filter fun x => !p x).length = l.length := by
  induction l with
  | nil => rfl
  | cons a l ih =>
    simp only [List.filter_cons]
    cases p a <;> simp <;> omega
theorem sq_filter {α : Type} (p : α → Bool) (f : α → B) (l : List α) (h : ∀ x ∈ l, p x = false → f x = 0#8) : sq (l.filter p) f = sq l f := by
  induction l with
  | nil => rfl
  | cons a l ih =>
    simp only [List.filter_cons]
    cases hp : p a with
    | true => simp only [if_true, sq]; rw [ih (fun x hx => h x (by simp [hx]))]
    | false => simp only [Bool.false_eq_true, if_false, sq]; rw [ih (fun x hx => h x (by simp [hx])), h a (by simp) hp, BitVec.zero_xor]
theorem sq_map {α β : Type} (g : α → β) (f : β → B) (l : List α) : sq (l.map g) f = sq l (fun x => f (g x)) := by
  induction l with
  | nil => rfl
  | cons a l ih => simp only [List.map_cons, sq]; rw [ih]
theorem sq_append {α : Type} (f : α → B) (l l' : List α) : sq (l ++ l') f = sq l f ^^^ sq l' f := by
  induction l with
  | nil => simp [sq]
  | cons a l ih => simp only [List.cons_append, sq]; rw [ih, BitVec.xor_assoc]
theorem sm_range (n : Nat) (f : Nat → B) : sm n f = sq (List.range n) f := by
  induction n with
  | zero => rfl
  | succ n ih => rw [List.range_succ, sq_append]; simp only [sm, sq]; rw [ih, BitVec.xor_zero]
/-- An element of the code's matrix. -/
def cau (k m : Nat) : Fm := fun v j => if v < k then I v j else inv (BitVec.ofNat 8 (v - k) ^^^ BitVec.ofNat 8 (m + j))
theorem ofNat8_inj {a b : Nat} (ha : a < 256) (hb : b < 256) (h : BitVec.ofNat 8 a = BitVec.ofNat 8 b) : a = b := by
  have := congrArg BitVec.toNat h
  rw [BitVec.toNat_ofNat, BitVec.toNat_ofNat] at this
  omega
theorem nodup_map {α β : Type} (g : α → β) (l : List α) (h : l.Nodup) (hi : ∀ x ∈ l, ∀ y ∈ l, g x = g y → x = y) : (l.map g).Nodup := by
  induction l with
  | nil => exact List.nodup_nil
  | cons a l ih =>
    rw [List.nodup_cons] at h
    rw [List.map_cons, List.nodup_cons]
    refine ⟨fun hm => ?_, ih h.2 (fun x hx y hy => hi x (by simp [hx]) y (by simp [hy]))⟩
    obtain ⟨b, hb, e⟩ := List.mem_map.1 hm
    have := hi b (by simp [hb]) a (by simp) e
    exact h.1 (by rw [← this]; exact hb)
theorem getD_inj {l : List Nat} (h : l.Nodup) {i j : Nat} (hi : i < l.length) (hj : j < l.length) (e : l.getD i 0 = l.getD j 0) : i = j := by
  rw [List.getD_eq_getElem?_getD, List.getElem?_eq_getElem hi, List.getD_eq_getElem?_getD, List.getElem?_eq_getElem hj] at e
  exact (List.getElem_inj h).1 e
theorem getD_mem {l : List Nat} {i : Nat} (hi : i < l.length) : l.getD i 0 ∈ l := by
  rw [List.getD_eq_getElem?_getD, List.getElem?_eq_getElem hi]
  exact List.getElem_mem hi
/-- Any k rows of the code's matrix: no sum of multiples of them is nought but that of nought. -/
theorem cauchy_regular {k m : Nat} (hk : k + m ≤ 255) (ls : List Nat) (hl : ls.length = k) (hnd : ls.Nodup) (hb : ∀ v ∈ ls, v < k + m) (y : Nat → B) (h0 : ∀ j, j < k → sm k (fun i => mul (y i) (cau k m (ls.getD i 0) j)) = 0#8) : ∀ i, i < k → y i = 0#8 := by
  have hlt : ∀ i, i < k → ls.getD i 0 < k + m := fun i hi => hb _ (getD_mem (by rw [hl]; exact hi))
  -- the rows behind the first k
  have hbig : ∀ i, i < k → k ≤ ls.getD i 0 → y i = 0#8 := by
    let Pi : List Nat := (List.range k).filter fun i => decide (k ≤ ls.getD i 0)
    let Ji : List Nat := (List.range k).filter fun j => !decide (j ∈ ls)
    have hPi : ∀ i, i ∈ Pi ↔ i < k ∧ k ≤ ls.getD i 0 := fun i => by simp only [Pi, List.mem_filter, List.mem_range, decide_eq_true_eq]
    have hJi : ∀ j, j ∈ Ji ↔ j < k ∧ ¬ j ∈ ls := fun j => by simp only [Ji, List.mem_filter, List.mem_range, Bool.not_eq_true', decide_eq_false_iff_not]
    let gx : Nat → B := fun i => BitVec.ofNat 8 (ls.getD i 0 - k)
    let gy : Nat → B := fun j => BitVec.ofNat 8 (m + j)
    let c : B → B := fun x => match (List.range k).find? (fun i => ls.getD i 0 == k + x.toNat) with | some i => y i | none => 0#8
    have hc : ∀ i, i ∈ Pi → c (gx i) = y i := by
      intro i hi
      obtain ⟨h1, h2⟩ := (hPi i).1 hi
      have h3 := hlt i h1
      have h4 : (gx i).toNat = ls.getD i 0 - k := by simp only [gx, BitVec.toNat_ofNat]; omega
      have h5 : (List.range k).find? (fun i' => ls.getD i' 0 == k + (gx i).toNat) = some i := by
        rw [List.find?_range_eq_some]
        refine ⟨by rw [h4, beq_iff_eq]; omega, List.mem_range.2 h1, fun j hj => ?_⟩
        rw [h4, Bool.not_eq_true', beq_eq_false_iff_ne]
        intro e
        have := getD_inj hnd (i := j) (j := i) (by omega) (by omega) (by omega)
        omega
      show (match (List.range k).find? (fun i' => ls.getD i' 0 == k + (gx i).toNat) with | some i => y i | none => 0#8) = y i
      rw [h5]
    have hlen : (Pi.map gx).length ≤ (Ji.map gy).length := by
      rw [List.length_map, List.length_map]
      have s1 := filter_split (fun i => decide (k ≤ ls.getD i 0)) (List.range k)
      have s2 := filter_split (fun j => !decide (j ∈ ls)) (List.range k)
      rw [List.length_range] at s1 s2
      have s3 : ((List.range k).filter fun j => !(!decide (j ∈ ls))).length ≤ (((List.range k).filter fun i => !decide (k ≤ ls.getD i 0)).map fun i => ls.getD i 0).length := by
        refine nodup_len _ _ (List.Pairwise.filter _ List.nodup_range) (fun j hj => ?_)
        simp only [List.mem_filter, List.mem_range, Bool.not_not, decide_eq_true_eq] at hj
        obtain ⟨i, hi, e⟩ := List.mem_iff_getElem.1 hj.2
        have e2 : ls.getD i 0 = j := by rw [List.getD_eq_getElem?_getD, List.getElem?_eq_getElem hi]; exact e
        refine List.mem_map.2 ⟨i, ?_, e2⟩
        simp only [List.mem_filter, List.mem_range, Bool.not_eq_true', decide_eq_false_iff_not]
        exact ⟨by omega, by rw [e2]; omega⟩
      rw [List.length_map] at s3
      show ((List.range k).filter fun i => decide (k ≤ ls.getD i 0)).length ≤ ((List.range k).filter fun j => !decide (j ∈ ls)).length
      omega
    have key := cauchy_null (Pi.map gx) (Ji.map gy) ?_ ?_ ?_ hlen c ?_
    · intro i hi h1
      have hm : i ∈ Pi := (hPi i).2 ⟨hi, h1⟩
      rw [← hc i hm]
      exact key _ (List.mem_map.2 ⟨i, hm, rfl⟩)
    · refine nodup_map gx Pi (List.Pairwise.filter _ List.nodup_range) (fun i hi j hj e => ?_)
      obtain ⟨h1, h2⟩ := (hPi i).1 hi
      obtain ⟨h3, h4⟩ := (hPi j).1 hj
      have h5 := hlt i h1
      have h6 := hlt j h3
      have := ofNat8_inj (by omega) (by omega) e
      exact getD_inj hnd (by omega) (by omega) (by omega)
    · refine nodup_map gy Ji (List.Pairwise.filter _ List.nodup_range) (fun i hi j hj e => ?_)
      obtain ⟨h1, h2⟩ := (hJi i).1 hi
      obtain ⟨h3, h4⟩ := (hJi j).1 hj
      have := ofNat8_inj (by omega) (by omega) e
      omega
    · intro x hx z hz e
      obtain ⟨i, hi, rfl⟩ := List.mem_map.1 hx
      obtain ⟨j, hj, rfl⟩ := List.mem_map.1 hz
      obtain ⟨h1, h2⟩ := (hPi i).1 hi
      obtain ⟨h3, h4⟩ := (hJi j).1 hj
      have h5 := hlt i h1
      have := ofNat8_inj (by omega) (by omega) e
      omega
    · intro z hz
      obtain ⟨j, hj, rfl⟩ := List.mem_map.1 hz
      obtain ⟨h3, h4⟩ := (hJi j).1 hj
      rw [← h0 j h3, sm_range, sl_sq, sq_map]
      have e1 : sq Pi (fun i => mul (c (gx i)) (inv (gx i ^^^ gy j))) = sq Pi (fun i => mul (y i) (cau k m (ls.getD i 0) j)) := by
        refine sq_congr (fun i hi => ?_)
        rw [hc i hi]
        unfold cau
        rw [if_neg (by have := ((hPi i).1 hi).2; omega)]
      rw [e1]
      refine sq_filter _ _ _ (fun i hi hp => ?_)
      have h5 : ¬ k ≤ ls.getD i 0 := by simpa using hp
      unfold cau
      rw [if_pos (by omega)]
      unfold I
      rw [if_neg (fun e => h4 (by rw [← e]; exact getD_mem (by rw [hl]; exact List.mem_range.1 hi))), mul_zero]
  intro i hi
  by_cases h1 : k ≤ ls.getD i 0
  · exact hbig i hi h1
  · have h2 := h0 (ls.getD i 0) (by omega)
    rw [sm_single hi (fun j hj hne => ?_)] at h2
    · unfold cau I at h2
      rw [if_pos (by omega), if_pos rfl, mul_one] at h2
      exact h2
    · by_cases h3 : k ≤ ls.getD j 0
      · rw [hbig j hj h3, zero_mul]
      · unfold cau I
        rw [if_pos (by omega), if_neg (fun e => hne (getD_inj hnd (by omega) (by omega) e)), mul_zero]
end Go.Proofs.YtnfgiamdmfkcjaaDoor.Mx
namespace Go.Proofs.YtnfgiamdmfkcjaaDoor.P
open Go.Proofs.YtnfgiamdmfkcjaaDoor.Leaf
open Go.RowKit Go.Proofs.YtnfgiamdmfkcjaaDoorW.PrintWords Go.Proofs.YtnfgiamdmfkcjaaDoorW.PrintLast Go.Proofs.YtnfgiamdmfkcjaaDoorW.PrintMore
attribute [local go_sem] max2_int min2_int max_two min_two max_three min_three max_four min_four   -- for this text's walks alone
set_option linter.unusedVariables false
set_option linter.unusedSimpArgs false
mutual
def matrix_Cauchy.j0 : Nat → Int → Int → Bool → Option ((List (List Int)) × Int)
 | 0, _, _, _ => none
 | k + 1, x0, x1, x26 => if x26 = true then (some (([] : List (List Int)), 1)) else ((matrix_Identity.f k x0).bind fun bt101 => (matrix_Cauchy.l0 k x0 x1 bt101.1 x1 0))
def matrix_Cauchy.l0 : Nat → Int → Int → List (List Int) → Int → Int → Option ((List (List Int)) × Int)
 | 0, _, _, _, _, _ => none
 | k + 1, x0, x1, x6, x32, x33 => if x33 < x32 then (if 0 ≤ x0 then (if (x0 : Int).toNat ≤ 281474976710656 then (matrix_Cauchy.l1 k x0 x1 x6 x33 (List.replicate (x0 : Int).toNat 0) x32 x33 x0 0) else (none)) else (none)) else (some (x6, 0))
def matrix_Cauchy.l1 : Nat → Int → Int → List (List Int) → Int → List Int → Int → Int → Int → Int → Option ((List (List Int)) × Int)
 | 0, _, _, _, _, _, _, _, _, _ => none
 | k + 1, x0, x1, x6, x8, x9, x32, x33, x38, x39 => if x39 < x38 then ((gf_Inv.f (Go.bits .xor .u8 ((x8) % 256) ((wrap64 (x1 + x39)) % 256))).bind fun bt108 => (if 0 ≤ x39 then (if x39 < (x9.length : Int) then (matrix_Cauchy.l1 k x0 x1 x6 x8 (x9.set (x39 : Int).toNat bt108.1) x32 x33 x38 (wrap64 (x39 + 1))) else (none)) else (none))) else (if x6.length < 5864062014805 then (matrix_Cauchy.l0 k x0 x1 (x6 ++ [x9]) x32 (wrap64 (x33 + 1))) else (none))
end
def matrix_Cauchy.f (k : Nat) (a0 : Int) (a1 : Int) : Option ((List (List Int)) × Int) := if a0 < 1 then (matrix_Cauchy.j0 k a0 a1 true) else (if a1 < 1 then (matrix_Cauchy.j0 k a0 a1 true) else (if a0 > 255 then (matrix_Cauchy.j0 k a0 a1 true) else (matrix_Cauchy.j0 k a0 a1 (decide (a1 > (wrap64 (255 - a0)))))))
theorem matrix_Cauchy.mono_l : ∀ k, (∀ y0 y1 y2, LeO (matrix_Cauchy.j0 k y0 y1 y2) (matrix_Cauchy.j0 (k + 1) y0 y1 y2)) ∧ (∀ y0 y1 y2 y3 y4, LeO (matrix_Cauchy.l0 k y0 y1 y2 y3 y4) (matrix_Cauchy.l0 (k + 1) y0 y1 y2 y3 y4)) ∧ (∀ y0 y1 y2 y3 y4 y5 y6 y7 y8, LeO (matrix_Cauchy.l1 k y0 y1 y2 y3 y4 y5 y6 y7 y8) (matrix_Cauchy.l1 (k + 1) y0 y1 y2 y3 y4 y5 y6 y7 y8))
 | 0 => ⟨fun _ _ _ r h => by simp [matrix_Cauchy.j0] at h, fun _ _ _ _ _ r h => by simp [matrix_Cauchy.l0] at h, fun _ _ _ _ _ _ _ _ _ r h => by simp [matrix_Cauchy.l1] at h⟩
 | k + 1 => by
  obtain ⟨ih0, ih1, ih2⟩ := matrix_Cauchy.mono_l k
  refine ⟨?_, ?_, ?_⟩
  ·intro y0 y1 y2
   unfold matrix_Cauchy.j0
   repeat' first
   | (with_reducible exact ih0 _ _ _)
   | (with_reducible exact ih1 _ _ _ _ _)
   | (with_reducible exact ih2 _ _ _ _ _ _ _ _ _)
   | (with_reducible exact matrix_Identity.mono _ _)
   | (with_reducible exact LeO.refl _)
   | (with_reducible exact LeO.none _)
   | (with_reducible refine LeO.ite ?_ ?_)
   | (with_reducible refine LeO.bind ?_ (fun _ => ?_))
   | exact ih0 _ _ _
   | exact ih1 _ _ _ _ _
   | exact ih2 _ _ _ _ _ _ _ _ _
   | exact matrix_Identity.mono _ _
   | exact LeO.none _
   | refine LeO.ite ?_ ?_
   | refine LeO.bind ?_ (fun _ => ?_)
  ·intro y0 y1 y2 y3 y4
   unfold matrix_Cauchy.l0
   repeat' first
   | (with_reducible exact ih0 _ _ _)
   | (with_reducible exact ih1 _ _ _ _ _)
   | (with_reducible exact ih2 _ _ _ _ _ _ _ _ _)
   | (with_reducible exact matrix_Identity.mono _ _)
   | (with_reducible exact LeO.refl _)
   | (with_reducible exact LeO.none _)
   | (with_reducible refine LeO.ite ?_ ?_)
   | (with_reducible refine LeO.bind ?_ (fun _ => ?_))
   | exact ih0 _ _ _
   | exact ih1 _ _ _ _ _
   | exact ih2 _ _ _ _ _ _ _ _ _
   | exact matrix_Identity.mono _ _
   | exact LeO.none _
   | refine LeO.ite ?_ ?_
   | refine LeO.bind ?_ (fun _ => ?_)
  ·intro y0 y1 y2 y3 y4 y5 y6 y7 y8
   unfold matrix_Cauchy.l1
   repeat' first
   | (with_reducible exact ih0 _ _ _)
   | (with_reducible exact ih1 _ _ _ _ _)
   | (with_reducible exact ih2 _ _ _ _ _ _ _ _ _)
   | (with_reducible exact matrix_Identity.mono _ _)
   | (with_reducible exact LeO.refl _)
   | (with_reducible exact LeO.none _)
   | (with_reducible refine LeO.ite ?_ ?_)
   | (with_reducible refine LeO.bind ?_ (fun _ => ?_))
   | exact ih0 _ _ _
   | exact ih1 _ _ _ _ _
   | exact ih2 _ _ _ _ _ _ _ _ _
   | exact matrix_Identity.mono _ _
   | exact LeO.none _
   | refine LeO.ite ?_ ?_
   | refine LeO.bind ?_ (fun _ => ?_)
theorem matrix_Cauchy.mono : ∀ a0 a1 k, LeO (matrix_Cauchy.f k a0 a1) (matrix_Cauchy.f (k + 1) a0 a1) := by
 intro a0 a1 k
 obtain ⟨ih0, ih1, ih2⟩ := matrix_Cauchy.mono_l k
 unfold matrix_Cauchy.f
 repeat' first
   | (with_reducible exact ih0 _ _ _)
   | (with_reducible exact ih1 _ _ _ _ _)
   | (with_reducible exact ih2 _ _ _ _ _ _ _ _ _)
   | (with_reducible exact matrix_Identity.mono _ _)
   | (with_reducible exact LeO.refl _)
   | (with_reducible exact LeO.none _)
   | (with_reducible refine LeO.ite ?_ ?_)
   | (with_reducible refine LeO.bind ?_ (fun _ => ?_))
   | exact ih0 _ _ _
   | exact ih1 _ _ _ _ _
   | exact ih2 _ _ _ _ _ _ _ _ _
   | exact matrix_Identity.mono _ _
   | exact LeO.none _
   | refine LeO.ite ?_ ?_
   | refine LeO.bind ?_ (fun _ => ?_)
set_option maxHeartbeats 8000000 in
set_option maxRecDepth 100000 in
theorem matrix_Cauchy.calls (k : Nat) (a0 : Int) (a1 : Int) (r1 : List (List Int)) (r2 : Int) (w : World) (h : matrix_Cauchy.f k a0 a1 = some (r1, r2)) :
  Calls Tryd.prog 34 #[.int .i64 a0, .int .i64 a1] w fun e w' => ∃ v0_ : Value, e = .returned (.tuple #[v0_, .int .i64 r2]) ∧ Kd.S (Kd.slice 5 (Kd.int .u8)) 22 w' w.heap.size (fun _ => True) v0_ r1 ∧ Below w.heap.size w w' := by
 have HB := Aside0.mk (Below.refl w.heap.size w)
 have H : (if a0 < 1 then (matrix_Cauchy.j0 k a0 a1 true) else (if a1 < 1 then (matrix_Cauchy.j0 k a0 a1 true) else (if a0 > 255 then (matrix_Cauchy.j0 k a0 a1 true) else (matrix_Cauchy.j0 k a0 a1 (decide (a1 > (wrap64 (255 - a0)))))))) = some (r1, r2) := h
 clear h
 have HC3 := Aside0.mk H
 clear H
 go_enter Tryd.func34, Tryd.ntmps34
 go_upto_region 1 with (fail)
 go_cut [26] (fun v26 wc => ∃ (kq : Nat) (x26_2 : Bool), v26 = .bool x26_2 ∧ Aside0 (matrix_Cauchy.j0 kq a0 a1 x26_2 = some (r1, r2)) ∧ Aside0 (kq ≤ k) ∧ Aside0 (Below w.heap.size w wc))
 case first =>
  have H := HC3.out
  clear HC3
  by_cases c4 : a0 < 1
  ·rw [if_pos c4] at H
   have c4b0 : decide (a0 < 1) = true := decide_eq_true c4
   clear c4
   (first | rw [c4b0] | (simp only [i64_w, i32_w]; rw [c4b0]) | skip)
   have H' := Aside0.mk H
   clear H
   go_wp2
   go_meet
   case rel => exact ⟨_, (true), (by first | rfl | (simp; done) | (simp [*]; done)), H', ⟨by first | omega | exact Nat.le_refl _⟩, ⟨by repeat (first | (with_reducible first | exact HB.out | apply below_alloc | apply pw_below_drewN | apply below_drew1) | exact HB.out)⟩⟩
  ·rw [if_neg c4] at H
   have c4b0 : decide (a0 < 1) = false := decide_eq_false c4
   clear c4
   (first | rw [c4b0] | (simp only [i64_w, i32_w]; rw [c4b0]) | skip)
   by_cases c5 : a1 < 1
   ·rw [if_pos c5] at H
    have c5b0 : decide (a1 < 1) = true := decide_eq_true c5
    clear c5
    have H' := Aside0.mk H
    clear H
    go_wp2
    go_meet
    case rel => exact ⟨_, (true), (by first | rfl | (simp; done) | (simp [*]; done)), H', ⟨by first | omega | exact Nat.le_refl _⟩, ⟨by repeat (first | (with_reducible first | exact HB.out | apply below_alloc | apply pw_below_drewN | apply below_drew1) | exact HB.out)⟩⟩
   ·rw [if_neg c5] at H
    have c5b0 : decide (a1 < 1) = false := decide_eq_false c5
    clear c5
    by_cases c6 : a0 > 255
    ·rw [if_pos c6] at H
     have c6b0 : decide (255 < a0) = true := decide_eq_true c6
     clear c6
     have H' := Aside0.mk H
     clear H
     go_wp2
     go_meet
     case rel => exact ⟨_, (true), (by first | rfl | (simp; done) | (simp [*]; done)), H', ⟨by first | omega | exact Nat.le_refl _⟩, ⟨by repeat (first | (with_reducible first | exact HB.out | apply below_alloc | apply pw_below_drewN | apply below_drew1) | exact HB.out)⟩⟩
    ·rw [if_neg c6] at H
     have c6b0 : decide (255 < a0) = false := decide_eq_false c6
     clear c6
     have H' := Aside0.mk H
     clear H
     go_wp2
     go_meet
     case rel => exact ⟨_, (decide (a1 > (wrap64 (255 - a0)))), (by first | rfl | (simp; done) | (simp [*]; done)), H', ⟨by first | omega | exact Nat.le_refl _⟩, ⟨by repeat (first | (with_reducible first | exact HB.out | apply below_alloc | apply pw_below_drewN | apply below_drew1) | exact HB.out)⟩⟩
 case rest =>
  clear HC3
  try clear p2
  try clear c3
  try clear c4
  try clear c4b0
  try clear c5
  try clear c5b0
  try clear c6
  try clear c6b0
  try clear p6
  obtain ⟨kq, x26_2, rfl, HA, HJ2, HB⟩ := hcut
  cases kq with
  | zero => exact absurd HA.out (by simp [matrix_Cauchy.j0])
  | succ kj2 =>
   have H := HA.out
   clear HA
   simp only [matrix_Cauchy.j0] at H
   by_cases c7 : x26_2 = true
   ·subst c7
    have H1 : (some (([] : List (List Int)), 1)) = some (r1, r2) := by rw [if_pos rfl] at H; exact H
    clear H
    have H := H1
    clear H1
    simp only [Option.some.injEq, Prod.mk.injEq] at H
    obtain ⟨rfl, rfl⟩ := H
    go_wp2
    go_ret2
    exact ⟨_, by first | rfl | (simp [errW_none, errW_some] <;> rfl) | (simp [*, errW_none, errW_some] <;> rfl), by first | exact Kd.S_nil _ _ _ _ _ | exact Kd.N_nil _ _ _ _ _ | exact Kd.V_nil _ _ _ _ _ | exact Kd.Q_nil _ _ _ _ _ | exact Kd.R_nil _ _ _ _ _, by repeat (first | (with_reducible first | exact HB.out | apply below_alloc | apply pw_below_drewN | apply below_drew1) | exact HB.out)⟩
   ·replace c7 := Bool.eq_false_iff.mpr c7
    subst c7
    have H1 : ((matrix_Identity.f kj2 a0).bind fun bt101 => (matrix_Cauchy.l0 kj2 a0 a1 bt101.1 a1 0)) = some (r1, r2) := by rw [if_neg (show ¬ (false = true) by decide)] at H; exact H
    clear H
    have H := H1
    clear H1
    replace H := Option.bind_eq_some_iff.mp H
    obtain ⟨⟨t101, t102⟩, A80, H⟩ := H
    replace H : (matrix_Cauchy.l0 kj2 a0 a1 t101 a1 0) = some (r1, r2) := H
    have A8 := Aside0.mk A80
    clear A80
    have H' := Aside0.mk H
    clear H
    go_wp2_with (first | ((with_reducible refine gate_callee (f := 63) rfl ?_); refine goesL_ (some 29) rfl rfl Tryd.func63 (by kernel_rfl) rfl #[.int .i64 a0] rfl (by (try simp only [List.map_toArray, List.map_cons, List.map_nil]); first | done | rfl | (simp only [List.length_drop, List.length_take]; rfl)) ?_; (with_reducible refine (matrix_Identity.calls kj2 a0 t101 t102 _ A8.out).mono ?_); rintro e w9 ⟨v103, rfl, ho0, hb⟩; refine ⟨_, rfl, ?_⟩; have n0_ := Aside0.mk (Kd.S_lower ho0 (below_size (by repeat (first | (with_reducible first | exact HB.out | apply below_alloc | apply pw_below_drewN | apply below_drew1) | exact HB.out)))); have n1_ := Aside0.mk (below_step (by repeat (first | (with_reducible first | exact HB.out | apply below_alloc | apply pw_below_drewN | apply below_drew1) | exact HB.out)) hb); clear HB; have HO104 := n0_; have HB := n1_; clear n0_ n1_; (try clear hb); (try clear hb2); (try clear hk); (try clear hi); (try clear ho0)))
    go_loopg [6, 33] kj2 (fun kq v6 v33 w' => ∃ (x6_2 : List (List Int)) (x33_2 : Int), v33 = .int .i64 x33_2 ∧ Aside0 (matrix_Cauchy.l0 kq a0 a1 x6_2 a1 x33_2 = some (r1, r2)) ∧ Aside0 (kq ≤ kj2) ∧ Aside0 (Kd.S (Kd.slice 5 (Kd.int .u8)) 22 w' w.heap.size (fun _ => True) v6 x6_2) ∧ Aside0 (Below w.heap.size w w'))
    case atStart => exact ⟨(t101), (0), (by first | rfl | (simp; done) | (simp [*]; done)), H', ⟨Nat.le_refl _⟩, ⟨by (with_reducible repeat (first | apply Kd.S_alloc | apply Kd.S_drewN | apply Kd.S_drew)); exact HO104.out⟩, ⟨by repeat (first | (with_reducible first | exact HB.out | apply below_alloc | apply pw_below_drewN | apply below_drew1) | exact HB.out)⟩⟩
    case round =>
     clear H'
     try clear p2
     try clear c3
     try clear c4
     try clear c4b0
     try clear c5
     try clear c5b0
     try clear c6
     try clear c6b0
     try clear p6
     try clear c7
     try clear p2
     try clear p6
     obtain ⟨x6_2, x33_2, rfl, HA, HK2, HO_6, HB⟩ := hrel
     cases gk with
     | zero => exact absurd HA.out (by simp [matrix_Cauchy.l0])
     | succ k2 =>
      have H := HA.out
      clear HA
      simp only [matrix_Cauchy.l0] at H
      by_cases c10 : x33_2 < a1
      ·rw [if_pos c10] at H
       have c10b0 : decide (x33_2 < a1) = true := decide_eq_true c10
       clear c10
       by_cases c11 : 0 ≤ a0
       ·rw [if_pos c11] at H
        have c11b0 := eq_true c11
        have c11b1 : decide (0 ≤ a0) = true := decide_eq_true c11
        clear c11
        by_cases c12 : (a0 : Int).toNat ≤ 281474976710656
        ·rw [if_pos c12] at H
         have c12b0 := eq_true c12
         have c12b1 : decide ((a0 : Int).toNat ≤ 281474976710656) = true := decide_eq_true c12
         clear c12
         obtain ⟨y105, hy105⟩ : ∃ y_ : List Int, y_ = (List.replicate (a0 : Int).toNat 0) := ⟨_, rfl⟩
         replace H : (matrix_Cauchy.l1 k2 a0 a1 x6_2 x33_2 y105 a1 x33_2 a0 0) = some (r1, r2) := by first | (rw [hy105]; with_reducible exact H) | (have H2_ := (Option.bind_some _ _).symm.trans H; rw [hy105]; with_reducible exact H2_) | (have H2_ := (Option.bind_some _ _).symm.trans H; with_reducible exact H2_) | with_reducible exact H | (rw [hy105]; exact H) | exact H
         have Ny105 := Aside0.mk hy105
         clear hy105
         have H' := Aside0.mk H
         clear H
         go_wp2_with (first | ((with_reducible refine gate_dst (N := 37) rfl ?_); refine Kd.R_make (Kd.int .u8) _ 5 rfl (N := 37) rfl 22 _ _ rfl a0 rfl rfl Tryd.underlying22 (.int .u8 0) 1 info5 rfl (by decide) (by omega) 0 (ok := fun _ => True) (okp := fun _ => True) rfl (fun _ hk => hk) trivial (of_decide_eq_true (by first | (with_reducible assumption) | assumption)) (Nat.le_trans (Nat.mul_le_mul_right _ (of_decide_eq_true (by first | (with_reducible assumption) | assumption) : a0.toNat ≤ 281474976710656)) (by omega)) (Below.refl _ _) (Nat.le_refl _) ?_; intro v106 w13 ho14 hb hg_ hnew_; clear hg_ hnew_; (first | rw [← Ny105.out] at ho14 | (simp only [Int.reduceToNat] at ho14; rw [← Ny105.out] at ho14)); have n0_ := Aside0.mk (Kd.S_elder' (by (with_reducible repeat (first | apply Kd.S_alloc | apply Kd.S_drewN | apply Kd.S_drew)); exact HO_6.out) (Kd.R_base ho14) hb); have n1_ := Aside0.mk (Kd.R_lower ho14 (below_size (by repeat (first | (with_reducible first | exact HB.out | apply below_alloc | apply pw_below_drewN | apply below_drew1) | exact HB.out)))); have n2_ := Aside0.mk (below_step (by repeat (first | (with_reducible first | exact HB.out | apply below_alloc | apply pw_below_drewN | apply below_drew1) | exact HB.out)) hb); clear HO_6; clear HB; have HO_6 := n0_; have HO107 := n1_; have HB := n2_; clear n0_ n1_ n2_; clear hb ho14))
         go_loopg [39] k2 (fun kq v39 w' => ∃ (x9_3 : List Int) (x39_3 : Int), v39 = .int .i64 x39_3 ∧ Aside0 (matrix_Cauchy.l1 kq a0 a1 x6_2 x33_2 x9_3 a1 x33_2 a0 x39_3 = some (r1, r2)) ∧ Aside0 (kq ≤ k2) ∧ Aside0 (Kd.S (Kd.slice 5 (Kd.int .u8)) 22 w' w.heap.size (fun k_ => some k_ ≠ (v106 : Value).ownBlock) u6 x6_2) ∧ Aside0 (Kd.R (Kd.int .u8) 5 w' w.heap.size (fun _ => True) v106 x9_3) ∧ Aside0 (Below w.heap.size w w'))
         case atStart => exact ⟨(y105), (0), (by first | rfl | (simp; done) | (simp [*]; done)), H', ⟨Nat.le_refl _⟩, ⟨by (with_reducible repeat (first | apply Kd.S_alloc | apply Kd.S_drewN | apply Kd.S_drew)); exact Kd.S_mono HO_6.out (fun _ hk => hk.2)⟩, ⟨by (with_reducible repeat (first | apply Kd.R_alloc | apply Kd.R_drewN | apply Kd.R_drew)); exact HO107.out⟩, ⟨by repeat (first | (with_reducible first | exact HB.out | apply below_alloc | apply pw_below_drewN | apply below_drew1) | exact HB.out)⟩⟩
         case round =>
          clear H'
          try clear c1
          try clear p2
          try clear c3
          try clear c4
          try clear c4b0
          try clear c5
          try clear c5b0
          try clear c6
          try clear c6b0
          try clear p6
          try clear c7
          try clear c10
          try clear c10b0
          try clear c11
          try clear c11b0
          try clear c11b1
          try clear c12
          try clear c12b0
          try clear c12b1
          try clear p2
          try clear p6
          obtain ⟨x9_3, x39_3, rfl, HA, HK3, HO_6, HO_9, HB⟩ := hrel
          cases gk with
          | zero => exact absurd HA.out (by simp [matrix_Cauchy.l1])
          | succ k3 =>
           have H := HA.out
           clear HA
           simp only [matrix_Cauchy.l1] at H
           by_cases c15 : x39_3 < a0
           ·rw [if_pos c15] at H
            have c15b0 : decide (x39_3 < a0) = true := decide_eq_true c15
            clear c15
            replace H := Option.bind_eq_some_iff.mp H
            obtain ⟨⟨t108, t109⟩, A160, H⟩ := H
            replace H : (if 0 ≤ x39_3 then (if x39_3 < (x9_3.length : Int) then (matrix_Cauchy.l1 k3 a0 a1 x6_2 x33_2 (x9_3.set (x39_3 : Int).toNat t108) a1 x33_2 a0 (wrap64 (x39_3 + 1))) else (none)) else (none)) = some (r1, r2) := H
            have A16 := Aside0.mk A160
            clear A160
            by_cases c17 : 0 ≤ x39_3
            ·rw [if_pos c17] at H
             have c17b0 : decide (0 ≤ x39_3) = true := decide_eq_true c17
             clear c17
             by_cases c18 : x39_3 < (x9_3.length : Int)
             ·rw [if_pos c18] at H
              have c18b0 : decide (x39_3 < (x9_3.length : Int)) = true := decide_eq_true c18
              clear c18
              obtain ⟨y110, hy110⟩ : ∃ y_ : List Int, y_ = (x9_3.set (x39_3 : Int).toNat t108) := ⟨_, rfl⟩
              replace H : (matrix_Cauchy.l1 k3 a0 a1 x6_2 x33_2 y110 a1 x33_2 a0 (wrap64 (x39_3 + 1))) = some (r1, r2) := by first | (rw [hy110]; with_reducible exact H) | (have H2_ := (Option.bind_some _ _).symm.trans H; rw [hy110]; with_reducible exact H2_) | (have H2_ := (Option.bind_some _ _).symm.trans H; with_reducible exact H2_) | with_reducible exact H | (rw [hy110]; exact H) | exact H
              have Ny110 := Aside0.mk hy110
              clear hy110
              have H' := Aside0.mk H
              clear H
              go_wp2_with (first | ((with_reducible refine gate_callee (f := 64) rfl ?_); refine goesL_ (some 52) rfl rfl Tryd.func64 (by kernel_rfl) rfl #[.int .u8 (Go.bits .xor .u8 ((x33_2) % 256) ((wrap64 (a1 + x39_3)) % 256))] rfl (by (try simp only [List.map_toArray, List.map_cons, List.map_nil]); first | done | rfl | (simp only [List.length_drop, List.length_take]; rfl)) ?_; (with_reducible refine (gf_Inv.calls (Go.bits .xor .u8 ((x33_2) % 256) ((wrap64 (a1 + x39_3)) % 256)) t108 t109 _ A16.out).mono ?_); rintro e w20 ⟨rfl, hb⟩; refine ⟨_, rfl, ?_⟩; have n0_ := Aside0.mk (Kd.S_below (by (with_reducible repeat (first | apply Kd.S_alloc | apply Kd.S_drewN | apply Kd.S_drew)); exact HO_6.out) hb); have n1_ := Aside0.mk (Kd.R_below (by (with_reducible repeat (first | apply Kd.R_alloc | apply Kd.R_drewN | apply Kd.R_drew)); exact HO_9.out) hb); have n2_ := Aside0.mk (below_step (by repeat (first | (with_reducible first | exact HB.out | apply below_alloc | apply pw_below_drewN | apply below_drew1) | exact HB.out)) hb); clear HO_6; clear HO_9; clear HB; have HO_6 := n0_; have HO_9 := n1_; have HB := n2_; clear n0_ n1_ n2_; (try clear hb); (try clear hb2); (try clear hk); (try clear hi); have p19 : 0 ≤ (x39_3 : Int) := of_decide_eq_true (by first | (with_reducible assumption) | assumption); have q19 : (x39_3 : Int) < ((x9_3.length : Int) : Int) := of_decide_eq_true (by first | (with_reducible assumption) | assumption); obtain ⟨go19, co19, eo19, gb19, gl19, cl19, HG19⟩ := Kd.R_form HO_9.out (by omega); (first | cases eo19 | (injection eo19 with ea_ en_ ec_; (first | subst ea_ | (injection ea_ with ea_; subst ea_)); subst ec_; clear en_)); have GB19 := Aside0.mk gb19; have GG19 := Aside0.mk HG19; clear gb19 gl19 HG19; obtain ⟨hx19_0, hf19_0⟩ := Kd.R_celln 0 HO_9.out (x39_3 : Int) p19 q19; replace p19 := eq_true p19; replace q19 := eq_true q19; obtain ⟨hy21_, hz21_⟩ := Kd.R_celln 0 HO_9.out (x39_3 : Int) (of_decide_eq_true (by first | (with_reducible assumption) | assumption)) (of_decide_eq_true (by first | (with_reducible assumption) | assumption)); have HP21 := Kd.R_putg HO_9.out (x39_3 : Int) t108) | ((with_reducible refine gate_store (t := 5) (p := 55) rfl ?_); refine store_event (t := 5) (p := 55) (v := ?vo_w22) (w1 := (w20.setCell ⟨go19, (x39_3 : Int).toNat, none⟩ (.int .u8 t108))) ?hg ?ho ?hn ?hr ?_; (case ho => rfl); (case hg => rfl); (case hn => rfl); (case hr => first | (go_simp; done) | (go_simp; rfl)); intro w22 hw; have hg : w20.grownBy w22 (some go19) := (by rw [hw]; exact HP21.2); have hp_ : Kd.R (Kd.int .u8) 5 w22 w.heap.size (fun _ => True) (.slice (some ⟨go19, 0, none⟩) x9_3.length co19) y110 := (by rw [hw, Ny110.out]; exact HP21.1); clear HP21; have n0_ := Aside0.mk (Kd.S_after (v := (.slice (some ⟨go19, 0, none⟩) x9_3.length co19)) (v1 := (.slice (some ⟨go19, 0, none⟩) x9_3.length co19)) (ok := (fun _ => True)) (by (with_reducible repeat (first | apply Kd.S_alloc | apply Kd.S_drewN | apply Kd.S_drew)); exact Kd.S_mono HO_6.out (fun _ hk => ⟨trivial, hk⟩)) hg (.inl rfl)); have n1_ := Aside0.mk (hp_); have n2_ := Aside0.mk ((by rw [hw]; exact below_set (HB.out) GB19.out : Below w.heap.size w w22)); clear HO_6; clear HO_9; clear HB; have HO_6 := n0_; have HO_9 := n1_; have HB := n2_; clear n0_ n1_ n2_; clear hg hw hp_))
              go_roundg k3
              case measure => have := HJ2.out; have := HK2.out; have := HK3.out; omega
              case rel => exact ⟨(y110), (wrap64 (x39_3 + 1)), (by first | rfl | (simp; done) | (simp [*]; done)), H', ⟨by have := HJ2.out; have := HK2.out; have := HK3.out; omega⟩, ⟨by (with_reducible repeat (first | apply Kd.S_alloc | apply Kd.S_drewN | apply Kd.S_drew)); exact Kd.S_mono HO_6.out (fun _ hk => hk.2)⟩, ⟨by (with_reducible repeat (first | apply Kd.R_alloc | apply Kd.R_drewN | apply Kd.R_drew)); exact HO_9.out⟩, ⟨by repeat (first | (with_reducible first | exact HB.out | apply below_alloc | apply pw_below_drewN | apply below_drew1) | exact HB.out)⟩⟩
             ·rw [if_neg c18] at H
              exact absurd H (by simp)
            ·rw [if_neg c17] at H
             exact absurd H (by simp)
           ·rw [if_neg c15] at H
            have c15b0 : decide (x39_3 < a0) = false := decide_eq_false c15
            clear c15
            by_cases c23 : x6_2.length < 5864062014805
            ·rw [if_pos c23] at H
             have LMc23 := Aside0.mk c23
             clear c23
             obtain ⟨y111, hy111⟩ : ∃ y_ : List (List Int), y_ = (x6_2 ++ [x9_3]) := ⟨_, rfl⟩
             replace H : (matrix_Cauchy.l0 k3 a0 a1 y111 a1 (wrap64 (x33_2 + 1))) = some (r1, r2) := by first | (rw [hy111]; with_reducible exact H) | (have H2_ := (Option.bind_some _ _).symm.trans H; rw [hy111]; with_reducible exact H2_) | (have H2_ := (Option.bind_some _ _).symm.trans H; with_reducible exact H2_) | with_reducible exact H | (rw [hy111]; exact H) | exact H
             have Ny111 := Aside0.mk hy111
             clear hy111
             have H' := Aside0.mk H
             clear H
             obtain ⟨Ao25, co25, eo25⟩ := Kd.R_slice HO_9.out
             subst eo25
             go_wp2_with (first | ((with_reducible refine gate_builtin (b := .append) (xs := #[.tmp 57, .tmp 59]) rfl ?_); at_builtin; refine Kd.S_append (Kd.slice 5 (Kd.int .u8)) (w0 := w) w.heap.size rfl (.tmp 57) (.tmp 59) 26 22 (.slice none 0 0) 24 rfl Tryd.underlying26 info22 rfl (by decide) (by omega) u6 x6_2 x9_3 [.slice Ao25 x9_3.length co25] (fun _ => True) (fun k_ => some k_ = (.slice Ao25 x9_3.length co25 : Value).ownBlock) rfl rfl ?aP (fun k_ hk_ => ((Kd.R_mono (ok' := fun k_ => ((fun _ => True)) k_ ∧ some k_ ≠ (u6 : Value).ownBlock) (Kd.R_apart' (HO_9.out) (Kd.S_typed HO_6.out) (by decide)) (fun k_ hk => ⟨trivial, hk.2⟩))).1 k_ hk_.symm) ?aF ?aO ?aB ?aS ?aL ?_; (case aP => exact Kd.M_row (Kd.R_mono (Kd.R_tight rfl (Kd.R_mono (ok' := fun k_ => ((fun _ => True)) k_ ∧ some k_ ≠ (u6 : Value).ownBlock) (Kd.R_apart' (HO_9.out) (Kd.S_typed HO_6.out) (by decide)) (fun k_ hk => ⟨trivial, hk.2⟩))) (fun _ h_ => h_))); (case aB => exact (by repeat (first | (with_reducible first | exact HB.out | apply below_alloc | apply pw_below_drewN | apply below_drew1) | exact HB.out))); (case aF => exact (fun _ _ => trivial)); (case aO => exact (by (with_reducible repeat (first | apply Kd.S_alloc | apply Kd.S_drewN | apply Kd.S_drew)); exact Kd.S_mono HO_6.out (fun k_ hk => ⟨trivial, fun e_ => hk e_⟩))); (case aS => exact (below_size (by repeat (first | (with_reducible first | exact HB.out | apply below_alloc | apply pw_below_drewN | apply below_drew1) | exact HB.out)))); (case aL => have := LMc23.out; omega); intro v112 w24 ho hb hg hat; rw [← Ny111.out] at ho; have n0_ := Aside0.mk (hb); have n1_ := Aside0.mk (ho); clear HB; clear HO_6; clear HO_9; have HB := n0_; have HO113 := n1_; clear n0_ n1_; clear ho hb hg hat))
             go_roundg k3
             case measure => have := HJ2.out; have := HK2.out; have := HK3.out; omega
             case rel => exact ⟨(y111), (wrap64 (x33_2 + 1)), (by first | rfl | (simp; done) | (simp [*]; done)), H', ⟨by have := HJ2.out; have := HK2.out; have := HK3.out; omega⟩, ⟨by (with_reducible repeat (first | apply Kd.S_alloc | apply Kd.S_drewN | apply Kd.S_drew)); exact HO113.out⟩, ⟨by repeat (first | (with_reducible first | exact HB.out | apply below_alloc | apply pw_below_drewN | apply below_drew1) | exact HB.out)⟩⟩
            ·rw [if_neg c23] at H
             exact absurd H (by simp)
        ·rw [if_neg c12] at H
         exact absurd H (by simp)
       ·rw [if_neg c11] at H
        exact absurd H (by simp)
      ·rw [if_neg c10] at H
       have c10b0 : decide (x33_2 < a1) = false := decide_eq_false c10
       clear c10
       simp only [Option.some.injEq, Prod.mk.injEq] at H
       obtain ⟨rfl, rfl⟩ := H
       go_wp2
       go_ret2
       exact ⟨_, by first | rfl | (simp [errW_none, errW_some] <;> rfl) | (simp [*, errW_none, errW_some] <;> rfl), by (with_reducible repeat (first | apply Kd.S_alloc | apply Kd.S_drewN | apply Kd.S_drew)); exact HO_6.out, by repeat (first | (with_reducible first | exact HB.out | apply below_alloc | apply pw_below_drewN | apply below_drew1) | exact HB.out)⟩
end Go.Proofs.YtnfgiamdmfkcjaaDoor.P
namespace Go.Proofs.YtnfgiamdmfkcjaaDoor.Red
open Go.RowKit Go.Proofs.YtnfgiamdmfkcjaaDoorW.PrintWords Go.Proofs.YtnfgiamdmfkcjaaDoor.Leaf Go.Proofs.YtnfgiamdmfkcjaaDoor.Gf Go.Proofs.YtnfgiamdmfkcjaaDoor.H Go.Proofs.YtnfgiamdmfkcjaaDoor.Mx Go.Proofs.YtnfgiamdmfkcjaaDoor.P
set_option linter.unusedVariables false
set_option linter.unusedSimpArgs false
def cauM (k m : Nat) : Mat := matF (k + m) k (cau k m)
def cauR (a b : Int) : List (List Int) × Int := if 1 ≤ a ∧ 1 ≤ b ∧ b ≤ 255 - a then (oM (cauM a.toNat b.toNat), 0) else ([], 1)
theorem byte_nat (v : Nat) : ((v : Int) % 256) = ofB (BitVec.ofNat 8 v) := by
  unfold ofB
  rw [BitVec.toNat_ofNat]
  omega
/-- A row of the code's matrix on its way. -/
def caR (k m i j : Nat) : List B := (List.range k).map fun b => if b < j then cau k m (k + i) b else 0#8
theorem caR_set (k m i j : Nat) (hj : j < k) : (caR k m i j).set j (inv (BitVec.ofNat 8 i ^^^ BitVec.ofNat 8 (m + j))) = caR k m i (j + 1) := by
  refine ext0 (by simp [caR]) fun b hb => ?_
  rw [List.length_set] at hb
  have hb' : b < k := by simpa [caR] using hb
  have e : ∀ j', at0 (caR k m i j') b = if b < j' then cau k m (k + i) b else 0#8 := fun j' => at0_map _ _ _ hb'
  rw [at0_set _ _ _ _ (by simpa [caR] using hj), e, e]
  by_cases e1 : j = b
  · subst e1
    rw [if_pos rfl, if_pos (by omega)]
    unfold cau
    rw [if_neg (by omega), show k + i - k = i by omega]
  · rw [if_neg e1]
    by_cases e2 : b < j
    · rw [if_pos e2, if_pos (by omega)]
    · rw [if_neg e2, if_neg (by omega)]
theorem caR_all (k m i : Nat) : caR k m i k = (List.range k).map (cau k m (k + i)) := List.map_congr_left fun b hb => if_pos (List.mem_range.1 hb)
theorem cau_next (k m i : Nat) : matF (k + i) k (cau k m) ++ [(List.range k).map (cau k m (k + i))] = matF (k + (i + 1)) k (cau k m) := by
  unfold matF; rw [show k + (i + 1) = (k + i) + 1 by omega, List.range_succ, List.map_append]; rfl
theorem cauchy_l1 (k m : Nat) (hk : k + m ≤ 255) (r : List (List Int) × Int) (i : Nat) (hi : i < m) (hnext : Ev (fun f => matrix_Cauchy.l0 f (k : Int) (m : Int) (oM (matF (k + (i + 1)) k (cau k m))) (m : Int) ((i + 1 : Nat) : Int)) r) (d : Nat) : ∀ j : Nat, j + d = k →
    Ev (fun f => matrix_Cauchy.l1 f (k : Int) (m : Int) (oM (matF (k + i) k (cau k m))) (i : Int) (ofL (caR k m i j)) (m : Int) (i : Int) (k : Int) (j : Int)) r := by
  induction d with
  | zero =>
    intro j hj
    obtain rfl : j = k := by omega
    refine Ev.step (f := fun f => matrix_Cauchy.l0 f (j : Int) (m : Int) (oM (matF (j + (i + 1)) j (cau j m))) (m : Int) ((i + 1 : Nat) : Int)) (fun f => ?_) hnext
    simp only [matrix_Cauchy.l1, oM_length, (matF_reg (j + i) j (cau j m)).1]
    rw [if_neg (by omega), if_pos (by omega), oM_one, oM_append, caR_all, cau_next, w64 _ (by omega) (by omega)]
    rfl
  | succ d ih =>
    intro j hj
    refine Ev.step (f := fun f => matrix_Cauchy.l1 f (k : Int) (m : Int) (oM (matF (k + i) k (cau k m))) (i : Int) (ofL (caR k m i (j + 1))) (m : Int) (i : Int) (k : Int) ((j + 1 : Nat) : Int)) (fun f => ?_) (ih (j + 1) (by omega))
    have hl : (caR k m i j).length = k := by simp [caR]
    simp only [matrix_Cauchy.l1, ofL_length, hl, Int.toNat_natCast]
    rw [if_pos (by omega), w64 ((m : Int) + (j : Int)) (by omega) (by omega), show ((m : Int) + (j : Int)) = ((m + j : Nat) : Int) by omega, byte_nat, byte_nat, xor_ofB, gfInv_eq, Option.bind_some, if_pos (by omega), if_pos (by omega), w64 _ (by omega) (by omega)]
    simp only []
    rw [ofL_set, caR_set k m i j (by omega)]
    rfl
theorem cauchy_l0 (k m : Nat) (hk : k + m ≤ 255) (d : Nat) : ∀ i : Nat, i + d = m → Ev (fun f => matrix_Cauchy.l0 f (k : Int) (m : Int) (oM (matF (k + i) k (cau k m))) (m : Int) (i : Int)) (oM (cauM k m), 0) := by
  induction d with
  | zero =>
    intro i hi
    obtain rfl : i = m := by omega
    refine Ev.step (f := fun _ => some (oM (cauM k i), 0)) (fun f => ?_) (Ev.now _)
    simp only [matrix_Cauchy.l0]
    rw [if_neg (by omega)]
    rfl
  | succ d ih =>
    intro i hi
    refine Ev.step (f := fun f => matrix_Cauchy.l1 f (k : Int) (m : Int) (oM (matF (k + i) k (cau k m))) (i : Int) (ofL (caR k m i 0)) (m : Int) (i : Int) (k : Int) ((0 : Nat) : Int)) (fun f => ?_) (cauchy_l1 k m hk _ i (by omega) (ih (i + 1) (by omega)) k 0 (by omega))
    simp only [matrix_Cauchy.l0, Int.toNat_natCast]
    have e : List.replicate k (0 : Int) = ofL (caR k m i 0) := by
      rw [ofL_replicate]
      congr 1
      refine List.ext_getElem (by simp [caR]) fun b h1 h2 => ?_
      simp [caR]
    rw [if_pos (by omega), if_pos (by omega), if_pos (by omega), e]
    rfl
theorem cau_id (k m : Nat) : idM k = matF (k + 0) k (cau k m) := by
  rw [idM_eq]
  refine mat_ext (matF_reg k k I) (matF_reg k k _) fun i j hi hj => ?_
  rw [el_matF _ hi hj, show matF (k + 0) k (cau k m) = matF k k (cau k m) from rfl, el_matF (cau k m) hi hj]
  unfold cau
  rw [if_pos hi]
theorem evCauchy (a b : Int) (ha : -9223372036854775808 ≤ a) : Ev (fun f => matrix_Cauchy.f f a b) (cauR a b) := by
  unfold matrix_Cauchy.f cauR
  have j1 : Ev (fun f => matrix_Cauchy.j0 f a b true) ([], 1) := Ev.step (f := fun _ => some ([], 1)) (fun f => by simp only [matrix_Cauchy.j0, if_true]) (Ev.now _)
  by_cases h1 : a < 1
  · simp only [show (a < 1) = True from eq_true h1, if_true]
    rw [if_neg (by omega)]
    exact j1
  simp only [show (a < 1) = False from eq_false h1, if_false]
  by_cases h2 : b < 1
  · simp only [show (b < 1) = True from eq_true h2, if_true]
    rw [if_neg (by omega)]
    exact j1
  simp only [show (b < 1) = False from eq_false h2, if_false]
  by_cases h3 : a > 255
  · simp only [show (a > 255) = True from eq_true h3, if_true]
    rw [if_neg (by omega)]
    exact j1
  simp only [show (a > 255) = False from eq_false h3, if_false]
  rw [w64 _ (by omega) (by omega)]
  by_cases h4 : b > 255 - a
  · simp only [show decide (b > 255 - a) = true from decide_eq_true h4]
    rw [if_neg (by omega)]
    exact j1
  simp only [show decide (b > 255 - a) = false from decide_eq_false h4]
  rw [if_pos (by omega)]
  obtain ⟨k, rfl⟩ := Int.eq_ofNat_of_zero_le (show 0 ≤ a by omega)
  obtain ⟨m, rfl⟩ := Int.eq_ofNat_of_zero_le (show 0 ≤ b by omega)
  rw [Int.toNat_natCast, Int.toNat_natCast]
  refine Ev.step (f := fun f => (matrix_Identity.f f (k : Int)).bind fun bt101 => matrix_Cauchy.l0 f (k : Int) (m : Int) bt101.1 (m : Int) 0) (fun f => by simp only [matrix_Cauchy.j0, Bool.false_eq_true, if_false]) ?_
  refine Ev.bind (evIdentity (k : Int)) ?_
  unfold idR
  rw [if_pos (by omega), Int.toNat_natCast]
  simp only []
  rw [cau_id k m]
  exact cauchy_l0 k m (by omega) m 0 (by omega)
theorem xor_byte (i n : Nat) : BitVec.ofNat 8 (i ^^^ n) = BitVec.ofNat 8 i ^^^ BitVec.ofNat 8 n := by
  apply BitVec.eq_of_toNat_eq
  rw [BitVec.toNat_xor, BitVec.toNat_ofNat, BitVec.toNat_ofNat, BitVec.toNat_ofNat]
  exact Nat.xor_mod_two_pow
theorem refCauchy_l1 (k m : Nat) (hk : k + m ≤ 255) (r : List (List Int) × Int) (i : Nat) (hi : i < m) (hnext : Ev (fun f => mooringref02_Cauchy.l0 f (k : Int) (m : Int) (oM (matF (k + (i + 1)) k (cau k m))) ((i + 1 : Nat) : Int)) r) (d : Nat) : ∀ j : Nat, j + d = k →
    Ev (fun f => mooringref02_Cauchy.l1 f (k : Int) (m : Int) (oM (matF (k + i) k (cau k m))) (i : Int) (ofL ((List.range j).map (cau k m (k + i)))) (j : Int)) r := by
  induction d with
  | zero =>
    intro j hj
    obtain rfl : j = k := by omega
    refine Ev.step (f := fun f => mooringref02_Cauchy.l0 f (j : Int) (m : Int) (oM (matF (j + (i + 1)) j (cau j m))) ((i + 1 : Nat) : Int)) (fun f => ?_) hnext
    simp only [mooringref02_Cauchy.l1, oM_length, (matF_reg (j + i) j (cau j m)).1]
    rw [if_neg (by omega), if_pos (by omega), oM_one, oM_append, cau_next, w64 _ (by omega) (by omega)]
    rfl
  | succ d ih =>
    intro j hj
    refine Ev.step (f := fun f => (mooringref01_Inv.f f (ofB (BitVec.ofNat 8 i ^^^ BitVec.ofNat 8 (m + j)))).bind fun bt107 => mooringref02_Cauchy.l1 f (k : Int) (m : Int) (oM (matF (k + i) k (cau k m))) (i : Int) (ofL ((List.range j).map (cau k m (k + i))) ++ [bt107.1]) ((j + 1 : Nat) : Int)) (fun f => ?_) ?_
    · have hl : ((List.range j).map (cau k m (k + i))).length = j := by simp
      simp only [mooringref02_Cauchy.l1, ofL_length, hl]
      rw [if_pos (by omega), w64 ((m : Int) + (j : Int)) (by omega) (by omega), show ((m : Int) + (j : Int)) = ((m + j : Nat) : Int) by omega, xor_i64_nat _ _ (by omega) (by omega), byte_nat, xor_byte]
      simp only [show (j < 140737488355328) = True from eq_true (by omega), if_true, w64 ((j : Int) + 1) (by omega) (by omega)]
      rfl
    · refine Ev.bind (refInv _) ?_
      have e : ofL ((List.range j).map (cau k m (k + i))) ++ [ofB (inv (BitVec.ofNat 8 i ^^^ BitVec.ofNat 8 (m + j)))] = ofL ((List.range (j + 1)).map (cau k m (k + i))) := by
        rw [List.range_succ, List.map_append]
        unfold ofL
        rw [List.map_append]
        simp only [List.map_cons, List.map_nil]
        unfold cau
        rw [if_neg (by omega), show k + i - k = i by omega]
      simp only []
      rw [e]
      exact ih (j + 1) (by omega)
theorem refCauchy_l0 (k m : Nat) (hk : k + m ≤ 255) (d : Nat) : ∀ i : Nat, i + d = m → Ev (fun f => mooringref02_Cauchy.l0 f (k : Int) (m : Int) (oM (matF (k + i) k (cau k m))) (i : Int)) (oM (cauM k m), 0) := by
  induction d with
  | zero =>
    intro i hi
    obtain rfl : i = m := by omega
    refine Ev.step (f := fun _ => some (oM (cauM k i), 0)) (fun f => ?_) (Ev.now _)
    simp only [mooringref02_Cauchy.l0]
    rw [if_neg (by omega)]
    rfl
  | succ d ih =>
    intro i hi
    refine Ev.step (f := fun f => mooringref02_Cauchy.l1 f (k : Int) (m : Int) (oM (matF (k + i) k (cau k m))) (i : Int) (ofL ((List.range 0).map (cau k m (k + i)))) ((0 : Nat) : Int)) (fun f => ?_) (refCauchy_l1 k m hk _ i (by omega) (ih (i + 1) (by omega)) k 0 (by omega))
    simp only [mooringref02_Cauchy.l0]
    rw [if_pos (by omega)]
    rfl
theorem evRefCauchy (a b : Int) (ha : -9223372036854775808 ≤ a) : Ev (fun f => mooringref02_Cauchy.f f a b) (cauR a b) := by
  unfold mooringref02_Cauchy.f cauR
  have j1 : Ev (fun f => mooringref02_Cauchy.j0 f a b true) ([], 1) := Ev.step (f := fun _ => some ([], 1)) (fun f => by simp only [mooringref02_Cauchy.j0, if_true]) (Ev.now _)
  by_cases h1 : a < 1
  · simp only [show (a < 1) = True from eq_true h1, if_true]
    rw [if_neg (by omega)]
    exact j1
  simp only [show (a < 1) = False from eq_false h1, if_false]
  by_cases h2 : b < 1
  · simp only [show (b < 1) = True from eq_true h2, if_true]
    rw [if_neg (by omega)]
    exact j1
  simp only [show (b < 1) = False from eq_false h2, if_false]
  by_cases h3 : a > 254
  · simp only [show (a > 254) = True from eq_true h3, if_true]
    rw [if_neg (by omega)]
    exact j1
  simp only [show (a > 254) = False from eq_false h3, if_false]
  rw [w64 _ (by omega) (by omega)]
  by_cases h4 : b > 255 - a
  · simp only [show decide (b > 255 - a) = true from decide_eq_true h4]
    rw [if_neg (by omega)]
    exact j1
  simp only [show decide (b > 255 - a) = false from decide_eq_false h4]
  rw [if_pos (by omega)]
  obtain ⟨k, rfl⟩ := Int.eq_ofNat_of_zero_le (show 0 ≤ a by omega)
  obtain ⟨m, rfl⟩ := Int.eq_ofNat_of_zero_le (show 0 ≤ b by omega)
  rw [Int.toNat_natCast, Int.toNat_natCast]
  refine Ev.step (f := fun f => (mooringref02_Identity.f f (k : Int)).bind fun t101 => mooringref02_Cauchy.l0 f (k : Int) (m : Int) t101 0) (fun f => by simp only [mooringref02_Cauchy.j0, Bool.false_eq_true, if_false]) ?_
  refine Ev.bind (evRefIdentity k (by omega)) ?_
  rw [cau_id k m]
  exact refCauchy_l0 k m (by omega) m 0 (by omega)
theorem cauM_reg (k m : Nat) : Reg (cauM k m) (k + m) k := matF_reg _ _ _
end Go.Proofs.YtnfgiamdmfkcjaaDoor.Red
namespace Go.Proofs.YtnfgiamdmfkcjaaDoor.P
open Go.Proofs.YtnfgiamdmfkcjaaDoor.Leaf
open Go.RowKit Go.Proofs.YtnfgiamdmfkcjaaDoorW.PrintWords Go.Proofs.YtnfgiamdmfkcjaaDoorW.PrintLast Go.Proofs.YtnfgiamdmfkcjaaDoorW.PrintMore
attribute [local go_sem] max2_int min2_int max_two min_two max_three min_three max_four min_four   -- for this text's walks alone
set_option linter.unusedVariables false
set_option linter.unusedSimpArgs false
mutual
def code_combine.l0 : Nat → List (List Int) → List (List Int) → List (List Int) → Int → Int → Option ((List (List Int)))
 | 0, _, _, _, _, _ => none
 | k + 1, x1, x5, x13, x14, x15 => if x15 < x14 then (if 0 ≤ x15 then (if x15 < (x13.length : Int) then (if 0 < (x1.length : Int) then (if 0 ≤ ((rd_L1 x1 0).length : Int) then (if (((rd_L1 x1 0).length : Int) : Int).toNat ≤ 281474976710656 then (if x15 < (x5.length : Int) then (code_combine.l1 k x1 (x5.set (x15 : Int).toNat (List.replicate (((rd_L1 x1 0).length : Int) : Int).toNat 0)) x15 x13 x14 x15 (rd_L1 x13 x15) ((rd_L1 x13 x15).length : Int) 0) else (none)) else (none)) else (none)) else (none)) else (none)) else (none)) else (some x5)
def code_combine.l1 : Nat → List (List Int) → List (List Int) → Int → List (List Int) → Int → Int → List Int → Int → Int → Option ((List (List Int)))
 | 0, _, _, _, _, _, _, _, _, _ => none
 | k + 1, x1, x5, x6, x13, x14, x15, x28, x29, x30 => if x30 < x29 then (if 0 ≤ x30 then (if x30 < (x28.length : Int) then (if 0 ≤ x6 then (if x6 < (x5.length : Int) then (if x30 < (x1.length : Int) then ((gf_AddMul.f k (rd_L1 x5 x6) (rd_L1 x1 x30) (rd x28 x30)).bind fun bt113 => (code_combine.l1 k x1 (x5.set (x6 : Int).toNat bt113.1) x6 x13 x14 x15 x28 x29 (wrap64 (x30 + 1)))) else (none)) else (none)) else (none)) else (none)) else (none)) else (code_combine.l0 k x1 x5 x13 x14 (wrap64 (x15 + 1)))
end
def code_combine.f (k : Nat) (l0 : List (List Int)) (l1 : List (List Int)) : Option ((List (List Int))) := if 0 ≤ (l0.length : Int) then (if ((l0.length : Int) : Int).toNat ≤ 11728124029610 then (code_combine.l0 k l1 (List.replicate ((l0.length : Int) : Int).toNat []) l0 (l0.length : Int) 0) else (none)) else (none)
theorem code_combine.mono_l : ∀ k, (∀ y0 y1 y2 y3 y4, LeO (code_combine.l0 k y0 y1 y2 y3 y4) (code_combine.l0 (k + 1) y0 y1 y2 y3 y4)) ∧ (∀ y0 y1 y2 y3 y4 y5 y6 y7 y8, LeO (code_combine.l1 k y0 y1 y2 y3 y4 y5 y6 y7 y8) (code_combine.l1 (k + 1) y0 y1 y2 y3 y4 y5 y6 y7 y8))
 | 0 => ⟨fun _ _ _ _ _ r h => by simp [code_combine.l0] at h, fun _ _ _ _ _ _ _ _ _ r h => by simp [code_combine.l1] at h⟩
 | k + 1 => by
  obtain ⟨ih0, ih1⟩ := code_combine.mono_l k
  refine ⟨?_, ?_⟩
  ·intro y0 y1 y2 y3 y4
   unfold code_combine.l0
   repeat' first
   | (with_reducible exact ih0 _ _ _ _ _)
   | (with_reducible exact ih1 _ _ _ _ _ _ _ _ _)
   | (with_reducible exact gf_AddMul.mono _ _ _ _)
   | (with_reducible exact LeO.refl _)
   | (with_reducible exact LeO.none _)
   | (with_reducible refine LeO.ite ?_ ?_)
   | (with_reducible refine LeO.bind ?_ (fun _ => ?_))
   | exact ih0 _ _ _ _ _
   | exact ih1 _ _ _ _ _ _ _ _ _
   | exact gf_AddMul.mono _ _ _ _
   | exact LeO.none _
   | refine LeO.ite ?_ ?_
   | refine LeO.bind ?_ (fun _ => ?_)
  ·intro y0 y1 y2 y3 y4 y5 y6 y7 y8
   unfold code_combine.l1
   repeat' first
   | (with_reducible exact ih0 _ _ _ _ _)
   | (with_reducible exact ih1 _ _ _ _ _ _ _ _ _)
   | (with_reducible exact gf_AddMul.mono _ _ _ _)
   | (with_reducible exact LeO.refl _)
   | (with_reducible exact LeO.none _)
   | (with_reducible refine LeO.ite ?_ ?_)
   | (with_reducible refine LeO.bind ?_ (fun _ => ?_))
   | exact ih0 _ _ _ _ _
   | exact ih1 _ _ _ _ _ _ _ _ _
   | exact gf_AddMul.mono _ _ _ _
   | exact LeO.none _
   | refine LeO.ite ?_ ?_
   | refine LeO.bind ?_ (fun _ => ?_)
theorem code_combine.mono : ∀ a0 a1 k, LeO (code_combine.f k a0 a1) (code_combine.f (k + 1) a0 a1) := by
 intro a0 a1 k
 obtain ⟨ih0, ih1⟩ := code_combine.mono_l k
 unfold code_combine.f
 repeat' first
   | (with_reducible exact ih0 _ _ _ _ _)
   | (with_reducible exact ih1 _ _ _ _ _ _ _ _ _)
   | (with_reducible exact gf_AddMul.mono _ _ _ _)
   | (with_reducible exact LeO.refl _)
   | (with_reducible exact LeO.none _)
   | (with_reducible refine LeO.ite ?_ ?_)
   | (with_reducible refine LeO.bind ?_ (fun _ => ?_))
   | exact ih0 _ _ _ _ _
   | exact ih1 _ _ _ _ _ _ _ _ _
   | exact gf_AddMul.mono _ _ _ _
   | exact LeO.none _
   | refine LeO.ite ?_ ?_
   | refine LeO.bind ?_ (fun _ => ?_)
def code_combine.T9 : Bool × List (List Nat × List Nat) := (true, [([], []), ([], []), ([], []), ([], []), ([2, 3], [2, 3]), ([4], [4]), ([], []), ([], []), ([6, 7], [6, 7]), ([8], [8]), ([], []), ([5, 9, 10], [5, 9, 10]), ([11], [11]), ([12], [12]), ([12], [12]), ([0, 1, 0, 1, 2, 3, 4, 5, 6, 7, 8, 9, 10, 11, 12, 13], [0, 1]), ([15, 13, 11, 0, 1, 2, 3, 4, 5, 6, 7, 8, 9, 10, 11, 12, 13], [13, 15])])
def code_combine.B9 : List Nat := [0, 0, 0, 0, 12, 28, 0, 0, 192, 448, 0, 2044, 4092, 8188, 8188, 16383, 49151]
theorem code_combine.tab9 : rtab .any (opsOf Tryd.f38 9) = code_combine.T9 := by kernel_rfl
theorem code_combine.bits9 : waitsOk code_combine.T9.2 code_combine.B9 = true := by kernel_rfl
set_option maxHeartbeats 8000000 in
set_option maxRecDepth 100000 in
theorem code_combine.calls (k : Nat) (A0 : Option Addr) (c0 : Nat) (l0 : List (List Int)) (A1 : Option Addr) (c1 : Nat) (l1 : List (List Int)) (r : List (List Int)) (w : World) (hr0 : Kd.C (Kd.slice 5 (Kd.int .u8)) w A0 l0.length l0) (hc0 : l0.length ≤ c0) (hr1 : Kd.C (Kd.slice 5 (Kd.int .u8)) w A1 l1.length l1) (hc1 : l1.length ≤ c1) (h : code_combine.f k l0 l1 = some r) :
  Calls Tryd.prog 38 #[.slice A0 l0.length c0, .slice A1 l1.length c1] w fun e w' => ∃ v0_ : Value, e = .returned (v0_) ∧ Kd.N (Kd.slice 5 (Kd.int .u8)) 22 w' w.heap.size (fun k_ => (w.heap.size ≤ k_)) v0_ r ∧ Below w.heap.size w w' := by
 have HR0 := Aside0.mk hr0
 have HC0 := Aside0.mk hc0
 clear hr0 hc0
 have HR1 := Aside0.mk hr1
 have HC1 := Aside0.mk hc1
 clear hr1 hc1
 have HB := Aside0.mk (Below.refl w.heap.size w)
 have H : (if 0 ≤ (l0.length : Int) then (if ((l0.length : Int) : Int).toNat ≤ 11728124029610 then (code_combine.l0 k l1 (List.replicate ((l0.length : Int) : Int).toNat []) l0 (l0.length : Int) 0) else (none)) else (none)) = some r := h
 clear h
 by_cases c3 : 0 ≤ (l0.length : Int)
 ·rw [if_pos c3] at H
  have c3b0 := eq_true c3
  have c3b1 : decide (0 ≤ (l0.length : Int)) = true := decide_eq_true c3
  clear c3
  by_cases c4 : ((l0.length : Int) : Int).toNat ≤ 11728124029610
  ·rw [if_pos c4] at H
   have c4b0 := eq_true c4
   have c4b1 : decide (((l0.length : Int) : Int).toNat ≤ 11728124029610) = true := decide_eq_true c4
   clear c4
   obtain ⟨y101, hy101⟩ : ∃ y_ : List (List Int), y_ = (List.replicate ((l0.length : Int) : Int).toNat []) := ⟨_, rfl⟩
   replace H : (code_combine.l0 k l1 y101 l0 (l0.length : Int) 0) = some r := by first | (rw [hy101]; with_reducible exact H) | (have H2_ := (Option.bind_some _ _).symm.trans H; rw [hy101]; with_reducible exact H2_) | (have H2_ := (Option.bind_some _ _).symm.trans H; with_reducible exact H2_) | with_reducible exact H | (rw [hy101]; exact H) | exact H
   have Ny101 := Aside0.mk hy101
   clear hy101
   have H' := Aside0.mk H
   clear H
   go_enter Tryd.func38, Tryd.ntmps38
   go_wp2_with (first | ((with_reducible refine gate_dst (N := 12) rfl ?_); refine Kd.N_make (Kd.slice 5 (Kd.int .u8)) _ 22 rfl (N' := 12) rfl 26 _ _ rfl (l0.length : Int) rfl rfl Tryd.underlying26 (.slice none 0 0) 24 info22 rfl (by decide) (by omega) [] (ok := fun k_ => w.heap.size ≤ k_) (okp := fun _ => False) (Kd.FK_slice_mk (Nat.le_refl _) (Kd.F_nil _ _ _)) (fun _ hk => hk.elim) (Nat.le_refl _) (of_decide_eq_true (by first | (with_reducible assumption) | assumption)) (Nat.le_trans (Nat.mul_le_mul_right _ (of_decide_eq_true (by first | (with_reducible assumption) | assumption) : (l0.length : Int).toNat ≤ 11728124029610)) (by omega)) (Below.refl _ _) (Nat.le_refl _) ?_; intro v102 w5 ho6 hb hg_ hnew_; clear hg_ hnew_; (first | rw [← Ny101.out] at ho6 | (simp only [Int.reduceToNat] at ho6; rw [← Ny101.out] at ho6)); have n0_ := Aside0.mk (Kd.N_lower (Kd.N_mono (ok' := fun k_ => (w.heap.size ≤ k_)) ho6 (fun k_ hk_ => (Nat.le_trans (below_size (by repeat (first | (with_reducible first | exact HB.out | apply below_alloc | apply pw_below_drewN | apply below_drew1) | exact HB.out))) hk_))) (below_size (by repeat (first | (with_reducible first | exact HB.out | apply below_alloc | apply pw_below_drewN | apply below_drew1) | exact HB.out)))); have n1_ := Aside0.mk (below_step (by repeat (first | (with_reducible first | exact HB.out | apply below_alloc | apply pw_below_drewN | apply below_drew1) | exact HB.out)) hb); clear HB; have HO103 := n0_; have HB := n1_; clear n0_ n1_; clear hb ho6))
   go_loopg [15] k (fun kq v15 w' => ∃ (x5_1 : List (List Int)) (x15_1 : Int), v15 = .int .i64 x15_1 ∧ Aside0 (code_combine.l0 kq l1 x5_1 l0 (l0.length : Int) x15_1 = some r) ∧ Aside0 (kq ≤ k) ∧ Aside0 (Kd.N (Kd.slice 5 (Kd.int .u8)) 22 w' w.heap.size (fun k_ => (w.heap.size ≤ k_)) v102 x5_1) ∧ Aside0 (Below w.heap.size w w'))
   case atStart => exact ⟨(y101), (0), (by first | rfl | (simp; done) | (simp [*]; done)), H', ⟨Nat.le_refl _⟩, ⟨by (with_reducible repeat (first | apply Kd.N_alloc | apply Kd.N_drewN | apply Kd.N_drew)); exact HO103.out⟩, ⟨by repeat (first | (with_reducible first | exact HB.out | apply below_alloc | apply pw_below_drewN | apply below_drew1) | exact HB.out)⟩⟩
   case round =>
    clear H'
    try clear c1
    try clear p2
    try clear c3
    try clear c3b0
    try clear c3b1
    try clear c4
    try clear c4b0
    try clear c4b1
    obtain ⟨x5_1, x15_1, rfl, HA, HK1, HO_5, HB⟩ := hrel
    cases gk with
    | zero => exact absurd HA.out (by simp [code_combine.l0])
    | succ k1 =>
     have H := HA.out
     clear HA
     simp only [code_combine.l0] at H
     by_cases c7 : x15_1 < (l0.length : Int)
     ·rw [if_pos c7] at H
      have c7b0 : decide (x15_1 < (l0.length : Int)) = true := decide_eq_true c7
      clear c7
      by_cases c8 : 0 ≤ x15_1
      ·rw [if_pos c8] at H
       have c8b0 : decide (0 ≤ x15_1) = true := decide_eq_true c8
       clear c8
       by_cases c9 : x15_1 < (l0.length : Int)
       ·rw [if_pos c9] at H
        have c9b0 : decide (x15_1 < (l0.length : Int)) = true := decide_eq_true c9
        clear c9
        by_cases c10 : 0 < (l1.length : Int)
        ·rw [if_pos c10] at H
         have c10b0 : decide (0 < (l1.length : Int)) = true := decide_eq_true c10
         have c10b1 : decide (0 < l1.length) = true := decide_eq_true (by omega)
         clear c10
         by_cases c11 : 0 ≤ ((rd_L1 l1 0).length : Int)
         ·rw [if_pos c11] at H
          have c11b0 := eq_true c11
          have c11b1 : decide (0 ≤ ((rd_L1 l1 0).length : Int)) = true := decide_eq_true c11
          clear c11
          by_cases c12 : (((rd_L1 l1 0).length : Int) : Int).toNat ≤ 281474976710656
          ·rw [if_pos c12] at H
           have c12b0 := eq_true c12
           have c12b1 : decide ((((rd_L1 l1 0).length : Int) : Int).toNat ≤ 281474976710656) = true := decide_eq_true c12
           clear c12
           obtain ⟨y106, hy106⟩ : ∃ y_ : List Int, y_ = (List.replicate (((rd_L1 l1 0).length : Int) : Int).toNat 0) := ⟨_, rfl⟩
           replace H : (if x15_1 < (x5_1.length : Int) then (code_combine.l1 k1 l1 (x5_1.set (x15_1 : Int).toNat y106) x15_1 l0 (l0.length : Int) x15_1 (rd_L1 l0 x15_1) ((rd_L1 l0 x15_1).length : Int) 0) else (none)) = some r := by first | (rw [hy106]; with_reducible exact H) | (have H2_ := (Option.bind_some _ _).symm.trans H; rw [hy106]; with_reducible exact H2_) | (have H2_ := (Option.bind_some _ _).symm.trans H; with_reducible exact H2_) | with_reducible exact H | (rw [hy106]; exact H) | exact H
           have Ny106 := Aside0.mk hy106
           clear hy106
           by_cases c13 : x15_1 < (x5_1.length : Int)
           ·rw [if_pos c13] at H
            have c13b0 : decide (x15_1 < (x5_1.length : Int)) = true := decide_eq_true c13
            clear c13
            obtain ⟨y109, hy109⟩ : ∃ y_ : List (List Int), y_ = (x5_1.set (x15_1 : Int).toNat y106) := ⟨_, rfl⟩
            replace H : (code_combine.l1 k1 l1 y109 x15_1 l0 (l0.length : Int) x15_1 (rd_L1 l0 x15_1) ((rd_L1 l0 x15_1).length : Int) 0) = some r := by first | (rw [hy109]; with_reducible exact H) | (have H2_ := (Option.bind_some _ _).symm.trans H; rw [hy109]; with_reducible exact H2_) | (have H2_ := (Option.bind_some _ _).symm.trans H; with_reducible exact H2_) | with_reducible exact H | (rw [hy109]; exact H) | exact H
            have Ny109 := Aside0.mk hy109
            clear hy109
            have H' := Aside0.mk H
            clear H
            have p104 : 0 ≤ (x15_1 : Int) := of_decide_eq_true (by first | (with_reducible assumption) | assumption)
            have q104 : x15_1 < (l0.length : Int) := of_decide_eq_true (by first | (with_reducible assumption) | assumption)
            obtain ⟨ad104, A104_0, c104_0, e104, hx104_0, hl104_0, hi104_0⟩ := at_L1 HR0.out x15_1 p104 q104
            cases e104
            replace hx104_0 := (HB.out.cell (World.block_lt_of_cell? w _ hx104_0)).trans hx104_0
            have HR104_0 := Aside0.mk hi104_0
            have HC104_0 := Aside0.mk hl104_0
            clear hi104_0 hl104_0
            replace p104 := eq_true p104
            replace q104 := eq_true q104
            have p105 : 0 ≤ (0 : Int) := (by omega)
            have q105 : 0 < (l1.length : Int) := of_decide_eq_true (by first | (with_reducible assumption) | assumption)
            obtain ⟨ad105, A105_0, c105_0, e105, hx105_0, hl105_0, hi105_0⟩ := at_L1 HR1.out 0 p105 q105
            cases e105
            have qi105 : (0 < l1.length) = True := eq_true (by omega)
            (try rw [show ((0 : Int)).toNat = 0 from rfl] at hx105_0)
            (try rw [Addr.add_zero'] at hx105_0)
            replace hx105_0 := (HB.out.cell (World.block_lt_of_cell? w _ hx105_0)).trans hx105_0
            have HR105_0 := Aside0.mk hi105_0
            have HC105_0 := Aside0.mk hl105_0
            clear hi105_0 hl105_0
            replace p105 := eq_true p105
            replace q105 := eq_true q105
            go_wp2_with (first | ((with_reducible refine gate_dst (N := 26) rfl ?_); refine Kd.R_make (Kd.int .u8) _ 5 rfl (N := 26) rfl 22 _ _ rfl ((rd_L1 l1 0).length : Int) rfl rfl Tryd.underlying22 (.int .u8 0) 1 info5 rfl (by decide) (by omega) 0 (ok := fun _ => True) (okp := fun _ => True) rfl (fun _ hk => hk) trivial (of_decide_eq_true (by first | (with_reducible assumption) | assumption)) (Nat.le_trans (Nat.mul_le_mul_right _ (of_decide_eq_true (by first | (with_reducible assumption) | assumption) : ((rd_L1 l1 0).length : Int).toNat ≤ 281474976710656)) (by omega)) (Below.refl _ _) (Nat.le_refl _) ?_; intro v107 w15 ho16 hb hg_ hnew_; clear hg_ hnew_; (first | rw [← Ny106.out] at ho16 | (simp only [Int.reduceToNat] at ho16; rw [← Ny106.out] at ho16)); have n0_ := Aside0.mk (Kd.N_elder' (by (with_reducible repeat (first | apply Kd.N_alloc | apply Kd.N_drewN | apply Kd.N_drew)); exact HO_5.out) (Kd.R_base ho16) hb); have n1_ := Aside0.mk (Kd.R_lower (Kd.R_newM (M := fun k_ => (w.heap.size ≤ k_)) ho16 (below_size (by repeat (first | (with_reducible first | exact HB.out | apply below_alloc | apply pw_below_drewN | apply below_drew1) | exact HB.out))) (fun k_ h_ => h_)) (below_size (by repeat (first | (with_reducible first | exact HB.out | apply below_alloc | apply pw_below_drewN | apply below_drew1) | exact HB.out)))); have n2_ := Aside0.mk (below_step (by repeat (first | (with_reducible first | exact HB.out | apply below_alloc | apply pw_below_drewN | apply below_drew1) | exact HB.out)) hb); clear HO_5; clear HB; have HO_5 := n0_; have HO108 := n1_; have HB := n2_; clear n0_ n1_ n2_; clear hb ho16; have p14 : 0 ≤ (x15_1 : Int) := of_decide_eq_true (by first | (with_reducible assumption) | assumption); have q14 : (x15_1 : Int) < ((x5_1.length : Int) : Int) := of_decide_eq_true (by first | (with_reducible assumption) | assumption); obtain ⟨go14, co14, eo14, gb14, gl14, cl14, HG14⟩ := Kd.N_form HO_5.out (by omega); (first | cases eo14 | (injection eo14 with ea_ en_ ec_; (first | subst ea_ | (injection ea_ with ea_; subst ea_)); subst ec_; clear en_)); have GB14 := Aside0.mk gb14; have GG14 := Aside0.mk HG14; clear gb14 gl14 HG14; obtain ⟨ce14, hcl14, hM14, hcc14, hfr14⟩ := Kd.N_elem HO_5.out [] (x15_1 : Int) p14 q14; obtain ⟨ua14_0, uc14_0, rfl, ul14_0, ge14_0⟩ := Kd.FK_slice_open hM14; have hx14_0 := hcc14 0 _ rfl; have hf14_0 := hfr14 0; (try simp only [show ((Kd.slice 5 (Kd.int .u8))).sz = 1 from rfl, Nat.mul_one, Nat.add_zero] at hx14_0); (try simp only [show ((Kd.slice 5 (Kd.int .u8))).sz = 1 from rfl, Nat.mul_one, Nat.add_zero] at hf14_0); (try clear hcl14); (try clear hcc14); (try clear hfr14); (try clear hM14); replace p14 := eq_true p14; replace q14 := eq_true q14; have HX17 := Aside0.mk (show Kd.N (Kd.slice 5 (Kd.int .u8)) 22 w15 w.heap.size (fun k_ => (w.heap.size ≤ k_)) (.slice (some ⟨go14, 0, none⟩) x5_1.length co14) x5_1 from (by (with_reducible repeat (first | apply Kd.N_alloc | apply Kd.N_drewN | apply Kd.N_drew)); exact Kd.N_mono HO_5.out (fun _ hk => hk.1))); obtain ⟨ce17, hcl17, hM17, hcc17, hfr17⟩ := Kd.N_elem HX17.out [] (x15_1 : Int) (of_decide_eq_true (by first | (with_reducible assumption) | assumption)) (by have h_ : (x15_1 : Int) < ((x5_1.length : Int) : Int) := of_decide_eq_true (by first | (with_reducible assumption) | assumption); first | exact h_ | (have e_ := (Kd.N_reads' HO_5.out).1; omega) | simpa using h_); obtain ⟨ua17_0, uc17_0, rfl, ul17_0, ge17_0⟩ := Kd.FK_slice_open hM17; obtain ⟨Av17_, cv17_, ev17_⟩ := Kd.R_slice HO108.out; subst ev17_; have HP17 := Kd.N_seg HX17.out (x15_1 : Int) (of_decide_eq_true (by first | (with_reducible assumption) | assumption)) (by have h_ : (x15_1 : Int) < ((x5_1.length : Int) : Int) := of_decide_eq_true (by first | (with_reducible assumption) | assumption); first | exact h_ | (have e_ := (Kd.N_reads' HO_5.out).1; omega) | simpa using h_) (seg := [(.slice Av17_ y106.length cv17_)]) (j := 0) hcl17 hcc17 (show 1 ≤ 1 from by decide) (x' := y106) (Kd.FK_slice_mk (Kd.R_reads' (Kd.R_mono (ok' := (fun k_ => ((fun k_ => (w.heap.size ≤ k_))) k_ ∧ k_ ≠ go14)) (Kd.R_apart' (HO108.out) (Kd.N_typed HO_5.out) (by decide)) (fun k_ hk => by exact ⟨hk.1.1, fun e_ => (hk.2) (by rw [e_]; rfl)⟩))).2.1 (Kd.R_F (Kd.R_mono (ok' := (fun k_ => ((fun k_ => (w.heap.size ≤ k_))) k_ ∧ k_ ≠ go14)) (Kd.R_apart' (HO108.out) (Kd.N_typed HO_5.out) (by decide)) (fun k_ hk => by exact ⟨hk.1.1, fun e_ => (hk.2) (by rw [e_]; rfl)⟩)))) (fun _ hk => hk); have hx17_0 := hcc17 0 _ rfl; (try simp only [show ((Kd.slice 5 (Kd.int .u8))).sz = 1 from rfl, Nat.mul_one, Nat.add_zero] at hx17_0); have hf17_0 := hfr17 0; (try simp only [show ((Kd.slice 5 (Kd.int .u8))).sz = 1 from rfl, Nat.mul_one, Nat.add_zero] at hf17_0); (try clear hcl17); (try clear hcc17); (try clear hfr17); (try clear hM17); (try simp only [show ((Kd.slice 5 (Kd.int .u8))).sz = 1 from rfl, Nat.mul_one, Nat.add_zero] at HP17); (try simp only [show ((Kd.slice 5 (Kd.int .u8))).sz = 1 from rfl, Nat.mul_one, Nat.add_zero] at HP17)) | ((with_reducible refine gate_store (t := 22) (p := 27) rfl ?_); refine store_event (t := 22) (p := 27) (v := ?vo_w18) (w1 := (w15.setCell ⟨go14, (x15_1 : Int).toNat, none⟩ ((.slice Av17_ y106.length cv17_)))) ?hg ?ho ?hn ?hr ?_; (case ho => rfl); (case hg => rfl); (case hn => rfl); (case hr => first | (go_simp; done) | (go_simp; rfl)); intro w18 hw; have hg : w15.grownBy w18 (some go14) := (by rw [hw]; exact HP17.2); have hp_ : Kd.N (Kd.slice 5 (Kd.int .u8)) 22 w18 w.heap.size (fun k_ => (w.heap.size ≤ k_)) (.slice (some ⟨go14, 0, none⟩) x5_1.length co14) y109 := (by rw [hw, Ny109.out]; exact HP17.1); clear HP17; have n0_ := Aside0.mk (hp_); have n1_ := Aside0.mk ((by rw [hw]; exact below_set (HB.out) GB14.out : Below w.heap.size w w18)); clear HO_5; clear HB; clear HO108; have HO_5 := n0_; have HB := n1_; clear n0_ n1_; clear hg hw hp_))
            go_loopg [30] k1 (fun kq v30 w' => ∃ (x5_2 : List (List Int)) (x30_2 : Int), v30 = .int .i64 x30_2 ∧ Aside0 (code_combine.l1 kq l1 x5_2 x15_1 l0 (l0.length : Int) x15_1 (rd_L1 l0 x15_1) ((rd_L1 l0 x15_1).length : Int) x30_2 = some r) ∧ Aside0 (kq ≤ k1) ∧ Aside0 (Kd.N (Kd.slice 5 (Kd.int .u8)) 22 w' w.heap.size (fun k_ => (w.heap.size ≤ k_)) (.slice (some ⟨go14, 0, none⟩) x5_1.length co14) x5_2) ∧ Aside0 (Below w.heap.size w w'))
            case atStart => exact ⟨(y109), (0), (by first | rfl | (simp; done) | (simp [*]; done)), H', ⟨Nat.le_refl _⟩, ⟨by (with_reducible repeat (first | apply Kd.N_alloc | apply Kd.N_drewN | apply Kd.N_drew)); exact HO_5.out⟩, ⟨by repeat (first | (with_reducible first | exact HB.out | apply below_alloc | apply pw_below_drewN | apply below_drew1) | exact HB.out)⟩⟩
            case round =>
             clear H'
             try clear c1
             try clear p1
             try clear q1
             try clear hx1
             try clear qi1
             try clear p2
             try clear c3
             try clear c3b0
             try clear c3b1
             try clear c4
             try clear c4b0
             try clear c4b1
             try clear c7
             try clear c7b0
             try clear c8
             try clear c8b0
             try clear c9
             try clear c9b0
             try clear c10
             try clear c10b0
             try clear c10b1
             try clear p10
             try clear q10
             try clear hx10
             try clear qi10
             try clear c11
             try clear c11b0
             try clear c11b1
             try clear c12
             try clear c12b0
             try clear c12b1
             try clear c13
             try clear c13b0
             try clear c14
             try clear p14
             try clear q14
             try clear hx14
             try clear hf14
             try clear c17
             try clear hx17
             try clear hf17
             try clear hx104_0
             try clear hx105_0
             try clear hx14_0
             try clear hx17_0
             try clear p104
             try clear p105
             try clear p14
             try clear p2
             try clear q104
             try clear q105
             try clear q14
             obtain ⟨x5_2, x30_2, rfl, HA, HK2, HO_5, HB⟩ := hrel
             have hl5_2 := (Kd.N_reads' HO_5.out).1
             rw [hl5_2] at HO_5
             (try simp only [hl5_2])
             cases gk with
             | zero => exact absurd HA.out (by simp [code_combine.l1])
             | succ k2 =>
              have H := HA.out
              clear HA
              simp only [code_combine.l1] at H
              by_cases c19 : x30_2 < ((rd_L1 l0 x15_1).length : Int)
              ·rw [if_pos c19] at H
               have c19b0 : decide (x30_2 < ((rd_L1 l0 x15_1).length : Int)) = true := decide_eq_true c19
               (try simp only [hl5_2] at c19b0)
               clear c19
               by_cases c20 : 0 ≤ x30_2
               ·rw [if_pos c20] at H
                have c20b0 : decide (0 ≤ x30_2) = true := decide_eq_true c20
                (try simp only [hl5_2] at c20b0)
                clear c20
                by_cases c21 : x30_2 < ((rd_L1 l0 x15_1).length : Int)
                ·rw [if_pos c21] at H
                 have c21b0 : decide (x30_2 < ((rd_L1 l0 x15_1).length : Int)) = true := decide_eq_true c21
                 (try simp only [hl5_2] at c21b0)
                 clear c21
                 by_cases c22 : 0 ≤ x15_1
                 ·rw [if_pos c22] at H
                  have c22b0 : decide (0 ≤ x15_1) = true := decide_eq_true c22
                  (try simp only [hl5_2] at c22b0)
                  clear c22
                  by_cases c23 : x15_1 < (x5_2.length : Int)
                  ·rw [if_pos c23] at H
                   have c23b0 : decide (x15_1 < (x5_2.length : Int)) = true := decide_eq_true c23
                   (try simp only [hl5_2] at c23b0)
                   clear c23
                   by_cases c24 : x30_2 < (l1.length : Int)
                   ·rw [if_pos c24] at H
                    have c24b0 : decide (x30_2 < (l1.length : Int)) = true := decide_eq_true c24
                    (try simp only [hl5_2] at c24b0)
                    clear c24
                    replace H := Option.bind_eq_some_iff.mp H
                    obtain ⟨⟨t113, t114⟩, A250, H⟩ := H
                    replace H : (code_combine.l1 k2 l1 (x5_2.set (x15_1 : Int).toNat t113) x15_1 l0 (l0.length : Int) x15_1 (rd_L1 l0 x15_1) ((rd_L1 l0 x15_1).length : Int) (wrap64 (x30_2 + 1))) = some r := H
                    have A25 := Aside0.mk A250
                    clear A250
                    obtain ⟨y117, hy117⟩ : ∃ y_ : List (List Int), y_ = (x5_2.set (x15_1 : Int).toNat t113) := ⟨_, rfl⟩
                    replace H : (code_combine.l1 k2 l1 y117 x15_1 l0 (l0.length : Int) x15_1 (rd_L1 l0 x15_1) ((rd_L1 l0 x15_1).length : Int) (wrap64 (x30_2 + 1))) = some r := by first | (rw [hy117]; with_reducible exact H) | (have H2_ := (Option.bind_some _ _).symm.trans H; rw [hy117]; with_reducible exact H2_) | (have H2_ := (Option.bind_some _ _).symm.trans H; with_reducible exact H2_) | with_reducible exact H | (rw [hy117]; exact H) | exact H
                    have Ny117 := Aside0.mk hy117
                    clear hy117
                    have H' := Aside0.mk H
                    clear H
                    have p110 : 0 ≤ (x30_2 : Int) := of_decide_eq_true (by first | (with_reducible assumption) | assumption)
                    have q110 : x30_2 < ((rd_L1 l0 x15_1).length : Int) := of_decide_eq_true (by first | (with_reducible assumption) | assumption)
                    obtain ⟨ad110, e110, hx110_0⟩ := Kd.at_int HR104_0.out x30_2 p110 q110
                    cases e110
                    replace hx110_0 := (HB.out.cell (World.block_lt_of_cell? w _ hx110_0)).trans hx110_0
                    replace p110 := eq_true p110
                    replace q110 := eq_true q110
                    try go_wp2
                    have n0_ := Aside0.mk (Kd.N_drew HO_5.out)
                    have n1_ := Aside0.mk (below_drew1 HB.out)
                    clear HO_5
                    clear HB
                    have HO_5 := n0_
                    have HB := n1_
                    clear n0_ n1_
                    have p111 : 0 ≤ (x15_1 : Int) := of_decide_eq_true (by first | (with_reducible assumption) | assumption)
                    have q111 : x15_1 < (x5_2.length : Int) := of_decide_eq_true (by first | (with_reducible assumption) | assumption)
                    obtain ⟨ad111, A111_0, c111_0, e111, hx111_0, hl111_0, hi111_0⟩ := at_L1 (Kd.N_reads' HO_5.out).2.2 x15_1 p111 q111
                    obtain rfl : (⟨go14, 0, none⟩ : Addr) = ad111 := (by injection e111)
                    obtain ⟨ce111, hce111, hMe111, hcc111⟩ := Kd.N_get HO_5.out [] x15_1 p111 (by first | exact q111 | exact of_decide_eq_true (by first | (with_reducible assumption) | assumption) | (have e_ := (Kd.N_reads' HO_5.out).1; omega))
                    obtain ⟨ua111_0, uc111_0, rfl, ul111_0, ge111_0⟩ := Kd.FK_slice_open hMe111
                    have hv111_0 := hcc111 0 _ rfl
                    rw [Nat.add_zero, show ((Kd.slice 5 (Kd.int .u8))).sz = 1 from rfl, Nat.mul_one] at hv111_0
                    replace hv111_0 := Option.some.inj (hv111_0.symm.trans hx111_0)
                    injection hv111_0 with hva_ hvn_ hvc_
                    rw [hva_] at ge111_0
                    rw [hvc_] at ul111_0
                    have HL111_0 := Aside0.mk (show Kd.V (Kd.int .u8) 5 _ w.heap.size _ _ (rd_L1 x5_2 x15_1) from Kd.V_mk ul111_0 ge111_0)
                    clear hva_ hvn_ hvc_ ge111_0 ul111_0
                    clear hcc111 hce111
                    (first | simp only [add_plain] at hx111_0 | simp only [add_at] at hx111_0 | simp only [Addr.add, Nat.zero_add] at hx111_0 | skip)
                    have HR111_0 := Aside0.mk hi111_0
                    have HC111_0 := Aside0.mk hl111_0
                    clear hi111_0 hl111_0
                    replace p111 := eq_true p111
                    replace q111 := eq_true q111
                    have p112 : 0 ≤ (x30_2 : Int) := of_decide_eq_true (by first | (with_reducible assumption) | assumption)
                    have q112 : x30_2 < (l1.length : Int) := of_decide_eq_true (by first | (with_reducible assumption) | assumption)
                    obtain ⟨ad112, A112_0, c112_0, e112, hx112_0, hl112_0, hi112_0⟩ := at_L1 HR1.out x30_2 p112 q112
                    have hw112_0 := hx112_0
                    obtain rfl : ad105 = ad112 := (by injection e112)
                    replace hx112_0 := (HB.out.cell (World.block_lt_of_cell? w _ hx112_0)).trans hx112_0
                    have HR112_0 := Aside0.mk hi112_0
                    have HC112_0 := Aside0.mk hl112_0
                    clear hi112_0 hl112_0
                    replace p112 := eq_true p112
                    replace q112 := eq_true q112
                    refine start_ (n := 17) (S := fun w' => w'.cell? ⟨go14, (x15_1).toNat, none⟩ = some (.slice A111_0 (rd_L1 x5_2 x15_1).length c111_0) ∧ w'.cell? (ad105.add (x30_2).toNat) = some (.slice A112_0 (rd_L1 l1 x30_2).length c112_0)) (ds := [16]) #[false, false, false, false, false, false, false, false, false, false, false, false, false, false, false, false, false] (by kernel_rfl) rfl rfl ⟨hx111_0, ((HB.out.cell (World.block_lt_of_cell? w _ hw112_0)).trans hw112_0)⟩ (fun hHeld => ?_); refine with_tabW code_combine.tab9 code_combine.bits9 (fun HT_ HW_ => ?_)
                    generalize wr.drew = w27 at HO_5 HB HL111_0 HR111_0 HR112_0 hx111_0 hx112_0 hHeld ⊢
                    refine pure_ (i := 0) (N := some 36) (v := ?_) (a' := ?_) #[true, false, false, false, false, false, false, false, false, false, false, false, false, false, false, false, false] rfl rfl (any_of HT_.out (by kernel_rfl)) (fun _ _ _ h => h) (Or.inl ⟨by rfl, ?_⟩) ?_ ?_
                    rotate_left
                    ·intro w'
                     go_simp
                     with_reducible rfl
                    rotate_left
                    ·simp only [Act.put, List.setIfInBounds_toArray, List.set_cons_zero, List.set_cons_succ, i64_w, i32_w]
                     rfl
                    refine pure_ (i := 1) (N := some 37) (v := ?_) (a' := ?_) #[true, true, false, false, false, false, false, false, false, false, false, false, false, false, false, false, false] rfl rfl (any_of HT_.out (by kernel_rfl)) (fun _ _ _ h => h) (Or.inl ⟨by rfl, ?_⟩) ?_ ?_
                    rotate_left
                    ·intro w'
                     go_simp
                     with_reducible rfl
                    rotate_left
                    ·simp only [Act.put, List.setIfInBounds_toArray, List.set_cons_zero, List.set_cons_succ, i64_w, i32_w]
                     rfl
                    refine pure_ (i := 2) (N := some 38) (v := ?_) (a' := ?_) #[true, true, true, false, false, false, false, false, false, false, false, false, false, false, false, false, false] rfl rfl (any_of HT_.out (by kernel_rfl)) (fun _ _ _ h => h) (Or.inl ⟨by rfl, ?_⟩) ?_ ?_
                    rotate_left
                    ·intro w'
                     go_simp
                     with_reducible rfl
                    rotate_left
                    ·simp only [Act.put, List.setIfInBounds_toArray, List.set_cons_zero, List.set_cons_succ, i64_w, i32_w]
                     rfl
                    refine pure_ (i := 3) (N := some 39) (v := ?_) (a' := ?_) #[true, true, true, true, false, false, false, false, false, false, false, false, false, false, false, false, false] rfl rfl (any_of HT_.out (by kernel_rfl)) (fun _ _ _ h => h) (Or.inl ⟨by rfl, ?_⟩) ?_ ?_
                    rotate_left
                    ·intro w'
                     go_simp
                     with_reducible rfl
                    rotate_left
                    ·simp only [Act.put, List.setIfInBounds_toArray, List.set_cons_zero, List.set_cons_succ, i64_w, i32_w]
                     rfl
                    refine pure_ (i := 4) (N := some 40) (v := ?_) (a' := ?_) #[true, true, true, true, true, false, false, false, false, false, false, false, false, false, false, false, false] rfl rfl (any_of HT_.out (by kernel_rfl)) (fun _ _ _ h => h) (Or.inl ⟨by rfl, ?_⟩) ?_ ?_
                    rotate_left
                    ·intro w'
                     go_simp
                     with_reducible rfl
                    rotate_left
                    ·simp only [Act.put, List.setIfInBounds_toArray, List.set_cons_zero, List.set_cons_succ, i64_w, i32_w]
                     rfl
                    refine pure_ (i := 6) (N := some 42) (v := ?_) (a' := ?_) #[true, true, true, true, true, false, true, false, false, false, false, false, false, false, false, false, false] rfl rfl (any_of HT_.out (by kernel_rfl)) (fun _ _ _ h => h) (Or.inl ⟨by rfl, ?_⟩) ?_ ?_
                    rotate_left
                    ·intro w'
                     go_simp
                     with_reducible rfl
                    rotate_left
                    ·simp only [Act.put, List.setIfInBounds_toArray, List.set_cons_zero, List.set_cons_succ, i64_w, i32_w]
                     rfl
                    refine pure_ (i := 7) (N := some 43) (v := ?_) (a' := ?_) #[true, true, true, true, true, false, true, true, false, false, false, false, false, false, false, false, false] rfl rfl (any_of HT_.out (by kernel_rfl)) (fun _ _ _ h => h) (Or.inl ⟨by rfl, ?_⟩) ?_ ?_
                    rotate_left
                    ·intro w'
                     go_simp
                     with_reducible rfl
                    rotate_left
                    ·simp only [Act.put, List.setIfInBounds_toArray, List.set_cons_zero, List.set_cons_succ, i64_w, i32_w]
                     rfl
                    refine pure_ (i := 8) (N := some 44) (v := ?_) (a' := ?_) #[true, true, true, true, true, false, true, true, true, false, false, false, false, false, false, false, false] rfl rfl (any_of HT_.out (by kernel_rfl)) (fun _ _ _ h => h) (Or.inl ⟨by rfl, ?_⟩) ?_ ?_
                    rotate_left
                    ·intro w'
                     go_simp
                     with_reducible rfl
                    rotate_left
                    ·simp only [Act.put, List.setIfInBounds_toArray, List.set_cons_zero, List.set_cons_succ, i64_w, i32_w]
                     rfl
                    refine pure_ (i := 10) (N := some 46) (v := ?_) (a' := ?_) #[true, true, true, true, true, false, true, true, true, false, true, false, false, false, false, false, false] rfl rfl (any_of HT_.out (by kernel_rfl)) (fun _ _ _ h => h) (Or.inl ⟨by rfl, ?_⟩) ?_ ?_
                    rotate_left
                    ·intro w'
                     go_simp
                     with_reducible rfl
                    rotate_left
                    ·simp only [Act.put, List.setIfInBounds_toArray, List.set_cons_zero, List.set_cons_succ, i64_w, i32_w]
                     rfl
                    refine take_ (i := 5) (N := some 41) (v := ?_) (a' := ?_) #[true, true, true, true, true, true, true, true, true, false, true, false, false, false, false, false, false] rfl rfl (take_ofW HT_.out HW_.out (by kernel_rfl)) (fun _ _ _ h => h) (Or.inl ⟨by rfl, ?_⟩) hHeld ?_ ?_
                    rotate_left
                    ·rintro w' ⟨s0, s1⟩
                     go_simp
                     with_reducible rfl
                    rotate_left
                    ·simp only [Act.put, List.setIfInBounds_toArray, List.set_cons_zero, List.set_cons_succ, i64_w, i32_w]
                     rfl
                    refine take_ (i := 9) (N := some 45) (v := ?_) (a' := ?_) #[true, true, true, true, true, true, true, true, true, true, true, false, false, false, false, false, false] rfl rfl (take_ofW HT_.out HW_.out (by kernel_rfl)) (fun _ _ _ h => h) (Or.inl ⟨by rfl, ?_⟩) hHeld ?_ ?_
                    rotate_left
                    ·rintro w' ⟨s0, s1⟩
                     go_simp
                     with_reducible rfl
                    rotate_left
                    ·simp only [Act.put, List.setIfInBounds_toArray, List.set_cons_zero, List.set_cons_succ, i64_w, i32_w]
                     rfl
                    refine one_ (i := 11) (N := some 47) #[true, true, true, true, true, true, true, true, true, true, true, true, false, false, false, false, false] rfl rfl (one_of HT_.out (by kernel_rfl)) (by decide) (fun K hK => ?_)
                    refine goes_ Tryd.func71 (by kernel_rfl) rfl #[.slice A111_0 (rd_L1 x5_2 x15_1).length c111_0, .slice A112_0 (rd_L1 l1 x30_2).length c112_0, .int .u8 (rd (rd_L1 l0 x15_1) x30_2)] (by rfl) rfl rfl (by (try simp only [List.map_toArray, List.map_cons, List.map_nil]); first | done | rfl | (simp only [List.length_drop, List.length_take]; rfl)) ?_
                    with_reducible refine (gf_AddMul.calls k2 _ _ (rd_L1 x5_2 x15_1) _ _ (rd_L1 l1 x30_2) (rd (rd_L1 l0 x15_1) x30_2) t113 t114 _ ?side1 ?side2 ?side3 ?side4 A25.out).mono ?_
                    (case side1 => repeat (first | exact (by repeat (first | (with_reducible exact HR111_0.out) | (with_reducible refine Kd.C_alloc ?_ _) | (with_reducible refine Kd.C_drewN ?_ _) | (with_reducible refine Kd.C_drew ?_) | exact HR111_0.out)) | (with_reducible refine Kd.C_alloc ?_ _) | (with_reducible refine Kd.C_drewN ?_ _) | (with_reducible refine Kd.C_drew ?_)))
                    (case side2 => exact HC111_0.out)
                    (case side3 => repeat (first | exact (Kd.C_below HR112_0.out HB.out) | (with_reducible refine Kd.C_alloc ?_ _) | (with_reducible refine Kd.C_drewN ?_ _) | (with_reducible refine Kd.C_drew ?_)))
                    (case side4 => exact HC112_0.out)
                    rintro e w28 ⟨v115, rfl, ho0, hb⟩
                    have HS0_ := (hb.cell (World.block_lt_of_cell? _ _ (hHeld.1))).trans (hHeld.1)
                    refine ⟨_, rfl, ?_⟩
                    have n0_ := Aside0.mk (Kd.N_elder' (by (with_reducible repeat (first | apply Kd.N_alloc | apply Kd.N_drewN | apply Kd.N_drew)); exact HO_5.out) (Kd.R_base ho0) hb)
                    have n1_ := Aside0.mk (Kd.V_elder' (by (with_reducible repeat (first | apply Kd.V_alloc | apply Kd.V_drewN | apply Kd.V_drew)); exact HL111_0.out) (Kd.R_base ho0) hb)
                    have n2_ := Aside0.mk (Kd.R_lower (Kd.R_newM (M := fun k_ => (w.heap.size ≤ k_)) ho0 (below_size (by repeat (first | (with_reducible first | exact HB.out | apply below_alloc | apply pw_below_drewN | apply below_drew1) | exact HB.out))) (fun k_ h_ => h_)) (below_size (by repeat (first | (with_reducible first | exact HB.out | apply below_alloc | apply pw_below_drewN | apply below_drew1) | exact HB.out))))
                    have n3_ := Aside0.mk (Kd.C_below (by repeat (first | (with_reducible exact HR111_0.out) | (with_reducible refine Kd.C_alloc ?_ _) | (with_reducible refine Kd.C_drewN ?_ _) | (with_reducible refine Kd.C_drew ?_) | exact HR111_0.out)) hb)
                    have n4_ := Aside0.mk (below_step (by repeat (first | (with_reducible first | exact HB.out | apply below_alloc | apply pw_below_drewN | apply below_drew1) | exact HB.out)) hb)
                    clear HO_5
                    clear HL111_0
                    clear HR111_0
                    clear HB
                    have HO_5 := n0_
                    have HL111_0 := n1_
                    have HO116 := n2_
                    have HR111_0 := n3_
                    have HB := n4_
                    clear n0_ n1_ n2_ n3_ n4_
                    (try clear hb)
                    (try clear hb2)
                    (try clear hk)
                    (try clear hi)
                    (try clear ho0)
                    have p26 : 0 ≤ (x15_1 : Int) := of_decide_eq_true (by first | (with_reducible assumption) | assumption)
                    have q26 : (x15_1 : Int) < ((x5_2.length : Int) : Int) := of_decide_eq_true (by first | (with_reducible assumption) | assumption)
                    obtain ⟨ce26, hcl26, hM26, hcc26, hfr26⟩ := Kd.N_elem HO_5.out [] (x15_1 : Int) p26 q26
                    obtain ⟨ua26_0, uc26_0, rfl, ul26_0, ge26_0⟩ := Kd.FK_slice_open hM26
                    have hx26_0 := hcc26 0 _ rfl
                    have hf26_0 := hfr26 0
                    (try simp only [show ((Kd.slice 5 (Kd.int .u8))).sz = 1 from rfl, Nat.mul_one, Nat.add_zero] at hx26_0)
                    (try simp only [show ((Kd.slice 5 (Kd.int .u8))).sz = 1 from rfl, Nat.mul_one, Nat.add_zero] at hf26_0)
                    (try clear hcl26); (try clear hcc26); (try clear hfr26); (try clear hM26)
                    replace p26 := eq_true p26
                    replace q26 := eq_true q26
                    have HX29 := Aside0.mk (show Kd.N (Kd.slice 5 (Kd.int .u8)) 22 _ w.heap.size (fun k_ => (w.heap.size ≤ k_) ∧ some k_ ≠ (v115 : Value).ownBlock) (.slice (some ⟨go14, 0, none⟩) x5_2.length co14) x5_2 from (Kd.N_mono (HO_5.out) (fun k_ hk => by exact ⟨hk.1, hk.2⟩)))
                    replace HX29 := Aside0.mk (show Kd.N (Kd.slice 5 (Kd.int .u8)) 22 _ w.heap.size (fun k_ => (w.heap.size ≤ k_)) (.slice (some ⟨go14, 0, none⟩) x5_2.length co14) x5_2 from Kd.N_mono HX29.out (fun k_ hk => hk.1))
                    obtain ⟨ce29, hcl29, hM29, hcc29, hfr29⟩ := Kd.N_elem HX29.out [] (x15_1 : Int) (of_decide_eq_true (by first | (with_reducible assumption) | assumption)) (by have h_ : (x15_1 : Int) < ((x5_2.length : Int) : Int) := of_decide_eq_true (by first | (with_reducible assumption) | assumption); first | exact h_ | (have e_ := (Kd.N_reads' HO_5.out).1; omega) | simpa using h_)
                    obtain ⟨ua29_0, uc29_0, rfl, ul29_0, ge29_0⟩ := Kd.FK_slice_open hM29
                    obtain ⟨Av29_, cv29_, ev29_⟩ := Kd.R_slice HO116.out
                    subst ev29_
                    have HP29 := (Kd.N_seg HX29.out (x15_1 : Int) (of_decide_eq_true (by first | (with_reducible assumption) | assumption)) (by have h_ : (x15_1 : Int) < ((x5_2.length : Int) : Int) := of_decide_eq_true (by first | (with_reducible assumption) | assumption); first | exact h_ | (have e_ := (Kd.N_reads' HO_5.out).1; omega) | simpa using h_) (seg := [(.slice Av29_ t113.length cv29_)]) (j := 0) hcl29 hcc29 (show 1 ≤ 1 from by decide) (x' := t113) (Kd.FK_slice_mk (Kd.R_reads' (Kd.R_mono (ok' := (fun k_ => ((fun k_ => (w.heap.size ≤ k_))) k_ ∧ k_ ≠ go14)) (Kd.R_apart' (HO116.out) (Kd.N_typed HO_5.out) (by decide)) (fun k_ hk => by exact ⟨hk.1.1, fun e_ => (hk.2) (by rw [e_]; rfl)⟩))).2.1 (Kd.R_F (Kd.R_mono (ok' := (fun k_ => ((fun k_ => (w.heap.size ≤ k_))) k_ ∧ k_ ≠ go14)) (Kd.R_apart' (HO116.out) (Kd.N_typed HO_5.out) (by decide)) (fun k_ hk => by exact ⟨hk.1.1, fun e_ => (hk.2) (by rw [e_]; rfl)⟩)))) (fun _ hk => hk)).1
                    (try simp only [show ((Kd.slice 5 (Kd.int .u8))).sz = 1 from rfl, Nat.mul_one, Nat.add_zero] at HP29)
                    rw [← Ny117.out] at HP29
                    have HQ29 := Aside0.mk HP29
                    (try clear hcl29); (try clear hcc29); (try clear hfr29); (try clear hM29); (try clear HP29)
                    refine hK.out _ _ ⟨HS0_, ((HB.out.cell (World.block_lt_of_cell? w _ hw112_0)).trans hw112_0)⟩ (fun hHeld => ?_)
                    clear hK K
                    refine norm_ (a' := ?_) ?_ ?_
                    rotate_left
                    ·show Act.put _ (some 47) _ = _
                     simp only [Act.put, List.setIfInBounds_toArray, List.set_cons_zero, List.set_cons_succ, i64_w, i32_w]
                     rfl
                    refine pure_ (i := 12) (N := some 35) (v := ?_) (a' := ?_) #[true, true, true, true, true, true, true, true, true, true, true, true, true, false, false, false, false] rfl rfl (any_of HT_.out (by kernel_rfl)) (fun _ _ _ h => h) (Or.inl ⟨by rfl, ?_⟩) ?_ ?_
                    rotate_left
                    ·intro w'
                     go_simp
                     with_reducible rfl
                    rotate_left
                    ·simp only [Act.put, List.setIfInBounds_toArray, List.set_cons_zero, List.set_cons_succ, i64_w, i32_w]
                     rfl
                    refine pure_ (i := 13) (N := some 48) (v := ?_) (a' := ?_) #[true, true, true, true, true, true, true, true, true, true, true, true, true, true, false, false, false] rfl rfl (any_of HT_.out (by kernel_rfl)) (fun _ _ _ h => h) (Or.inl ⟨by rfl, ?_⟩) ?_ ?_
                    rotate_left
                    ·intro w'
                     go_simp
                     with_reducible rfl
                    rotate_left
                    ·simp only [Act.put, List.setIfInBounds_toArray, List.set_cons_zero, List.set_cons_succ, i64_w, i32_w]
                     rfl
                    refine pure_ (i := 14) (N := some 49) (v := ?_) (a' := ?_) #[true, true, true, true, true, true, true, true, true, true, true, true, true, true, true, false, false] rfl rfl (any_of HT_.out (by kernel_rfl)) (fun _ _ _ h => h) (Or.inl ⟨by rfl, ?_⟩) ?_ ?_
                    rotate_left
                    ·intro w'
                     go_simp
                     with_reducible rfl
                    rotate_left
                    ·simp only [Act.put, List.setIfInBounds_toArray, List.set_cons_zero, List.set_cons_succ, i64_w, i32_w]
                     rfl
                    refine pure_ (i := 15) (N := some 50) (v := ?_) (a' := ?_) #[true, true, true, true, true, true, true, true, true, true, true, true, true, true, true, true, false] rfl rfl (any_of HT_.out (by kernel_rfl)) (fun _ _ _ h => h) (Or.inl ⟨by rfl, ?_⟩) ?_ ?_
                    rotate_left
                    ·intro w'
                     go_simp
                     with_reducible rfl
                    rotate_left
                    ·simp only [Act.put, List.setIfInBounds_toArray, List.set_cons_zero, List.set_cons_succ, i64_w, i32_w]
                     rfl
                    refine last_ (i := 16) (N := none) #[true, true, true, true, true, true, true, true, true, true, true, true, true, true, true, true, true] rfl rfl (one_of HT_.out (by kernel_rfl)) (by decide) (fun K hK => ?_)
                    refine skip_ (w1 := ?_) (by rfl) rfl ?_ ?_
                    rotate_left
                    ·go_simp
                     rfl
                    refine hK.out _ _ ?_
                    clear hK K
                    refine done_ (done_of HT_.out (by kernel_rfl)) ?_
                    try go_wp2
                    (try simp only [← hl5_2])
                    go_roundg k2
                    case measure => have := HK1.out; have := HK2.out; omega
                    case rel => exact ⟨(y117), (wrap64 (x30_2 + 1)), (by first | rfl | (simp; done) | (simp [*]; done)), H', ⟨by have := HK1.out; have := HK2.out; omega⟩, ⟨by (try simp only [hl5_2]); (with_reducible repeat (first | apply Kd.N_alloc | apply Kd.N_drewN | apply Kd.N_drew)); exact HQ29.out⟩, ⟨by repeat (first | (with_reducible first | exact HB.out | apply below_alloc | apply pw_below_drewN | apply below_drew1 | refine below_set ?_ GB14.out) | exact HB.out)⟩⟩
                   ·rw [if_neg c24] at H
                    exact absurd H (by simp)
                  ·rw [if_neg c23] at H
                   exact absurd H (by simp)
                 ·rw [if_neg c22] at H
                  exact absurd H (by simp)
                ·rw [if_neg c21] at H
                 exact absurd H (by simp)
               ·rw [if_neg c20] at H
                exact absurd H (by simp)
              ·rw [if_neg c19] at H
               have c19b0 : decide (x30_2 < ((rd_L1 l0 x15_1).length : Int)) = false := decide_eq_false c19
               (try simp only [hl5_2] at c19b0)
               clear c19
               have H' := Aside0.mk H
               clear H
               go_wp2
               (try simp only [← hl5_2])
               go_roundg k2
               case measure => have := HK1.out; have := HK2.out; omega
               case rel => exact ⟨(x5_2), (wrap64 (x15_1 + 1)), (by first | rfl | (simp; done) | (simp [*]; done)), H', ⟨by have := HK1.out; have := HK2.out; omega⟩, ⟨by (try simp only [hl5_2]); (with_reducible repeat (first | apply Kd.N_alloc | apply Kd.N_drewN | apply Kd.N_drew)); exact HO_5.out⟩, ⟨by repeat (first | (with_reducible first | exact HB.out | apply below_alloc | apply pw_below_drewN | apply below_drew1) | exact HB.out)⟩⟩
           ·rw [if_neg c13] at H
            exact absurd H (by simp)
          ·rw [if_neg c12] at H
           exact absurd H (by simp)
         ·rw [if_neg c11] at H
          exact absurd H (by simp)
        ·rw [if_neg c10] at H
         exact absurd H (by simp)
       ·rw [if_neg c9] at H
        exact absurd H (by simp)
      ·rw [if_neg c8] at H
       exact absurd H (by simp)
     ·rw [if_neg c7] at H
      have c7b0 : decide (x15_1 < (l0.length : Int)) = false := decide_eq_false c7
      clear c7
      obtain rfl := Option.some.inj H
      go_wp2
      go_ret
      exact ⟨_, by first | rfl | (simp [errW_none, errW_some] <;> rfl) | (simp [*, errW_none, errW_some] <;> rfl), by (with_reducible repeat (first | apply Kd.N_alloc | apply Kd.N_drewN | apply Kd.N_drew)); exact HO_5.out, by repeat (first | (with_reducible first | exact HB.out | apply below_alloc | apply pw_below_drewN | apply below_drew1) | exact HB.out)⟩
  ·rw [if_neg c4] at H
   exact absurd H (by simp)
 ·rw [if_neg c3] at H
  exact absurd H (by simp)
end Go.Proofs.YtnfgiamdmfkcjaaDoor.P
namespace Go.Proofs.YtnfgiamdmfkcjaaDoor.P
open Go.Proofs.YtnfgiamdmfkcjaaDoor.Leaf
open Go.RowKit Go.Proofs.YtnfgiamdmfkcjaaDoorW.PrintWords Go.Proofs.YtnfgiamdmfkcjaaDoorW.PrintLast Go.Proofs.YtnfgiamdmfkcjaaDoorW.PrintMore
attribute [local go_sem] max2_int min2_int max_two min_two max_three min_three max_four min_four   -- for this text's walks alone
set_option linter.unusedVariables false
set_option linter.unusedSimpArgs false
def code_Encode.f (k : Nat) (a0 : Int) (a1 : Int) (l2 : List (List Int)) : Option ((List (List Int)) × Int) := (matrix_Cauchy.f k a0 a1).bind fun bt101 => (if bt101.2 = 0 then ((code_even.f l2 a0).bind fun t105 => (if t105 = true then ((code_combine.f k bt101.1 l2).bind fun t106 => (some (t106, 0))) else (some (([] : List (List Int)), 1)))) else (some (([] : List (List Int)), 1)))
theorem code_Encode.mono : ∀ a0 a1 a2 k, LeO (code_Encode.f k a0 a1 a2) (code_Encode.f (k + 1) a0 a1 a2) := by
 intro a0 a1 a2 k
 unfold code_Encode.f
 repeat' first
   | (with_reducible exact code_combine.mono _ _ _)
   | (with_reducible exact matrix_Cauchy.mono _ _ _)
   | (with_reducible exact LeO.refl _)
   | (with_reducible exact LeO.none _)
   | (with_reducible refine LeO.ite ?_ ?_)
   | (with_reducible refine LeO.bind ?_ (fun _ => ?_))
   | exact code_combine.mono _ _ _
   | exact matrix_Cauchy.mono _ _ _
   | exact LeO.none _
   | refine LeO.ite ?_ ?_
   | refine LeO.bind ?_ (fun _ => ?_)
set_option maxHeartbeats 8000000 in
set_option maxRecDepth 100000 in
theorem code_Encode.calls (k : Nat) (a0 : Int) (a1 : Int) (A2 : Option Addr) (c2 : Nat) (l2 : List (List Int)) (r1 : List (List Int)) (r2 : Int) (w : World) (hr2 : Kd.C (Kd.slice 5 (Kd.int .u8)) w A2 l2.length l2) (hc2 : l2.length ≤ c2) (h : code_Encode.f k a0 a1 l2 = some (r1, r2)) :
  Calls Tryd.prog 54 #[.int .i64 a0, .int .i64 a1, .slice A2 l2.length c2] w fun e w' => ∃ v0_ : Value, e = .returned (.tuple #[v0_, .int .i64 r2]) ∧ Kd.N (Kd.slice 5 (Kd.int .u8)) 22 w' w.heap.size (fun k_ => (w.heap.size ≤ k_)) v0_ r1 ∧ Below w.heap.size w w' := by
 have HR2 := Aside0.mk hr2
 have HC2 := Aside0.mk hc2
 clear hr2 hc2
 have HB := Aside0.mk (Below.refl w.heap.size w)
 have H : ((matrix_Cauchy.f k a0 a1).bind fun bt101 => (if bt101.2 = 0 then ((code_even.f l2 a0).bind fun t105 => (if t105 = true then ((code_combine.f k bt101.1 l2).bind fun t106 => (some (t106, 0))) else (some (([] : List (List Int)), 1)))) else (some (([] : List (List Int)), 1)))) = some (r1, r2) := h
 clear h
 replace H := Option.bind_eq_some_iff.mp H
 obtain ⟨⟨t101, t102⟩, A40, H⟩ := H
 replace H : (if t102 = 0 then ((code_even.f l2 a0).bind fun t105 => (if t105 = true then ((code_combine.f k t101 l2).bind fun t106 => (some (t106, 0))) else (some (([] : List (List Int)), 1)))) else (some (([] : List (List Int)), 1))) = some (r1, r2) := H
 have A4 := Aside0.mk A40
 clear A40
 by_cases c5 : t102 = 0
 ·rw [if_pos c5] at H
  have c5b0 : (t102 == 0) = true := beq_iff_eq.mpr c5
  have c5b1 : (t102 != 0) = false := bne_eq_false_iff_eq.mpr c5
  clear c5
  replace H := Option.bind_eq_some_iff.mp H
  obtain ⟨t105, A60, H⟩ := H
  replace H : (if t105 = true then ((code_combine.f k t101 l2).bind fun t106 => (some (t106, 0))) else (some (([] : List (List Int)), 1))) = some (r1, r2) := H
  have A6 := Aside0.mk A60
  clear A60
  by_cases c7 : t105 = true
  ·subst c7
   have H1 : ((code_combine.f k t101 l2).bind fun t106 => (some (t106, 0))) = some (r1, r2) := by rw [if_pos rfl] at H; exact H
   clear H
   have H := H1
   clear H1
   replace H := Option.bind_eq_some_iff.mp H
   obtain ⟨t106, A80, H⟩ := H
   replace H : (some (t106, 0)) = some (r1, r2) := H
   have A8 := Aside0.mk A80
   clear A80
   simp only [Option.some.injEq, Prod.mk.injEq] at H
   obtain ⟨rfl, rfl⟩ := H
   go_enter Tryd.func54, Tryd.ntmps54
   go_wp2_with (first | ((with_reducible refine gate_callee (f := 34) rfl ?_); refine goesL_ (some 13) rfl rfl Tryd.func34 (by kernel_rfl) rfl #[.int .i64 a0, .int .i64 a1] rfl (by (try simp only [List.map_toArray, List.map_cons, List.map_nil]); first | done | rfl | (simp only [List.length_drop, List.length_take]; rfl)) ?_; (with_reducible refine (matrix_Cauchy.calls k a0 a1 t101 t102 _ A4.out).mono ?_); rintro e w9 ⟨v103, rfl, ho0, hb⟩; refine ⟨_, rfl, ?_⟩; have n0_ := Aside0.mk (Kd.N_lower (Kd.N_mono (ok' := fun k_ => (w.heap.size ≤ k_)) (Kd.S_N (Kd.S_bound ho0)) (fun k_ hk_ => (Nat.le_trans (below_size (by repeat (first | (with_reducible first | exact HB.out | apply below_alloc | apply pw_below_drewN | apply below_drew1) | exact HB.out))) hk_.2.1))) (below_size (by repeat (first | (with_reducible first | exact HB.out | apply below_alloc | apply pw_below_drewN | apply below_drew1) | exact HB.out)))); have n1_ := Aside0.mk (below_step (by repeat (first | (with_reducible first | exact HB.out | apply below_alloc | apply pw_below_drewN | apply below_drew1) | exact HB.out)) hb); clear HB; have HO104 := n0_; have HB := n1_; clear n0_ n1_; (try clear hb); (try clear hb2); (try clear hk); (try clear hi); (try clear ho0)) | (go_at_call 35; (with_reducible refine (code_even.calls _ _ l2 a0 true _ ?side1 ?side2 A6.out).mono ?_); (case side1 => repeat (first | exact (Kd.C_below HR2.out HB.out) | (with_reducible refine Kd.C_alloc ?_ _) | (with_reducible refine Kd.C_drewN ?_ _) | (with_reducible refine Kd.C_drew ?_))); (case side2 => exact HC2.out); rintro e w10 ⟨rfl, hb⟩; have n0_ := Aside0.mk (Kd.N_below (by (with_reducible repeat (first | apply Kd.N_alloc | apply Kd.N_drewN | apply Kd.N_drew)); exact HO104.out) hb); have n1_ := Aside0.mk (below_step (by repeat (first | (with_reducible first | exact HB.out | apply below_alloc | apply pw_below_drewN | apply below_drew1) | exact HB.out)) hb); clear HO104; clear HB; have HO104 := n0_; have HB := n1_; clear n0_ n1_; (try clear hb); (try clear hb2); (try clear hk); (try clear hi); obtain ⟨Ao11, co11, eo11⟩ := Kd.N_slice HO104.out; subst eo11) | ((with_reducible refine gate_callee (f := 38) rfl ?_); refine goesL_ (some 26) rfl rfl Tryd.func38 (by kernel_rfl) rfl #[.slice Ao11 t101.length co11, .slice A2 l2.length c2] rfl (by (try simp only [List.map_toArray, List.map_cons, List.map_nil]); first | done | rfl | (simp only [List.length_drop, List.length_take]; rfl)) ?_; (with_reducible refine (code_combine.calls k _ _ t101 _ _ l2 t106 _ ?side1 ?side2 ?side3 ?side4 A8.out).mono ?_); (case side1 => repeat (first | exact (Kd.N_reads' HO104.out).2.2 | (with_reducible refine Kd.C_alloc ?_ _) | (with_reducible refine Kd.C_drewN ?_ _) | (with_reducible refine Kd.C_drew ?_))); (case side2 => exact (Kd.N_reads' HO104.out).2.1); (case side3 => repeat (first | exact (Kd.C_below HR2.out HB.out) | (with_reducible refine Kd.C_alloc ?_ _) | (with_reducible refine Kd.C_drewN ?_ _) | (with_reducible refine Kd.C_drew ?_))); (case side4 => exact HC2.out); rintro e w12 ⟨v107, rfl, ho0, hb⟩; refine ⟨_, rfl, ?_⟩; have n0_ := Aside0.mk (Kd.N_elder' (by (with_reducible repeat (first | apply Kd.N_alloc | apply Kd.N_drewN | apply Kd.N_drew)); exact HO104.out) (by first | exact Kd.N_base ho0 | exact Kd.S_base ho0) hb); have n1_ := Aside0.mk (Kd.N_lower (Kd.N_mono (ok' := fun k_ => (w.heap.size ≤ k_) ∧ some k_ ≠ (.slice Ao11 t101.length co11 : Value).ownBlock) ho0 (fun k_ hk_ => ⟨(Nat.le_trans (below_size (by repeat (first | (with_reducible first | exact HB.out | apply below_alloc | apply pw_below_drewN | apply below_drew1) | exact HB.out))) hk_), (Kd.fresh' (Kd.N_lt (by (with_reducible repeat (first | apply Kd.N_alloc | apply Kd.N_drewN | apply Kd.N_drew)); exact HO104.out)) k_ hk_)⟩)) (below_size (by repeat (first | (with_reducible first | exact HB.out | apply below_alloc | apply pw_below_drewN | apply below_drew1) | exact HB.out)))); have n2_ := Aside0.mk (below_step (by repeat (first | (with_reducible first | exact HB.out | apply below_alloc | apply pw_below_drewN | apply below_drew1) | exact HB.out)) hb); clear HO104; clear HB; have HO104 := n0_; have HO108 := n1_; have HB := n2_; clear n0_ n1_ n2_; (try clear hb); (try clear hb2); (try clear hk); (try clear hi); (try clear ho0)))
   go_ret2
   exact ⟨_, by first | rfl | (simp [errW_none, errW_some] <;> rfl) | (simp [*, errW_none, errW_some] <;> rfl), by (with_reducible repeat (first | apply Kd.N_alloc | apply Kd.N_drewN | apply Kd.N_drew)); exact Kd.N_mono HO108.out (fun _ hk => hk.1), by repeat (first | (with_reducible first | exact HB.out | apply below_alloc | apply pw_below_drewN | apply below_drew1) | exact HB.out)⟩
  ·replace c7 := Bool.eq_false_iff.mpr c7
   subst c7
   have H1 : (some (([] : List (List Int)), 1)) = some (r1, r2) := by rw [if_neg (show ¬ (false = true) by decide)] at H; exact H
   clear H
   have H := H1
   clear H1
   simp only [Option.some.injEq, Prod.mk.injEq] at H
   obtain ⟨rfl, rfl⟩ := H
   go_enter Tryd.func54, Tryd.ntmps54
   go_wp2_with (first | ((with_reducible refine gate_callee (f := 34) rfl ?_); refine goesL_ (some 13) rfl rfl Tryd.func34 (by kernel_rfl) rfl #[.int .i64 a0, .int .i64 a1] rfl (by (try simp only [List.map_toArray, List.map_cons, List.map_nil]); first | done | rfl | (simp only [List.length_drop, List.length_take]; rfl)) ?_; (with_reducible refine (matrix_Cauchy.calls k a0 a1 t101 t102 _ A4.out).mono ?_); rintro e w13 ⟨v103, rfl, ho0, hb⟩; refine ⟨_, rfl, ?_⟩; have n0_ := Aside0.mk (Kd.N_lower (Kd.N_mono (ok' := fun k_ => (w.heap.size ≤ k_)) (Kd.S_N (Kd.S_bound ho0)) (fun k_ hk_ => (Nat.le_trans (below_size (by repeat (first | (with_reducible first | exact HB.out | apply below_alloc | apply pw_below_drewN | apply below_drew1) | exact HB.out))) hk_.2.1))) (below_size (by repeat (first | (with_reducible first | exact HB.out | apply below_alloc | apply pw_below_drewN | apply below_drew1) | exact HB.out)))); have n1_ := Aside0.mk (below_step (by repeat (first | (with_reducible first | exact HB.out | apply below_alloc | apply pw_below_drewN | apply below_drew1) | exact HB.out)) hb); clear HB; have HO104 := n0_; have HB := n1_; clear n0_ n1_; (try clear hb); (try clear hb2); (try clear hk); (try clear hi); (try clear ho0)) | (go_at_call 35; (with_reducible refine (code_even.calls _ _ l2 a0 false _ ?side1 ?side2 A6.out).mono ?_); (case side1 => repeat (first | exact (Kd.C_below HR2.out HB.out) | (with_reducible refine Kd.C_alloc ?_ _) | (with_reducible refine Kd.C_drewN ?_ _) | (with_reducible refine Kd.C_drew ?_))); (case side2 => exact HC2.out); rintro e w14 ⟨rfl, hb⟩; have n0_ := Aside0.mk (Kd.N_below (by (with_reducible repeat (first | apply Kd.N_alloc | apply Kd.N_drewN | apply Kd.N_drew)); exact HO104.out) hb); have n1_ := Aside0.mk (below_step (by repeat (first | (with_reducible first | exact HB.out | apply below_alloc | apply pw_below_drewN | apply below_drew1) | exact HB.out)) hb); clear HO104; clear HB; have HO104 := n0_; have HB := n1_; clear n0_ n1_; (try clear hb); (try clear hb2); (try clear hk); (try clear hi)))
   go_ret2
   exact ⟨_, by first | rfl | (simp [errW_none, errW_some] <;> rfl) | (simp [*, errW_none, errW_some] <;> rfl), by first | exact Kd.S_nil _ _ _ _ _ | exact Kd.N_nil _ _ _ _ _ | exact Kd.V_nil _ _ _ _ _ | exact Kd.Q_nil _ _ _ _ _ | exact Kd.R_nil _ _ _ _ _, by repeat (first | (with_reducible first | exact HB.out | apply below_alloc | apply pw_below_drewN | apply below_drew1) | exact HB.out)⟩
 ·rw [if_neg c5] at H
  have c5b0 : (t102 == 0) = false := beq_eq_false_iff_ne.mpr c5
  have c5b1 : (t102 != 0) = true := bne_iff_ne.mpr c5
  simp only [Option.some.injEq, Prod.mk.injEq] at H
  obtain ⟨rfl, rfl⟩ := H
  go_enter Tryd.func54, Tryd.ntmps54
  go_wp2_with (first | ((with_reducible refine gate_callee (f := 34) rfl ?_); refine goesL_ (some 13) rfl rfl Tryd.func34 (by kernel_rfl) rfl #[.int .i64 a0, .int .i64 a1] rfl (by (try simp only [List.map_toArray, List.map_cons, List.map_nil]); first | done | rfl | (simp only [List.length_drop, List.length_take]; rfl)) ?_; (with_reducible refine (matrix_Cauchy.calls k a0 a1 t101 t102 _ A4.out).mono ?_); rintro e w15 ⟨v103, rfl, ho0, hb⟩; refine ⟨_, rfl, ?_⟩; have n0_ := Aside0.mk (Kd.N_lower (Kd.N_mono (ok' := fun k_ => (w.heap.size ≤ k_)) (Kd.S_N (Kd.S_bound ho0)) (fun k_ hk_ => (Nat.le_trans (below_size (by repeat (first | (with_reducible first | exact HB.out | apply below_alloc | apply pw_below_drewN | apply below_drew1) | exact HB.out))) hk_.2.1))) (below_size (by repeat (first | (with_reducible first | exact HB.out | apply below_alloc | apply pw_below_drewN | apply below_drew1) | exact HB.out)))); have n1_ := Aside0.mk (below_step (by repeat (first | (with_reducible first | exact HB.out | apply below_alloc | apply pw_below_drewN | apply below_drew1) | exact HB.out)) hb); clear HB; have HO104 := n0_; have HB := n1_; clear n0_ n1_; (try clear hb); (try clear hb2); (try clear hk); (try clear hi); (try clear ho0)))
  go_ret2
  exact ⟨_, by first | rfl | (simp [errW_none, errW_some] <;> rfl) | (simp [*, errW_none, errW_some] <;> rfl), by first | exact Kd.S_nil _ _ _ _ _ | exact Kd.N_nil _ _ _ _ _ | exact Kd.V_nil _ _ _ _ _ | exact Kd.Q_nil _ _ _ _ _ | exact Kd.R_nil _ _ _ _ _, by repeat (first | (with_reducible first | exact HB.out | apply below_alloc | apply pw_below_drewN | apply below_drew1) | exact HB.out)⟩
end Go.Proofs.YtnfgiamdmfkcjaaDoor.P
namespace Go.Proofs.YtnfgiamdmfkcjaaDoor.Red
open Go.RowKit Go.Proofs.YtnfgiamdmfkcjaaDoorW.PrintWords Go.Proofs.YtnfgiamdmfkcjaaDoor.Leaf Go.Proofs.YtnfgiamdmfkcjaaDoor.Gf Go.Proofs.YtnfgiamdmfkcjaaDoor.H Go.Proofs.YtnfgiamdmfkcjaaDoor.Mx Go.Proofs.YtnfgiamdmfkcjaaDoor.P
set_option linter.unusedVariables false
set_option linter.unusedSimpArgs false
/-- A product on its way, row by row. -/
def stC (n m p : Nat) (A C : Mat) (i : Nat) (r : List B) : Mat := (List.range n).map fun a => if a < i then (List.range p).map (mm m (el A) (el C) a) else if a = i then r else []
def rwC (m p : Nat) (A C : Mat) (i k : Nat) : List B := (List.range p).map fun b => sm k (fun l => mul (el A i l) (el C l b))
theorem stC_length (n m p : Nat) (A C : Mat) (i : Nat) (r : List B) : (stC n m p A C i r).length = n := by simp [stC]
theorem row_stC (n m p : Nat) (A C : Mat) (i : Nat) (r : List B) (hi : i < n) : row (stC n m p A C i r) i = r := by
  unfold stC
  rw [row_map _ _ _ hi, if_neg (by omega), if_pos rfl]
theorem stC_set (n m p : Nat) (A C : Mat) (i : Nat) (r s : List B) (hi : i < n) : (stC n m p A C i r).set i s = stC n m p A C i s := by
  refine List.ext_getElem (by simp [stC]) fun a h1 h2 => ?_
  simp only [stC, List.getElem_set, List.getElem_map, List.getElem_range]
  by_cases e : i = a
  · subst e; simp
  · by_cases e2 : a < i
    · simp [e, e2]
    · simp [e, e2, Ne.symm e]
theorem stC_next (n m p : Nat) (A C : Mat) (i : Nat) : stC n m p A C i (rwC m p A C i m) = stC n m p A C (i + 1) [] := by
  refine List.ext_getElem (by simp [stC]) fun a h1 h2 => ?_
  simp only [stC, List.getElem_map, List.getElem_range]
  by_cases e : a < i
  · rw [if_pos e, if_pos (by omega)]
  · rw [if_neg e]
    by_cases e2 : a = i
    · rw [if_pos e2, if_pos (by omega), e2]; rfl
    · rw [if_neg e2, if_neg (by omega)]
      by_cases e3 : a = i + 1
      · rw [if_pos e3]
      · rw [if_neg e3]
theorem stC_all (n m p : Nat) (A C : Mat) : stC n m p A C n [] = matF n p (mm m (el A) (el C)) := by
  unfold stC matF
  exact List.map_congr_left fun a ha => if_pos (List.mem_range.1 ha)
theorem rwC_step (m p : Nat) (A C : Mat) (hC : Reg C m p) (i k : Nat) (hk : k < m) : am (rwC m p A C i k) (row C k) (el A i k) (rwC m p A C i k).length = rwC m p A C i (k + 1) := by
  refine ext0 (by rw [am_length]; simp [rwC]) fun b hb => ?_
  rw [am_length] at hb
  have hb' : b < p := by simpa [rwC] using hb
  rw [am_at _ _ _ _ hb]
  unfold rwC
  rw [at0_map _ _ _ hb', at0_map _ _ _ hb']
  simp only [sm]
  rw [mul_comm (el A i k)]
  rfl
theorem comb_l1 {n m p : Nat} {A C : Mat} (hA : Reg A n m) (hC : Reg C m p) (hn : n ≤ 255) (hm : m ≤ 255) (hp : p ≤ 140737488355327) (r : List (List Int)) (i : Nat) (hi : i < n)
    (hnext : Ev (fun k => code_combine.l0 k (oM C) (oM (stC n m p A C (i + 1) [])) (oM A) (n : Int) ((i + 1 : Nat) : Int)) r) (d : Nat) : ∀ k : Nat, k + d = m →
    Ev (fun f => code_combine.l1 f (oM C) (oM (stC n m p A C i (rwC m p A C i k))) (i : Int) (oM A) (n : Int) (i : Int) (ofL (row A i)) (m : Int) (k : Int)) r := by
  induction d with
  | zero =>
    intro k hk
    obtain rfl : k = m := by omega
    refine Ev.step (f := fun f => code_combine.l0 f (oM C) (oM (stC n k p A C (i + 1) [])) (oM A) (n : Int) ((i + 1 : Nat) : Int)) (fun f => ?_) hnext
    simp only [code_combine.l1]
    rw [if_neg (by omega), stC_next, w64 _ (by omega) (by omega)]
    rfl
  | succ d ih =>
    intro k hk
    have hl : (rwC m p A C i k).length = p := by simp [rwC]
    refine Ev.step (f := fun f => (gf_AddMul.f f (ofL (rwC m p A C i k)) (ofL (row C k)) (ofB (el A i k))).bind fun bt112 => code_combine.l1 f (oM C) ((oM (stC n m p A C i (rwC m p A C i k))).set i bt112.1) (i : Int) (oM A) (n : Int) (i : Int) (ofL (row A i)) (m : Int) ((k + 1 : Nat) : Int)) (fun f => ?_) ?_
    · simp only [code_combine.l1, ofL_length, oM_length, rd_oM, rd_ofL, hA.2 i hi, stC_length, hC.1, Int.toNat_natCast, row_stC _ _ _ _ _ _ _ hi]
      rw [if_pos (by omega), if_pos (by omega), if_pos (by omega), if_pos (by omega), if_pos (by omega), if_pos (by omega), w64 _ (by omega) (by omega)]
      rfl
    · refine Ev.bind (gfAddMul _ _ _ (by rw [hl]; omega)) ?_
      unfold addMulB
      rw [if_pos (by rw [hl, hC.2 k (by omega)])]
      simp only []
      rw [oM_set, stC_set _ _ _ _ _ _ _ _ hi, rwC_step m p A C hC i k (by omega)]
      exact ih (k + 1) (by omega)
theorem comb_l0 {n m p : Nat} {A C : Mat} (hA : Reg A n m) (hC : Reg C m p) (hn : n ≤ 255) (hm0 : 0 < m) (hm : m ≤ 255) (hp : p ≤ 140737488355327) (d : Nat) : ∀ i : Nat, i + d = n →
    Ev (fun k => code_combine.l0 k (oM C) (oM (stC n m p A C i [])) (oM A) (n : Int) (i : Int)) (oM (matF n p (mm m (el A) (el C)))) := by
  induction d with
  | zero =>
    intro i hi
    obtain rfl : i = n := by omega
    refine Ev.step (f := fun _ => some (oM (matF i p (mm m (el A) (el C))))) (fun k => ?_) (Ev.now _)
    simp only [code_combine.l0]
    rw [if_neg (by omega), stC_all]
  | succ d ih =>
    intro i hi
    refine Ev.step (f := fun f => code_combine.l1 f (oM C) (oM (stC n m p A C i (rwC m p A C i 0))) (i : Int) (oM A) (n : Int) (i : Int) (ofL (row A i)) (m : Int) ((0 : Nat) : Int)) (fun f => ?_) (comb_l1 hA hC hn hm hp _ i (by omega) (ih (i + 1) (by omega)) m 0 (by omega))
    simp only [code_combine.l0, oM_length, rd_oM, rd_oM0, ofL_length, hA.1, hA.2 i (by omega), hC.1, hC.2 0 hm0, stC_length, Int.toNat_natCast]
    have e : List.replicate p (0 : Int) = ofL (rwC m p A C i 0) := by
      rw [ofL_replicate]
      congr 1
      refine List.ext_getElem (by simp [rwC]) fun b h1 h2 => ?_
      simp [rwC, sm]
    rw [if_pos (by omega), if_pos (by omega), if_pos (by omega), if_pos (by omega), if_pos (by omega), if_pos (by omega), if_pos (by omega), e, oM_set, stC_set _ _ _ _ _ _ _ _ (by omega)]
    rfl
theorem evCombine {n m p : Nat} {A C : Mat} (hA : Reg A n m) (hC : Reg C m p) (hn : n ≤ 255) (hm0 : 0 < m) (hm : m ≤ 255) (hp : p ≤ 140737488355327) : Ev (fun k => code_combine.f k (oM A) (oM C)) (oM (mulM A C)) := by
  unfold code_combine.f
  simp only [oM_length, hA.1, Int.toNat_natCast, show ((0 : Int) ≤ (n : Int)) = True from eq_true (by omega), if_true, show (n ≤ 11728124029610) = True from eq_true (by omega)]
  have e : List.replicate n ([] : List Int) = oM (stC n m p A C 0 []) := by
    unfold oM
    refine List.ext_getElem (by simp [stC]) fun a h1 h2 => ?_
    simp [stC]
    rfl
  rw [e]
  have e2 : mulM A C = matF n p (mm m (el A) (el C)) := by unfold mulM; rw [hA.1, hC.1, hC.2 0 hm0]
  rw [e2]
  exact comb_l0 hA hC hn hm0 hm hp n 0 (by omega)
def evenB (D : Mat) (n : Int) : Bool := ((D.length : Int) == n) && (List.range D.length).all fun i => (row D i).length == (row D 0).length
theorem evenB_iff (D : Mat) (k : Nat) : evenB D (k : Int) = true ↔ Reg D k (row D 0).length := by
  unfold evenB Reg
  simp only [Bool.and_eq_true, beq_iff_eq, List.all_eq_true, List.mem_range]
  constructor
  · rintro ⟨h1, h2⟩
    have e : D.length = k := by omega
    exact ⟨e, fun i hi => h2 i (by omega)⟩
  · rintro ⟨h1, h2⟩
    exact ⟨by omega, fun i hi => h2 i (by omega)⟩
theorem code_even_eq (D : Mat) (n : Int) (hn : 0 < n) : code_even.f (oM D) n = some (evenB D n) := by
  unfold code_even.f evenB
  rw [oM_length, decide_eq_true hn, Bool.and_true]
  congr 1
  congr 1
  rw [List.not_any_eq_all_not]
  refine List.all_congr rfl ?_
  intro i
  unfold unevenAt
  have e : ∀ j, (oM D).getD j [] = ofL (row D j) := fun j => map_getD D j
  rw [e, e, ofL_length, ofL_length, Bool.eq_iff_iff]
  simp only [Bool.not_eq_true', bne_eq_false_iff_eq, beq_iff_eq]
  omega
theorem even_ok (D : Mat) (hs : D.length ≤ 9223372036854775807) (h : ∀ j, j < D.length → (row D j).length = (row D 0).length) (n : Nat) : ∀ i : Nat, i + n = D.length → Ev (fun k => mooringref03_even.l0 k (oM D) (i : Int)) true := by
  induction n with
  | zero =>
    intro i hi
    refine Ev.step (f := fun _ => some true) (fun k => ?_) (Ev.now _)
    simp only [mooringref03_even.l0, oM_length]
    rw [if_neg (by omega)]
  | succ n ih =>
    intro i hi
    have hi' := h i (by omega)
    refine Ev.step (f := fun k => mooringref03_even.l0 k (oM D) ((i + 1 : Nat) : Int)) (fun k => ?_) (ih (i + 1) (by omega))
    simp only [mooringref03_even.l0, oM_length, rd_oM, rd_oM0, ofL_length]
    rw [if_pos (by omega), if_pos (by omega), if_pos (by omega), if_pos (by omega), w64 _ (by omega) (by omega)]
    rfl
theorem even_bad (D : Mat) (hs : D.length ≤ 9223372036854775807) (j : Nat) (hj : j < D.length) (hne : (row D j).length ≠ (row D 0).length) (n : Nat) : ∀ i : Nat, i + n = j → Ev (fun k => mooringref03_even.l0 k (oM D) (i : Int)) false := by
  induction n with
  | zero =>
    intro i hi
    obtain rfl : i = j := by omega
    refine Ev.step (f := fun _ => some false) (fun k => ?_) (Ev.now _)
    simp only [mooringref03_even.l0, oM_length, rd_oM, rd_oM0, ofL_length]
    rw [if_pos (by omega), if_pos (by omega), if_pos (by omega), if_neg (by omega)]
  | succ n ih =>
    intro i hi
    by_cases he : (row D i).length = (row D 0).length
    · refine Ev.step (f := fun k => mooringref03_even.l0 k (oM D) ((i + 1 : Nat) : Int)) (fun k => ?_) (ih (i + 1) (by omega))
      simp only [mooringref03_even.l0, oM_length, rd_oM, rd_oM0, ofL_length]
      rw [if_pos (by omega), if_pos (by omega), if_pos (by omega), if_pos (by omega), w64 _ (by omega) (by omega)]
      rfl
    · refine Ev.step (f := fun _ => some false) (fun k => ?_) (Ev.now _)
      simp only [mooringref03_even.l0, oM_length, rd_oM, rd_oM0, ofL_length]
      rw [if_pos (by omega), if_pos (by omega), if_pos (by omega), if_neg (by omega)]
theorem evRefEven (D : Mat) (hs : D.length ≤ 9223372036854775807) (n : Int) : Ev (fun k => mooringref03_even.f k (oM D) n) (evenB D n) := by
  unfold mooringref03_even.f evenB
  simp only [oM_length]
  by_cases h1 : (D.length : Int) = n
  · simp only [h1, if_true, beq_self_eq_true, Bool.true_and]
    by_cases h2 : ∀ j, j < D.length → (row D j).length = (row D 0).length
    · rw [show ((List.range D.length).all fun i => (row D i).length == (row D 0).length) = true by simpa [List.all_eq_true] using h2]
      exact even_ok D hs h2 D.length 0 (by omega)
    · obtain ⟨j, hj, hne⟩ := uneven h2
      rw [show ((List.range D.length).all fun i => (row D i).length == (row D 0).length) = false by
        rw [List.all_eq_false]
        exact ⟨j, List.mem_range.2 hj, by simpa using hne⟩]
      exact even_bad D hs j hj hne j 0 (by omega)
  · simp only [h1, if_false]
    rw [beq_eq_false_iff_ne.2 h1, Bool.false_and]
    exact Ev.now _
def codeB (a b : Int) : Bool := decide (1 ≤ a) && decide (1 ≤ b) && decide (b ≤ 255 - a)
theorem code_eq (a b : Int) (ha : -9223372036854775808 ≤ a) : mooringref03_Code.f a b = some (codeB a b) := by
  unfold mooringref03_Code.f codeB
  by_cases h1 : a ≥ 1
  · rw [if_pos h1, decide_eq_true (show 1 ≤ a from h1)]
    by_cases h2 : b ≥ 1
    · rw [if_pos h2, decide_eq_true (show 1 ≤ b from h2)]
      by_cases h3 : a ≤ 254
      · rw [if_pos h3, w64 _ (by omega) (by omega)]; simp
      · rw [if_neg h3, decide_eq_false (by omega)]; rfl
    · rw [if_neg h2, decide_eq_false (show ¬ 1 ≤ b by omega)]; rw [Bool.and_false, Bool.false_and]
  · rw [if_neg h1, decide_eq_false (show ¬ 1 ≤ a by omega), Bool.false_and, Bool.false_and]
theorem codeB_form (a b : Int) : (codeB a b = true ∧ ∃ k m : Nat, a = (k : Int) ∧ b = (m : Int) ∧ 1 ≤ k ∧ 1 ≤ m ∧ k + m ≤ 255 ∧ cauR a b = (oM (cauM k m), 0)) ∨ (codeB a b = false ∧ cauR a b = (oM [], 1)) := by
  unfold codeB cauR
  by_cases h : 1 ≤ a ∧ 1 ≤ b ∧ b ≤ 255 - a
  · rw [if_pos h]
    exact .inl ⟨by simp [h], a.toNat, b.toNat, by omega, by omega, by omega, by omega, by omega, rfl⟩
  · rw [if_neg h]
    refine .inr ⟨?_, rfl⟩
    rw [← Bool.not_eq_true]
    simpa [and_assoc] using h
def encR (a b : Int) (D : Mat) : List (List Int) × Int := if codeB a b = true ∧ evenB D a = true then (oM (mulM (cauM a.toNat b.toNat) D), 0) else ([], 1)
theorem evEncode (a b : Int) (ha : -9223372036854775808 ≤ a) (D : Mat) (hr : ∀ i, i < D.length → (row D i).length ≤ 140737488355327) : Ev (fun k => code_Encode.f k a b (oM D)) (encR a b D) := by
  unfold code_Encode.f encR
  refine Ev.bind (evCauchy a b ha) ?_
  rcases codeB_form a b with ⟨h1, k, m, rfl, rfl, hk, hm, h, e⟩ | ⟨h1, e⟩
  · rw [e]
    simp only [if_true, h1, true_and, code_even_eq D (k : Int) (by omega), Option.bind_some]
    by_cases h2 : evenB D (k : Int) = true
    · simp only [h2, if_true, Int.toNat_natCast]
      have hD := (evenB_iff D k).1 h2
      refine Ev.bind (evCombine (cauM_reg k m) hD h (by omega) (by omega) (by have := hr 0 (by rw [hD.1]; omega); omega)) ?_
      exact Ev.now _
    · simp only [h2, if_false]
      exact Ev.now _
  · rw [e]
    simp only [h1, show ((1 : Int) = 0) = False from eq_false (by decide), if_false, Bool.false_eq_true, false_and]
    exact Ev.now _
theorem enc_l2 {n k p : Nat} {A D : Mat} (hA : Reg A n k) (hD : Reg D k p) (hk : k ≤ 255) (hp : p ≤ 140737488355327) (a0 a1 : Int) (ha : a0 = (k : Int)) (r : List (List Int) × Int) (X : List (List Int)) (i : Nat) (hi : i < n) (R : List B) (at_ : Nat) (hat : at_ < p) (hR : R.length = p)
    (hnext : Ev (fun f => mooringref03_Encode.l1 f a0 a1 (oM D) (oM A) X (i : Int) (ofL (R.set at_ (mm k (el A) (el D) i at_))) ((at_ + 1 : Nat) : Int)) r) (d : Nat) : ∀ j : Nat, j + d = k →
    Ev (fun f => mooringref03_Encode.l2 f a0 a1 (oM D) (oM A) X (i : Int) (ofL (R.set at_ (sm j (fun l => mul (el A i l) (el D l at_))))) (at_ : Int) (j : Int)) r := by
  induction d with
  | zero =>
    intro j hj
    obtain rfl : j = k := by omega
    refine Ev.step (f := fun f => mooringref03_Encode.l1 f a0 a1 (oM D) (oM A) X (i : Int) (ofL (R.set at_ (mm j (el A) (el D) i at_))) ((at_ + 1 : Nat) : Int)) (fun f => ?_) hnext
    simp only [mooringref03_Encode.l2, ha]
    rw [if_neg (by omega), w64 _ (by omega) (by omega)]
    rfl
  | succ d ih =>
    intro j hj
    refine Ev.step (f := fun f => (mooringref01_Mul.f f (ofB (el A i j)) (ofB (el D j at_))).bind fun t122 => mooringref03_Encode.l2 f a0 a1 (oM D) (oM A) X (i : Int) ((ofL (R.set at_ (sm j (fun l => mul (el A i l) (el D l at_))))).set at_ (Go.bits .xor .u8 (ofB (sm j (fun l => mul (el A i l) (el D l at_)))) t122)) (at_ : Int) ((j + 1 : Nat) : Int)) (fun f => ?_) ?_
    · have e : at0 (R.set at_ (sm j (fun l => mul (el A i l) (el D l at_)))) at_ = sm j (fun l => mul (el A i l) (el D l at_)) := by rw [at0_set _ _ _ _ (by omega), if_pos rfl]
      simp only [mooringref03_Encode.l2, oM_length, hA.1, hD.1, rd_oM, rd_ofL, ofL_length, List.length_set, hA.2 i hi, hD.2 j (by omega), hR, Int.toNat_natCast, e, ha]
      rw [if_pos (by omega), if_pos (by omega), if_pos (by omega), if_pos (by omega), if_pos (by omega), if_pos (by omega), if_pos (by omega), if_pos (by omega), if_pos (by omega), w64 _ (by omega) (by omega)]
      rfl
    · refine Ev.bind (refMul _ _) ?_
      rw [xor_ofB, ofL_set, List.set_set]
      exact ih (j + 1) (by omega)
def rwE (k p : Nat) (A D : Mat) (i at_ : Nat) : List B := (List.range p).map fun b => if b < at_ then mm k (el A) (el D) i b else 0#8
theorem rwE_set (k p : Nat) (A D : Mat) (i at_ : Nat) (h : at_ < p) : (rwE k p A D i at_).set at_ (mm k (el A) (el D) i at_) = rwE k p A D i (at_ + 1) := by
  refine ext0 (by simp [rwE]) fun b hb => ?_
  rw [List.length_set] at hb
  have hb' : b < p := by simpa [rwE] using hb
  have e : ∀ c, at0 (rwE k p A D i c) b = if b < c then mm k (el A) (el D) i b else 0#8 := fun c => at0_map _ _ _ hb'
  rw [at0_set _ _ _ _ (by simpa [rwE] using h), e, e]
  by_cases e1 : at_ = b
  · subst e1
    rw [if_pos rfl, if_pos (by omega)]
  · rw [if_neg e1]
    by_cases e2 : b < at_
    · rw [if_pos e2, if_pos (by omega)]
    · rw [if_neg e2, if_neg (by omega)]
theorem rwE_zero (k p : Nat) (A D : Mat) (i at_ : Nat) (h : at_ < p) : (rwE k p A D i at_).set at_ 0#8 = rwE k p A D i at_ := by
  refine ext0 (by simp [rwE]) fun b hb => ?_
  rw [List.length_set] at hb
  have hb' : b < p := by simpa [rwE] using hb
  have e : ∀ c, at0 (rwE k p A D i c) b = if b < c then mm k (el A) (el D) i b else 0#8 := fun c => at0_map _ _ _ hb'
  rw [at0_set _ _ _ _ (by simpa [rwE] using h), e]
  by_cases e1 : at_ = b
  · rw [if_pos e1, if_neg (by omega)]
  · rw [if_neg e1]
theorem enc_l1 {n k p : Nat} {A D : Mat} (hA : Reg A n k) (hD : Reg D k p) (hn : n ≤ 255) (hk : k ≤ 255) (hp : p ≤ 140737488355327) (a0 a1 : Int) (ha : a0 = (k : Int)) (r : List (List Int) × Int) (i : Nat) (hi : i < n)
    (hnext : Ev (fun f => mooringref03_Encode.l0 f a0 a1 (oM D) (oM A) (oM (matF (i + 1) p (mm k (el A) (el D)))) ((i + 1 : Nat) : Int)) r) (d : Nat) : ∀ at_ : Nat, at_ + d = p →
    Ev (fun f => mooringref03_Encode.l1 f a0 a1 (oM D) (oM A) (oM (matF i p (mm k (el A) (el D)))) (i : Int) (ofL (rwE k p A D i at_)) (at_ : Int)) r := by
  induction d with
  | zero =>
    intro at_ hat
    obtain rfl : at_ = p := by omega
    refine Ev.step (f := fun f => mooringref03_Encode.l0 f a0 a1 (oM D) (oM A) (oM (matF (i + 1) at_ (mm k (el A) (el D)))) ((i + 1 : Nat) : Int)) (fun f => ?_) hnext
    have hl : (rwE k at_ A D i at_).length = at_ := by simp [rwE]
    have e : rwE k at_ A D i at_ = (List.range at_).map (mm k (el A) (el D) i) := List.map_congr_left fun b hb => if_pos (List.mem_range.1 hb)
    have e2 : matF i at_ (mm k (el A) (el D)) ++ [(List.range at_).map (mm k (el A) (el D) i)] = matF (i + 1) at_ (mm k (el A) (el D)) := by unfold matF; rw [List.range_succ, List.map_append]; rfl
    simp only [mooringref03_Encode.l1, ofL_length, hl, oM_length, (matF_reg i at_ (mm k (el A) (el D))).1]
    rw [if_neg (by omega), if_pos (by omega), oM_one, oM_append, e, e2, w64 _ (by omega) (by omega)]
    rfl
  | succ d ih =>
    intro at_ hat
    have hl : (rwE k p A D i at_).length = p := by simp [rwE]
    refine Ev.step (f := fun f => mooringref03_Encode.l2 f a0 a1 (oM D) (oM A) (oM (matF i p (mm k (el A) (el D)))) (i : Int) (ofL ((rwE k p A D i at_).set at_ (sm 0 (fun l => mul (el A i l) (el D l at_))))) (at_ : Int) ((0 : Nat) : Int)) (fun f => ?_) (enc_l2 hA hD hk hp a0 a1 ha r _ i hi _ at_ (by omega) hl ?_ k 0 (by omega))
    · simp only [mooringref03_Encode.l1, ofL_length, hl, sm, rwE_zero k p A D i at_ (by omega)]
      rw [if_pos (by omega)]
      rfl
    · rw [rwE_set k p A D i at_ (by omega)]
      exact ih (at_ + 1) (by omega)
theorem enc_l0 {n k p : Nat} {A D : Mat} (hA : Reg A n k) (hD : Reg D k p) (hn : n ≤ 255) (hk0 : 0 < k) (hk : k ≤ 255) (hp : p ≤ 140737488355327) (a0 a1 : Int) (ha : a0 = (k : Int)) (hw : wrap64 (a0 + a1) = (n : Int)) (d : Nat) : ∀ i : Nat, i + d = n →
    Ev (fun f => mooringref03_Encode.l0 f a0 a1 (oM D) (oM A) (oM (matF i p (mm k (el A) (el D)))) (i : Int)) (oM (matF n p (mm k (el A) (el D))), 0) := by
  induction d with
  | zero =>
    intro i hi
    obtain rfl : i = n := by omega
    refine Ev.step (f := fun _ => some (oM (matF i p (mm k (el A) (el D))), 0)) (fun f => ?_) (Ev.now _)
    simp only [mooringref03_Encode.l0, hw]
    rw [if_neg (by omega)]
  | succ d ih =>
    intro i hi
    refine Ev.step (f := fun f => mooringref03_Encode.l1 f a0 a1 (oM D) (oM A) (oM (matF i p (mm k (el A) (el D)))) (i : Int) (ofL (rwE k p A D i 0)) ((0 : Nat) : Int)) (fun f => ?_) (enc_l1 hA hD hn hk hp a0 a1 ha _ i (by omega) (ih (i + 1) (by omega)) p 0 (by omega))
    have e : List.replicate p (0 : Int) = ofL (rwE k p A D i 0) := by
      rw [ofL_replicate]
      congr 1
      refine List.ext_getElem (by simp [rwE]) fun b h1 h2 => ?_
      simp [rwE]
    simp only [mooringref03_Encode.l0, hw, oM_length, hD.1, rd_oM0, ofL_length, hD.2 0 hk0, Int.toNat_natCast]
    rw [if_pos (by omega), if_pos (by omega), if_pos (by omega), if_pos (by omega), e]
    rfl
theorem evRefEncode (a b : Int) (ha : -9223372036854775808 ≤ a) (D : Mat) (hs : D.length ≤ 9223372036854775807) (hr : ∀ i, i < D.length → (row D i).length ≤ 140737488355327) : Ev (fun k => mooringref03_Encode.f k a b (oM D)) (encR a b D) := by
  have j1 : Ev (fun f => mooringref03_Encode.j0 f a b (oM D) true) ([], 1) := Ev.step (f := fun _ => some ([], 1)) (fun f => by simp only [mooringref03_Encode.j0, if_true]) (Ev.now _)
  unfold mooringref03_Encode.f encR
  simp only [code_eq a b ha, Option.bind_some]
  rcases codeB_form a b with ⟨h1, k, m, rfl, rfl, hk, hm, h, e⟩ | ⟨h1, e⟩
  · simp only [h1, if_true, true_and]
    refine Ev.bind (evRefEven D hs (k : Int)) ?_
    by_cases h2 : evenB D (k : Int) = true
    · simp only [h2, if_true, Bool.not_true, Int.toNat_natCast]
      have hD := (evenB_iff D k).1 h2
      refine Ev.step (f := fun f => (mooringref02_Cauchy.f f (k : Int) (m : Int)).bind fun bt103 => mooringref03_Encode.l0 f (k : Int) (m : Int) (oM D) bt103.1 [] 0) (fun f => by simp only [mooringref03_Encode.j0, Bool.false_eq_true, if_false]) ?_
      refine Ev.bind (evRefCauchy (k : Int) (m : Int) (by omega)) ?_
      rw [e]
      simp only []
      have e2 : mulM (cauM k m) D = matF (k + m) (row D 0).length (mm k (el (cauM k m)) (el D)) := by unfold mulM; rw [(cauM_reg k m).1, hD.1]
      rw [e2]
      exact enc_l0 (cauM_reg k m) hD h (by omega) (by omega) (by have := hr 0 (by rw [hD.1]; omega); omega) (k : Int) (m : Int) rfl (by rw [w64 _ (by omega) (by omega)]; omega) (k + m) 0 (by omega)
    · simp only [h2, Bool.false_eq_true, if_false, Bool.not_false]
      exact j1
  · simp only [h1, Bool.false_eq_true, if_false, false_and]
    exact j1
end Go.Proofs.YtnfgiamdmfkcjaaDoor.Red
namespace Go.Proofs.YtnfgiamdmfkcjaaDoor.P
open Go.Proofs.YtnfgiamdmfkcjaaDoor.Leaf
open Go.RowKit Go.Proofs.YtnfgiamdmfkcjaaDoorW.PrintWords Go.Proofs.YtnfgiamdmfkcjaaDoorW.PrintLast Go.Proofs.YtnfgiamdmfkcjaaDoorW.PrintMore
attribute [local go_sem] max2_int min2_int max_two min_two max_three min_three max_four min_four   -- for this text's walks alone
set_option linter.unusedVariables false
set_option linter.unusedSimpArgs false
def stripe_is.f (a0 : Int) (a1 : Int) : Option (Bool) := if a0 ≥ 1 then (if a1 ≥ 1 then (if a0 ≤ 254 then (some (decide (a1 ≤ (wrap64 (255 - a0))))) else (some false)) else (some false)) else (some false)
set_option maxHeartbeats 8000000 in
set_option maxRecDepth 100000 in
theorem stripe_is.calls (a0 : Int) (a1 : Int) (r : Bool) (w : World) (h : stripe_is.f a0 a1 = some r) :
  Calls Tryd.prog 32 #[.int .i64 a0, .int .i64 a1] w fun e w' => e = .returned (.bool r) ∧ Drawn0 w w' := by
 have H : (if a0 ≥ 1 then (if a1 ≥ 1 then (if a0 ≤ 254 then (some (decide (a1 ≤ (wrap64 (255 - a0))))) else (some false)) else (some false)) else (some false)) = some r := h
 clear h
 by_cases c3 : a0 ≥ 1
 ·rw [if_pos c3] at H
  have c3b0 : decide (1 ≤ a0) = true := decide_eq_true c3
  clear c3
  by_cases c4 : a1 ≥ 1
  ·rw [if_pos c4] at H
   have c4b0 : decide (1 ≤ a1) = true := decide_eq_true c4
   clear c4
   by_cases c5 : a0 ≤ 254
   ·rw [if_pos c5] at H
    have c5b0 : decide (a0 ≤ 254) = true := decide_eq_true c5
    clear c5
    obtain rfl := Option.some.inj H
    go_enter Tryd.func32, Tryd.ntmps32
    go_wp2
    go_ret
    exact ⟨by first | rfl | (simp; done) | (simp [*]; done), by repeat (first | exact Drawn0.refl _ | apply Drawn0.step)⟩
   ·rw [if_neg c5] at H
    have c5b0 : decide (a0 ≤ 254) = false := decide_eq_false c5
    clear c5
    obtain rfl := Option.some.inj H
    go_enter Tryd.func32, Tryd.ntmps32
    go_wp2
    go_ret
    exact ⟨by first | rfl | (simp; done) | (simp [*]; done), by repeat (first | exact Drawn0.refl _ | apply Drawn0.step)⟩
  ·rw [if_neg c4] at H
   have c4b0 : decide (1 ≤ a1) = false := decide_eq_false c4
   clear c4
   obtain rfl := Option.some.inj H
   go_enter Tryd.func32, Tryd.ntmps32
   go_wp2
   go_ret
   exact ⟨by first | rfl | (simp; done) | (simp [*]; done), by repeat (first | exact Drawn0.refl _ | apply Drawn0.step)⟩
 ·rw [if_neg c3] at H
  have c3b0 : decide (1 ≤ a0) = false := decide_eq_false c3
  clear c3
  obtain rfl := Option.some.inj H
  go_enter Tryd.func32, Tryd.ntmps32
  go_wp2
  go_ret
  exact ⟨by first | rfl | (simp; done) | (simp [*]; done), by repeat (first | exact Drawn0.refl _ | apply Drawn0.step)⟩
end Go.Proofs.YtnfgiamdmfkcjaaDoor.P
namespace Go.Proofs.YtnfgiamdmfkcjaaDoor.Red
open Go.RowKit Go.Proofs.YtnfgiamdmfkcjaaDoorW.PrintWords Go.Proofs.YtnfgiamdmfkcjaaDoor.Leaf Go.Proofs.YtnfgiamdmfkcjaaDoor.Gf Go.Proofs.YtnfgiamdmfkcjaaDoor.H Go.Proofs.YtnfgiamdmfkcjaaDoor.Mx Go.Proofs.YtnfgiamdmfkcjaaDoor.P
set_option linter.unusedVariables false
set_option linter.unusedSimpArgs false
/-- How many stripes. -/
def nS (k n : Nat) : Nat := (n + k * 16 - 1) / (k * 16)
def lenS (k n : Nat) : Nat := nS k n * 16
theorem nS_spec (k n : Nat) (hk : 0 < k) : n ≤ nS k n * (k * 16) ∧ ∀ s, s < nS k n → s * (k * 16) < n := by
  unfold nS
  have hp : 0 < k * 16 := by omega
  constructor
  · have h1 := Nat.div_add_mod (n + k * 16 - 1) (k * 16)
    have h2 := Nat.mod_lt (n + k * 16 - 1) hp
    rw [Nat.mul_comm] at h1
    omega
  · intro s hs
    have h1 : (s + 1) * (k * 16) ≤ n + k * 16 - 1 := Nat.le_trans (Nat.mul_le_mul_right _ hs) (Nat.div_mul_le_self _ _)
    rw [Nat.add_mul, Nat.one_mul] at h1
    omega
theorem nS_le (k n : Nat) (hk : 0 < k) : nS k n ≤ n := by
  apply Classical.byContradiction
  intro h
  have h1 := (nS_spec k n hk).2 n (by omega)
  have h2 : n * 1 ≤ n * (k * 16) := Nat.mul_le_mul_left _ (by omega)
  omega
def lenR (a b : Int) : Int × Int := if 1 ≤ a ∧ a ≤ 254 ∧ 0 ≤ b then (if b > 4096 then (0, 3) else ((lenS a.toNat b.toNat : Nat), 0)) else (0, 1)
theorem evLength (a b : Int) : Ev (fun f => stripe_Length.f f a b) (lenR a b) := by
  have j1 : Ev (fun f => stripe_Length.j0 f a b true) (0, 1) := Ev.step (f := fun _ => some (0, 1)) (fun f => by simp only [stripe_Length.j0, if_true]) (Ev.now _)
  unfold stripe_Length.f lenR
  by_cases h1 : a < 1
  · simp only [show (a < 1) = True from eq_true h1, if_true]
    rw [if_neg (by omega)]
    exact j1
  simp only [show (a < 1) = False from eq_false h1, if_false]
  by_cases h2 : a > 254
  · simp only [show (a > 254) = True from eq_true h2, if_true]
    rw [if_neg (by omega)]
    exact j1
  simp only [show (a > 254) = False from eq_false h2, if_false]
  by_cases h3 : b < 0
  · simp only [show decide (b < 0) = true from decide_eq_true h3]
    rw [if_neg (by omega)]
    exact j1
  simp only [show decide (b < 0) = false from decide_eq_false h3]
  rw [if_pos (by omega)]
  by_cases h4 : b > 4096
  · rw [if_pos h4]
    exact Ev.step (f := fun _ => some (0, 3)) (fun f => by simp only [stripe_Length.j0, Bool.false_eq_true, if_false]; rw [if_pos h4]) (Ev.now _)
  · rw [if_neg h4]
    obtain ⟨k, rfl⟩ := Int.eq_ofNat_of_zero_le (show 0 ≤ a by omega)
    obtain ⟨n, rfl⟩ := Int.eq_ofNat_of_zero_le (show 0 ≤ b by omega)
    rw [Int.toNat_natCast, Int.toNat_natCast]
    refine Ev.step (f := fun _ => some (((lenS k n : Nat) : Int), 0)) (fun f => ?_) (Ev.now _)
    simp only [stripe_Length.j0, Bool.false_eq_true, if_false, stripe_stripes.f]
    rw [if_neg h4, w64 ((k : Int) * 16) (by omega) (by omega), if_neg (by omega), Option.bind_some, w64 ((n : Int) + (k : Int) * 16) (by omega) (by omega), w64 ((n : Int) + (k : Int) * 16 - 1) (by omega) (by omega), Int.tdiv_eq_ediv_of_nonneg (by omega)]
    have hq : ((n : Int) + (k : Int) * 16 - 1) / ((k : Int) * 16) = ((nS k n : Nat) : Int) := by
      unfold nS
      rw [Int.natCast_ediv]
      congr 1
      omega
    have hle := nS_le k n (by omega)
    rw [hq, w64 (nS k n : Int) (by omega) (by omega), w64 _ (by omega) (by omega)]
    unfold lenS
    rw [Int.natCast_mul]
    rfl
theorem is_eq (a b : Int) : stripe_is.f a b = some (codeB a b) := by
  unfold stripe_is.f codeB
  by_cases h1 : a ≥ 1
  · rw [if_pos h1, decide_eq_true (show 1 ≤ a from h1)]
    by_cases h2 : b ≥ 1
    · rw [if_pos h2, decide_eq_true (show 1 ≤ b from h2)]
      by_cases h3 : a ≤ 254
      · rw [if_pos h3, w64 _ (by omega) (by omega)]; simp
      · rw [if_neg h3, decide_eq_false (by omega)]; rfl
    · rw [if_neg h2, decide_eq_false (show ¬ 1 ≤ b by omega)]; rw [Bool.and_false, Bool.false_and]
  · rw [if_neg h1, decide_eq_false (show ¬ 1 ≤ a by omega), Bool.false_and, Bool.false_and]
theorem refLen_l0 (k n : Nat) (hk : 0 < k) (hk2 : k ≤ 254) (hn : n ≤ 4096) (d : Nat) : ∀ s : Nat, s + d = nS k n → Ev (fun f => mooringref20_Length.l0 f (k : Int) (n : Int) (s : Int)) (((lenS k n : Nat) : Int), 0) := by
  have hle := nS_le k n hk
  have hmul : ∀ s : Nat, s ≤ 4096 → wrap64 ((wrap64 ((s : Int) * (k : Int))) * 16) = ((s * (k * 16) : Nat) : Int) := by
    intro s hs
    have h1 : s * k ≤ 4096 * 254 := Nat.mul_le_mul hs hk2
    rw [show ((s : Int) * (k : Int)) = ((s * k : Nat) : Int) by rw [Int.natCast_mul], w64 ((s * k : Nat) : Int) (by omega) (by omega), w64 _ (by omega) (by omega), ← Nat.mul_assoc, Int.natCast_mul (s * k) 16]
    rfl
  induction d with
  | zero =>
    intro s hs
    obtain rfl : s = nS k n := by omega
    refine Ev.step (f := fun _ => some (((lenS k n : Nat) : Int), 0)) (fun f => ?_) (Ev.now _)
    simp only [mooringref20_Length.l0]
    rw [hmul _ (by omega), if_neg (by have := (nS_spec k n hk).1; omega), w64 _ (by omega) (by omega)]
    unfold lenS
    rw [Int.natCast_mul]
    rfl
  | succ d ih =>
    intro s hs
    refine Ev.step (f := fun f => mooringref20_Length.l0 f (k : Int) (n : Int) ((s + 1 : Nat) : Int)) (fun f => ?_) (ih (s + 1) (by omega))
    simp only [mooringref20_Length.l0]
    rw [hmul _ (by omega), if_pos (by have := (nS_spec k n hk).2 s (by omega); omega), w64 _ (by omega) (by omega)]
    rfl
theorem evRefLength (a b : Int) : Ev (fun f => mooringref20_Length.f f a b) (lenR a b) := by
  have j1 : Ev (fun f => mooringref20_Length.j0 f a b true) (0, 1) := Ev.step (f := fun _ => some (0, 1)) (fun f => by simp only [mooringref20_Length.j0, if_true]) (Ev.now _)
  unfold mooringref20_Length.f lenR
  by_cases h1 : a < 1
  · simp only [show (a < 1) = True from eq_true h1, if_true]
    rw [if_neg (by omega)]
    exact j1
  simp only [show (a < 1) = False from eq_false h1, if_false]
  by_cases h2 : a > 254
  · simp only [show (a > 254) = True from eq_true h2, if_true]
    rw [if_neg (by omega)]
    exact j1
  simp only [show (a > 254) = False from eq_false h2, if_false]
  by_cases h3 : b < 0
  · simp only [show decide (b < 0) = true from decide_eq_true h3]
    rw [if_neg (by omega)]
    exact j1
  simp only [show decide (b < 0) = false from decide_eq_false h3]
  rw [if_pos (by omega)]
  by_cases h4 : b > 4096
  · rw [if_pos h4]
    exact Ev.step (f := fun _ => some (0, 3)) (fun f => by simp only [mooringref20_Length.j0, Bool.false_eq_true, if_false]; rw [if_pos h4]) (Ev.now _)
  · rw [if_neg h4]
    obtain ⟨k, rfl⟩ := Int.eq_ofNat_of_zero_le (show 0 ≤ a by omega)
    obtain ⟨n, rfl⟩ := Int.eq_ofNat_of_zero_le (show 0 ≤ b by omega)
    rw [Int.toNat_natCast, Int.toNat_natCast]
    exact Ev.step (f := fun f => mooringref20_Length.l0 f (k : Int) (n : Int) ((0 : Nat) : Int)) (fun f => by simp only [mooringref20_Length.j0, Bool.false_eq_true, if_false]; rw [if_neg h4]; rfl) (refLen_l0 k n (by omega) (by omega) (by omega) (nS k n) 0 (by omega))
end Go.Proofs.YtnfgiamdmfkcjaaDoor.Red
namespace Go.Proofs.YtnfgiamdmfkcjaaDoor.H
open Go.RowKit Go.Proofs.YtnfgiamdmfkcjaaDoorW.PrintWords Go.Proofs.YtnfgiamdmfkcjaaDoor.Leaf Go.Proofs.YtnfgiamdmfkcjaaDoor.Gf
set_option linter.unusedVariables false
set_option linter.unusedSimpArgs false
def byteRow (l : List Int) : Bool := l.all fun x => decide (0 ≤ x) && decide (x < 256)
theorem byteRow_ofL (L : List B) : byteRow (ofL L) = true := by
  unfold byteRow ofL
  simp only [List.all_map, List.all_eq_true, Function.comp, Bool.and_eq_true, decide_eq_true_eq]
  exact fun x _ => ofB_range x
theorem ofL_toB (l : List Int) (h : byteRow l = true) : ofL (l.map toB) = l := by
  unfold ofL
  rw [List.map_map]
  refine (List.map_congr_left fun x hx => ?_).trans (List.map_id' l)
  have := List.all_eq_true.1 h x hx
  simp only [Bool.and_eq_true, decide_eq_true_eq] at this
  exact ofB_toB x this.1 this.2
end Go.Proofs.YtnfgiamdmfkcjaaDoor.H
