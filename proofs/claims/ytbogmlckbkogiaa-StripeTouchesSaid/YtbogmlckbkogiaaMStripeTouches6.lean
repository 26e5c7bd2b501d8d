/- stripe.Split, part one: rows laid one behind the other in memory of the call's own, a copy into one of them, and what is dealt out. Conditions: none. -/
import Derived.Test.YtbogmlckbkogiaaMStripeTouches2
import Derived.Laws.CopyOwn
import Derived.Test.YtbogmlckbkogiaaMStripeTouches5
import Derived.StillTailTactics
import Derived.Test.YtbogmlckbkogiaaMStripeTouches1
import Derived.Test.YtbogmlckbkogiaaMStripeTouches4
import Derived.StillTactics
import Derived.OpenShut
namespace Go.Proofs.Ytbogmlckbkogiaa.H
open Go.RowKit Go.Proofs.YtbogmlckbkogiaaW.PrintWords Go.Proofs.Ytbogmlckbkogiaa.Leaf Go.Proofs.Ytbogmlckbkogiaa.Gf Go.Proofs.Ytbogmlckbkogiaa.Red
set_option linter.unusedVariables false
set_option linter.unusedSimpArgs false
/-- An outer row of k places, the first ones laid. -/
structure Mp (w : World) (base g cp k : Nat) (id cap : Nat → Nat) (A : List (List Int)) : Prop where
  outer : ∃ fc : Nat → Value, w.ownsRow base 22 1 (.slice (some ⟨g, 0, none⟩) k cp) k (encs (fun j => if j < A.length then sl id cap A j else fc j) (List.range k))
  rows : ∀ i, i < A.length → Rw w base (id i) (cap i) (A.getD i [])
  inj : ∀ i j, i < A.length → j < A.length → id i = id j → i = j
  le : A.length ≤ k
section
variable {w w0 w1 : World} {base g cp k b c : Nat} {id cap : Nat → Nat} {A : List (List Int)} {r : List Int}
theorem Mp.typed (h : Mp w base g cp k id cap A) : ∃ cells, w.heap[g]? = some (.cells cells 22 (0, 0)) := by obtain ⟨fc, ho⟩ := h.outer; exact own_typed ho g rfl
theorem Mp.gbase (h : Mp w base g cp k id cap A) : base ≤ g := by obtain ⟨fc, ho⟩ := h.outer; exact own_base ho g rfl
theorem Mp.glt (h : Mp w base g cp k id cap A) : g < w.heap.size := by obtain ⟨fc, ho⟩ := h.outer; exact own_lt ho g rfl
theorem Mp.ne (h : Mp w base g cp k id cap A) (h2 : Rw w base b c r) : b ≠ g := by
  obtain ⟨cs, hc⟩ := h.typed
  obtain ⟨cs', hc'⟩ := h2.typed
  rintro rfl
  rw [hc] at hc'
  simp at hc'
theorem Mp.move (h : Mp w base g cp k id cap A) (hm : ∀ q, (q = g ∨ ∃ i, i < A.length ∧ q = id i) → w1.heap[q]? = w.heap[q]?) : Mp w1 base g cp k id cap A := by
  obtain ⟨fc, ho⟩ := h.outer
  exact ⟨⟨fc, own_move ho (fun q hq => hm q (.inl (by simpa [Value.ownBlock] using hq.symm)))⟩, fun i hi => own_move (h.rows i hi) (fun q hq => hm q (.inr ⟨i, hi, by simpa [Value.ownBlock] using hq.symm⟩)), h.inj, h.le⟩
theorem Mp.lt (h : Mp w base g cp k id cap A) (q : Nat) (hq : q = g ∨ ∃ i, i < A.length ∧ q = id i) : q < w.heap.size ∧ base ≤ q := by
  rcases hq with rfl | ⟨i, hi, rfl⟩
  · exact ⟨h.glt, h.gbase⟩
  · exact ⟨(h.rows i hi).lt, (h.rows i hi).base_⟩
theorem Mp.below (h : Mp w base g cp k id cap A) (hb : Below w.heap.size w w1) : Mp w1 base g cp k id cap A := h.move (fun q hq => hb.block q (h.lt q hq).1)
theorem Mp.at_ (h : Mp w base g cp k id cap A) (i : Nat) (hi : i < A.length) : w.cell? ⟨g, i, none⟩ = some (sl id cap A i) ∧ w.frozen? ⟨g, i, none⟩ = false := by
  obtain ⟨fc, ho⟩ := h.outer
  have hk := h.le
  have := own_at_of (d := 0) ho (i : Int) (by omega) (by omega)
  simpa [rdOf, List.getD_eq_getElem?_getD, List.getElem?_range (show i < k by omega), hi] using this
theorem Mp.free (h : Mp w base g cp k id cap A) (i : Nat) (hi : i < k) : (∃ u, w.cell? ⟨g, i, none⟩ = some u) ∧ w.frozen? ⟨g, i, none⟩ = false := by
  obtain ⟨fc, ho⟩ := h.outer
  have := own_at_of (d := 0) ho (i : Int) (by omega) (by omega)
  exact ⟨⟨_, by simpa using this.1⟩, by simpa using this.2⟩
theorem Mp.start {v : Value} {ok : Nat → Prop} (h : Kd.S (Kd.slice 5 (Kd.int .u8)) 22 w base ok v (List.replicate k [])) (hk : 0 < k) : ∃ g cp, v = .slice (some ⟨g, 0, none⟩) k cp ∧ Mp w base g cp k (fun _ => 0) (fun _ => 0) [] := by
  obtain ⟨g, cp, e, _⟩ := Kd.S_form h (by rw [List.length_replicate]; exact hk)
  rw [List.length_replicate] at e
  obtain ⟨inner, ho⟩ := Kd.S_own h
  rw [List.length_replicate, e] at ho
  refine ⟨g, cp, e, ⟨⟨fun j => inner.getD j undef, ?_⟩, fun i hi => absurd hi (Nat.not_lt_zero _), fun i j hi => absurd hi (Nat.not_lt_zero _), Nat.zero_le _⟩⟩
  have hl : inner.length = k := by have := ho.1; rw [show (Kd.slice 5 (Kd.int .u8)).sz = 1 from rfl] at this; omega
  have e2 : inner = encs (fun j => if j < ([] : List (List Int)).length then sl (fun _ => 0) (fun _ => 0) [] j else inner.getD j undef) (List.range k) := by
    unfold encs
    refine List.ext_getElem (by simp [hl]) fun j h1 h2 => ?_
    simp [List.getD_eq_getElem?_getD, h1]
  rw [← e2]
  exact ho
theorem Mp.add (h : Mp w base g cp k id cap A) (hi : A.length < k) (hr : Rw w base b c r) (hb : ∀ j, j < A.length → id j ≠ b) :
    Mp (w.setCell ⟨g, A.length, none⟩ (.slice (some ⟨b, 0, none⟩) r.length c)) base g cp k (up id A.length b) (up cap A.length c) (A ++ [r]) := by
  obtain ⟨fc, ho⟩ := h.outer
  have hbg := h.ne hr
  have hget : ∀ j, j < A.length → (A ++ [r]).getD j [] = A.getD j [] := fun j hj => by simp [List.getD_eq_getElem?_getD, List.getElem?_append_left hj]
  have hlast : (A ++ [r]).getD A.length [] = r := by simp [List.getD_eq_getElem?_getD]
  refine ⟨⟨fc, ?_⟩, fun i hi2 => ?_, fun i j hi2 hj2 => ?_, by rw [List.length_append]; simp; omega⟩
  · have := (ho.stored A.length (.slice (some ⟨b, 0, none⟩) r.length c)).1
    have e : (encs (fun j => if j < A.length then sl id cap A j else fc j) (List.range k)).set A.length (.slice (some ⟨b, 0, none⟩) r.length c) = encs (fun j => if j < (A ++ [r]).length then sl (up id A.length b) (up cap A.length c) (A ++ [r]) j else fc j) (List.range k) := by
      refine encs_set hi ?_ (fun j hj hne => ?_)
      · rw [if_pos (by rw [List.length_append]; simp)]
        unfold sl up
        rw [hlast, if_pos rfl, if_pos rfl]
      · by_cases e1 : j < A.length
        · rw [if_pos e1, if_pos (by rw [List.length_append]; simp; omega)]
          unfold sl up
          rw [hget j e1, if_neg hne, if_neg hne]
        · rw [if_neg e1, if_neg (by rw [List.length_append]; simp; omega)]
    rw [← e]
    exact this
  · rw [List.length_append] at hi2
    simp only [List.length_cons, List.length_nil, Nat.zero_add] at hi2
    unfold up
    by_cases e : i = A.length
    · rw [if_pos e, if_pos e, e, hlast]
      exact hr.far (Ne.symm hbg) _
    · rw [if_neg e, if_neg e, hget i (by omega)]
      exact (h.rows i (by omega)).far (Ne.symm (h.ne (h.rows i (by omega)))) _
  · rw [List.length_append] at hi2 hj2
    simp only [List.length_cons, List.length_nil, Nat.zero_add] at hi2 hj2
    unfold up
    by_cases e : i = A.length <;> by_cases e2 : j = A.length
    · intro _; rw [e, e2]
    · rw [if_pos e, if_neg e2]; intro h3; exact absurd h3.symm (hb j (by omega))
    · rw [if_neg e, if_pos e2]; intro h3; exact absurd h3 (hb i (by omega))
    · rw [if_neg e, if_neg e2]; exact h.inj i j (by omega) (by omega)
/-- A copy into a row. -/
theorem Rw.splice (h : Rw w base b c r) : ∃ cur : Array Value, w.heap[b]? = some (.cells cur 5 (0, 0)) ∧ ∀ (off : Nat) (cs : List Int), off + cs.length ≤ r.length →
    off + cs.length ≤ cur.size ∧ Rw (w.setRow b (cur.toList.take off ++ (encs (Value.int .u8) cs ++ cur.toList.drop (off + cs.length))).toArray) base b c (splice r off cs) := by
  obtain ⟨hl, h0 | ⟨g', cap', cur, e, hb, hg, hnc, hcm, hcs, htake⟩⟩ := h
  · exact absurd h0.1 (by simp)
  · simp only [Value.slice.injEq, Option.some.injEq, Addr.mk.injEq, and_true, true_and] at e
    obtain ⟨rfl, rfl⟩ := e
    refine ⟨cur, hg, fun off cs hfit => ?_⟩
    have hsz : off + cs.length ≤ cur.size := by omega
    refine ⟨hsz, ?_⟩
    have hls : (Go.splice r off cs).length = r.length := length_splice r off cs hfit
    refine ⟨?_, .inr ⟨b, c, (cur.toList.take off ++ (encs (Value.int .u8) cs ++ cur.toList.drop (off + cs.length))).toArray, ?_, hb, setRow_heap w b cur _ 5 (0, 0) hg, by rw [hls]; exact hnc, hcm, ?_, ?_⟩⟩
    · simp [encs]
    · rfl
    · simp [encs]; omega
    · simp only [Nat.mul_one] at htake ⊢
      rw [List.toList_toArray, hls]
      unfold Go.splice encs
      rw [List.map_append, List.map_append, List.map_take, List.map_drop]
      unfold encs at htake
      rw [← htake, List.take_take, List.take_append, List.take_append, List.take_take]
      have t1 : (cur.toList.take off).length = off := by rw [List.length_take, Array.length_toList]; omega
      rw [t1]
      congr 1
      · rw [Nat.min_eq_right (by omega), Nat.min_eq_left (by omega)]
      · congr 1
        · rw [List.take_of_length_le (by rw [List.length_map]; omega)]
        · rw [List.length_map, List.drop_take]
          congr 1
          omega
theorem setRow_size (w : World) (q : Nat) (cs : Array Value) : (w.setRow q cs).heap.size = w.heap.size := by simp [World.setRow]
theorem Mp.copy (h : Mp w base g cp k id cap A) {i : Nat} (hi : i < A.length) {cells : Array Value} {s : List Int} (hs : s.length = (A.getD i []).length) (hr : Rw (w.setRow (id i) cells) base (id i) (cap i) s) : Mp (w.setRow (id i) cells) base g cp k id cap (A.set i s) := by
  obtain ⟨fc, ho⟩ := h.outer
  have hgi := h.ne (h.rows i hi)
  have hsl : ∀ j, (if j < (A.set i s).length then sl id cap (A.set i s) j else fc j) = if j < A.length then sl id cap A j else fc j := by
    intro j
    rw [List.length_set]
    by_cases e : j < A.length
    · rw [if_pos e, if_pos e]
      unfold sl
      rw [getD_set _ _ _ _ hi]
      by_cases e2 : j = i
      · subst e2; rw [if_pos rfl, hs]
      · rw [if_neg e2]
    · rw [if_neg e, if_neg e]
  refine ⟨⟨fc, ?_⟩, fun j hj => ?_, fun j l hj hl => h.inj j l (by simpa using hj) (by simpa using hl), by rw [List.length_set]; exact h.le⟩
  · rw [show encs (fun j => if j < (A.set i s).length then sl id cap (A.set i s) j else fc j) (List.range k) = encs (fun j => if j < A.length then sl id cap A j else fc j) (List.range k) from List.map_congr_left fun j _ => hsl j]
    exact own_move ho (fun q hq => setRow_other w (id i) q cells (by
      have : q = g := by simpa [Value.ownBlock] using hq.symm
      rw [this]
      exact Ne.symm hgi))
  · rw [List.length_set] at hj
    rw [getD_set _ _ _ _ hi]
    by_cases e : j = i
    · subst e; rw [if_pos rfl]; exact hr
    · rw [if_neg e]
      exact own_move (h.rows j hj) (fun q hq => setRow_other w (id i) q cells (by
        have : q = id j := by simpa [Value.ownBlock] using hq.symm
        rw [this]
        exact fun e2 => e (h.inj j i hj hi e2)))
theorem Mp.full (h : Mp w base g cp k id cap A) (hk : A.length = k) : Mt w base g cp id cap A := by
  obtain ⟨fc, ho⟩ := h.outer
  subst hk
  refine ⟨?_, h.rows, h.inj⟩
  rw [show encs (sl id cap A) (List.range A.length) = encs (fun j => if j < A.length then sl id cap A j else fc j) (List.range A.length) from List.map_congr_left fun j hj => (if_pos (List.mem_range.1 hj)).symm]
  exact ho
end
end Go.Proofs.Ytbogmlckbkogiaa.H
namespace Go.Proofs.Ytbogmlckbkogiaa.Red
open Go.RowKit Go.Proofs.YtbogmlckbkogiaaW.PrintWords Go.Proofs.Ytbogmlckbkogiaa.Leaf Go.Proofs.Ytbogmlckbkogiaa.Gf Go.Proofs.Ytbogmlckbkogiaa.H
/-- Row i of what is dealt out, the first s units laid. -/
def spR (k n : Nat) (L : List B) (i s : Nat) : List B := (List.range n).map fun x => if x < s * 16 then at0 L ((x / 16 * k + i) * 16 + x % 16) else 0#8
def spM (k n : Nat) (L : List B) : Mat := (List.range k).map fun i => spR k n L i (n / 16)
theorem spR_length (k n : Nat) (L : List B) (i s : Nat) : (spR k n L i s).length = n := by simp [spR]
theorem spM_reg (k n : Nat) (L : List B) : Reg (spM k n L) k n := ⟨by simp [spM], fun i hi => by unfold spM; rw [row_map _ _ _ hi, spR_length]⟩
theorem at0_splice (L : List B) (off : Nat) (cs : List B) (x : Nat) (h : off + cs.length ≤ L.length) : at0 (splice L off cs) x = if off ≤ x ∧ x < off + cs.length then at0 cs (x - off) else at0 L x := by
  unfold splice at0
  simp only [List.getD_eq_getElem?_getD]
  have t1 : (L.take off).length = off := by rw [List.length_take]; omega
  by_cases h1 : x < off
  · rw [List.getElem?_append_left (by omega), List.getElem?_take, if_pos h1, if_neg (by omega)]
  · rw [List.getElem?_append_right (by omega), t1]
    by_cases h2 : x < off + cs.length
    · rw [List.getElem?_append_left (by omega), if_pos ⟨by omega, h2⟩]
    · rw [List.getElem?_append_right (by omega), List.getElem?_drop, if_neg (by omega), show off + cs.length + (x - off - cs.length) = x by omega]
theorem at0_out (L : List B) (x : Nat) (h : L.length ≤ x) : at0 L x = 0#8 := by
  unfold at0
  rw [List.getD_eq_getElem?_getD, List.getElem?_eq_none h]
  rfl
theorem spR_next (k n : Nat) (L : List B) (i s : Nat) (hs : (s + 1) * 16 ≤ n) (hat : (s * k + i) * 16 < L.length) : splice (spR k n L i s) (s * 16) ((L.drop ((s * k + i) * 16)).take 16) = spR k n L i (s + 1) := by
  have hl : ((L.drop ((s * k + i) * 16)).take 16).length ≤ 16 := List.length_take_le _ _
  have hfit : s * 16 + ((L.drop ((s * k + i) * 16)).take 16).length ≤ (spR k n L i s).length := by rw [spR_length]; omega
  refine ext0 (by rw [length_splice _ _ _ hfit, spR_length, spR_length]) fun x hx => ?_
  rw [length_splice _ _ _ hfit, spR_length] at hx
  rw [at0_splice _ _ _ _ hfit]
  have e : ∀ s', at0 (spR k n L i s') x = if x < s' * 16 then at0 L ((x / 16 * k + i) * 16 + x % 16) else 0#8 := fun s' => at0_map _ _ _ hx
  rw [e, e]
  by_cases h1 : x < s * 16
  · rw [if_neg (by omega), if_pos h1, if_pos (by omega)]
  · by_cases h2 : x < (s + 1) * 16
    · rw [if_pos h2]
      have hxs : x / 16 = s := by omega
      rw [hxs]
      have hx16 : (s * k + i) * 16 + x % 16 = (s * k + i) * 16 + (x - s * 16) := by omega
      rw [hx16]
      by_cases h3 : x < s * 16 + ((L.drop ((s * k + i) * 16)).take 16).length
      · rw [if_pos ⟨by omega, h3⟩]
        unfold at0
        simp only [List.getD_eq_getElem?_getD, List.getElem?_take, List.getElem?_drop]
        rw [if_pos (by omega)]
      · rw [if_neg (by omega), if_neg h1, at0_out]
        rw [List.length_take, List.length_drop] at h3
        omega
    · rw [if_neg (by omega), if_neg h1, if_neg h2]
theorem spR_skip (k n : Nat) (L : List B) (i s : Nat) (hat : L.length ≤ (s * k + i) * 16) : spR k n L i (s + 1) = spR k n L i s := by
  unfold spR
  refine List.map_congr_left fun x hx => ?_
  by_cases h1 : x < s * 16
  · rw [if_pos (by omega), if_pos h1]
  · rw [if_neg h1]
    by_cases h2 : x < (s + 1) * 16
    · rw [if_pos h2, show x / 16 = s by omega, at0_out _ _ (by omega)]
    · rw [if_neg h2]
theorem spR_zero (k n : Nat) (L : List B) (i : Nat) : spR k n L i 0 = List.replicate n 0#8 := by
  refine List.ext_getElem (by simp [spR]) fun x h1 h2 => ?_
  simp [spR]
end Go.Proofs.Ytbogmlckbkogiaa.Red

/- Rows of numbers that are bytes. Conditions: none. -/
namespace Go.Proofs.Ytbogmlckbkogiaa.H
open Go.RowKit Go.Proofs.YtbogmlckbkogiaaW.PrintWords Go.Proofs.Ytbogmlckbkogiaa.Leaf Go.Proofs.Ytbogmlckbkogiaa.Gf
set_option linter.unusedVariables false
set_option linter.unusedSimpArgs false
def byteRow (l : List Int) : Bool := l.all fun x => decide (0 ≤ x) && decide (x < 256)
theorem byteRow_ofL (L : List B) : byteRow (ofL L) = true := by
  unfold byteRow ofL
  simp only [List.all_map, List.all_eq_true, Function.comp, Bool.and_eq_true, decide_eq_true_eq]
  exact fun x _ => ofB_range x
theorem ofL_toB (l : List Int) (h : byteRow l = true) : ofL (l.map toB) = l := by
  unfold ofL
  rw [List.map_map]
  refine (List.map_congr_left fun x hx => ?_).trans (List.map_id' l)
  have := List.all_eq_true.1 h x hx
  simp only [Bool.and_eq_true, decide_eq_true_eq] at this
  exact ofB_toB x this.1 this.2
end Go.Proofs.Ytbogmlckbkogiaa.H

/- stripe.Split, part two: the walk. Conditions: bytes; the numbers are ints. -/
namespace Go.Proofs.Ytbogmlckbkogiaa.H
open Go.RowKit Go.Proofs.YtbogmlckbkogiaaW.PrintWords Go.Proofs.YtbogmlckbkogiaaW.PrintLast Go.Proofs.Ytbogmlckbkogiaa.Leaf Go.Proofs.Ytbogmlckbkogiaa.Gf Go.Proofs.Ytbogmlckbkogiaa.Red Go.Proofs.Ytbogmlckbkogiaa.P
set_option linter.unusedVariables false
set_option linter.unusedSimpArgs false
def splR (a b : Int) (L : List B) : List (List Int) × Int := if codeB a b = true then (if L.length > 4096 then ([], 3) else encR a b (spM a.toNat (lenS a.toNat L.length) L)) else ([], 1)
def stripe_Split.f (a0 : Int) (a1 : Int) (l2 : List Int) : Option (List (List Int) × Int) := if -9223372036854775808 ≤ a0 ∧ byteRow l2 = true then some (splR a0 a1 (l2.map toB)) else none
theorem stripe_Split.f_ofL (a b : Int) (ha : -9223372036854775808 ≤ a) (L : List B) : stripe_Split.f a b (ofL L) = some (splR a b L) := by
  unfold stripe_Split.f
  rw [if_pos ⟨ha, byteRow_ofL L⟩]
  congr 2
  unfold ofL
  rw [List.map_map]
  exact (List.map_congr_left fun x _ => toB_ofB x).trans (List.map_id' L)
theorem Mp.fresh {W : World} {base k : Nat} (hb : base ≤ W.heap.size) (hk : k ≤ 255) : Mp (W.alloc (.cells (madeCells #[.slice none 0 0] k) 22 (0, 0))) base W.heap.size k k (fun _ => 0) (fun _ => 0) [] := by
  have h := own_made_of (enc := fun v : Value => v) (d := .slice none 0 0) W base 22 k hb (by omega)
  refine ⟨⟨fun _ => .slice none 0 0, ?_⟩, fun i hi => absurd hi (Nat.not_lt_zero _), fun i j hi => absurd hi (Nat.not_lt_zero _), Nat.zero_le _⟩
  have e : encs (fun j => if j < ([] : List (List Int)).length then sl (fun _ => 0) (fun _ => 0) [] j else (.slice none 0 0 : Value)) (List.range k) = encs (fun v : Value => v) (List.replicate k (.slice none 0 0)) := by
    unfold encs
    refine List.ext_getElem (by simp) fun j h1 h2 => ?_
    simp
  rw [e]
  exact h
theorem Rw.fresh {W : World} {base n : Nat} (hb : base ≤ W.heap.size) (hn : n ≤ 9223372036854775807) : Rw (W.alloc (.cells (madeCells #[.int .u8 0] n) 5 (0, 0))) base W.heap.size n (ofL (List.replicate n 0#8)) := by
  have h := own_made_of (enc := Value.int .u8) (d := (0 : Int)) W base 5 n hb hn
  unfold Rw
  rw [ofL_length, List.length_replicate, ← ofL_replicate]
  exact h
theorem code_form {a b : Int} (h : codeB a b = true) : ∃ k m : Nat, a = (k : Int) ∧ b = (m : Int) ∧ 1 ≤ k ∧ 1 ≤ m ∧ k + m ≤ 255 := by
  rcases codeB_form a b with ⟨_, k, m, h1, h2, h3, h4, h5, _⟩ | ⟨h1, _⟩
  · exact ⟨k, m, h1, h2, h3, h4, h5⟩
  · rw [h1] at h; cases h
theorem lo_hi_run (b n c lo : Nat) (h : lo + 16 ≤ n) (hc : n ≤ c) (x y : Int) (hx : x = (lo : Int)) (hy : y = ((lo + 16 : Nat) : Int)) : ∀ W : World, (Instr.slice 22 (.slice (some ⟨b, 0, none⟩) n c) (some (.int .i64 x)) (some (.int .i64 y)) none).run Try.prog W = .ok (.slice (some ⟨b, lo, none⟩) 16 (c - lo)) W := by
  intro W
  subst hx hy
  obtain ⟨i0, hi, hz⟩ := Option.map_eq_some_iff.1 Go.Proofs.Ytbogmlckbkogiaa.P.info5
  simp only [Prod.mk.injEq] at hz
  have hel : Try.prog.elem 22 = 5 := by simp [Program.elem, Try.underlying22]
  have hu : Try.prog.underlying 22 = some (.slice (Try.prog.elem 22)) := by rw [hel]; exact Try.underlying22
  rw [run_slice_lh W 22 _ n c hu .i64 .i64 (lo : Int) ((lo + 16 : Nat) : Int) (by omega) (by omega) (by omega), hel]
  have hcd : c ≠ lo := by omega
  simp [sizeOf, typeInfo, hi, hz.2.1, sliced, Result.andThen, hcd, Addr.add]
  exact ⟨fun e => e.symm, by omega⟩
theorem from_run (ad : Addr) (n c at_ : Nat) (h : at_ < n) (hc : n ≤ c) (x : Int) (hx : x = (at_ : Int)) : ∀ W : World, (Instr.slice 22 (.slice (some ad) n c) (some (.int .i64 x)) none none).run Try.prog W = .ok (.slice (some (ad.add at_)) (n - at_) (c - at_)) W := by
  intro W
  subst hx
  obtain ⟨i0, hi, hz⟩ := Option.map_eq_some_iff.1 Go.Proofs.Ytbogmlckbkogiaa.P.info5
  simp only [Prod.mk.injEq] at hz
  have hel : Try.prog.elem 22 = 5 := by simp [Program.elem, Try.underlying22]
  have hu : Try.prog.underlying 22 = some (.slice (Try.prog.elem 22)) := by rw [hel]; exact Try.underlying22
  rw [run_slice_l W 22 _ n c hu .i64 (at_ : Int) (by omega) (by omega), hel]
  have hcd : c ≠ at_ := by omega
  simp [sizeOf, typeInfo, hi, hz.2.1, sliced, Result.andThen, hcd]
theorem src_cells {w W : World} {ad : Addr} {L : List B} (h : Kd.C (Kd.int .u8) w (some ad) (ofL L).length (ofL L)) (hb : Below w.heap.size w W) (at_ : Nat) : ∀ j v, (encs (Value.int .u8) (ofL ((L.drop at_).take 16)))[j]? = some v → W.cell? ((ad.add at_).add j) = some v := by
  intro j v hj
  unfold encs at hj
  rw [List.getElem?_map] at hj
  obtain ⟨x, hx, rfl⟩ := Option.map_eq_some_iff.1 hj
  have hjl := (List.getElem?_eq_some_iff.1 hx).1
  rw [ofL_length, List.length_take, List.length_drop] at hjl
  obtain ⟨ad', e, hc⟩ := Kd.at_int h ((at_ + j : Nat) : Int) (by omega) (by rw [ofL_length]; omega)
  cases e
  rw [Int.toNat_natCast] at hc
  have e2 : (ad.add at_).add j = ad.add (at_ + j) := by by_cases h1 : at_ = 0 <;> by_cases h2 : j = 0 <;> simp [Addr.add, h1, h2, Nat.add_assoc]
  rw [e2]
  have hc2 := pw_cell_below hb hc
  rw [hc2, rd_ofL]
  unfold ofL at hx
  rw [List.getElem?_map] at hx
  obtain ⟨y, hy, rfl⟩ := Option.map_eq_some_iff.1 hx
  rw [List.getElem?_take, List.getElem?_drop] at hy
  unfold at0
  rw [List.getD_eq_getElem?_getD]
  split at hy
  · rw [hy]; rfl
  · cases hy
theorem ofL_splice (L : List B) (off : Nat) (cs : List B) : ofL (Go.splice L off cs) = Go.splice (ofL L) off (ofL cs) := by
  unfold Go.splice ofL
  rw [List.map_append, List.map_append, List.map_take, List.map_drop, List.length_map]
def rowsTo (k n : Nat) (L : List B) (i : Nat) : List (List Int) := (List.range i).map fun j => ofL (spR k n L j (n / 16))
theorem rowsTo_length (k n : Nat) (L : List B) (i : Nat) : (rowsTo k n L i).length = i := by simp [rowsTo]
theorem rowsTo_next (k n : Nat) (L : List B) (i : Nat) : rowsTo k n L i ++ [ofL (spR k n L i (n / 16))] = rowsTo k n L (i + 1) := by unfold rowsTo; rw [List.range_succ, List.map_append]; rfl
theorem rowsTo_all (k n : Nat) (L : List B) : rowsTo k n L k = oM (spM k n L) := by unfold rowsTo oM spM; rw [List.map_map]; rfl
set_option maxHeartbeats 8000000 in
set_option maxRecDepth 100000 in
theorem stripe_Split.calls (a0 : Int) (a1 : Int) (A2 : Option Addr) (c2 : Nat) (l2 : List Int) (r1 : List (List Int)) (r2 : Int) (w : World) (hr2 : Kd.C (Kd.int .u8) w A2 l2.length l2) (hc2 : l2.length ≤ c2) (h : stripe_Split.f a0 a1 l2 = some (r1, r2)) :
    Calls Try.prog 62 #[.int .i64 a0, .int .i64 a1, .slice A2 l2.length c2] w fun e w' => ∃ v0_ : Value, e = .returned (.tuple #[v0_, .int .i64 r2]) ∧ Kd.N (Kd.slice 5 (Kd.int .u8)) 22 w' w.heap.size (fun k_ => (w.heap.size ≤ k_)) v0_ r1 ∧ Below w.heap.size w w' := by
  unfold stripe_Split.f at h
  by_cases hby : -9223372036854775808 ≤ a0 ∧ byteRow l2 = true
  · rw [if_pos hby] at h
    have hsp := Option.some.inj h
    obtain ⟨L, hL⟩ : ∃ L, L = l2.map toB := ⟨_, rfl⟩
    have hl2 : l2 = ofL L := by rw [hL]; exact (ofL_toB l2 hby.2).symm
    rw [← hL] at hsp
    clear hL h
    subst hl2
    have hlen : (ofL L).length = L.length := ofL_length L
    have his : Aside0 (∀ W, Calls Try.prog 93 #[.int .i64 a0, .int .i64 a1] W fun e w' => e = .returned (.bool (codeB a0 a1)) ∧ Drawn0 W w') := ⟨fun W => stripe_is.calls a0 a1 _ W (is_eq a0 a1)⟩
    unfold splR at hsp
    have ha0 := hby.1
    clear hby
    cases hcb : codeB a0 a1 with
    | false =>
      rw [hcb] at hsp his
      rw [if_neg (by decide)] at hsp
      obtain ⟨rfl, rfl⟩ := Prod.mk.inj hsp
      clear hsp hr2
      go_enter Try.func62, Try.ntmps62
      go_wp2_with fail
      refine (his.out _).mono ?_
      rintro e w' ⟨rfl, ⟨nq, rfl⟩⟩
      clear his
      go_wp2
      go_ret2
      exact ⟨_, rfl, Kd.N_nil _ _ _ _ _, pw_below_drewN (Below.refl _ _) nq⟩
    | true =>
      obtain ⟨k, m, rfl, rfl, hk, hm, hkm⟩ := code_form hcb
      rw [hcb, if_pos rfl] at hsp
      rw [hcb] at his
      rw [Int.toNat_natCast] at hsp
      have hLen : Aside0 (∀ W, Calls Try.prog 58 #[.int .i64 (k : Int), .int .i64 (L.length : Int)] W fun e w' => e = .returned (.tuple #[.int .i64 (lenR (k : Int) (L.length : Int)).1, .int .i64 (lenR (k : Int) (L.length : Int)).2]) ∧ Drawn0 W w') := ⟨fun W => by
        obtain ⟨f, hf⟩ := (evLength (k : Int) (L.length : Int)).rounds
        exact stripe_Length.calls f _ _ _ _ W hf⟩
      rw [hlen]
      rw [hlen] at hc2
      unfold lenR at hLen
      rw [if_pos (by omega)] at hLen
      by_cases hbig : L.length > 4096
      · rw [if_pos hbig] at hsp
        rw [if_pos (by omega)] at hLen
        obtain ⟨rfl, rfl⟩ := Prod.mk.inj hsp
        clear hsp hr2
        go_enter Try.func62, Try.ntmps62
        go_wp2_with fail
        refine (his.out _).mono ?_
        rintro e w' ⟨rfl, ⟨nq, rfl⟩⟩
        clear his
        go_wp2_with fail
        refine (hLen.out _).mono ?_
        rintro e w' ⟨rfl, ⟨nq2, rfl⟩⟩
        clear hLen
        go_wp2
        go_ret2
        exact ⟨_, rfl, Kd.N_nil _ _ _ _ _, pw_below_drewN (Below.refl _ _) (nq + nq2)⟩
      · rw [if_neg hbig] at hsp
        rw [if_neg (by omega), Int.toNat_natCast, Int.toNat_natCast] at hLen
        obtain ⟨n, hn⟩ : ∃ n, n = lenS k L.length := ⟨_, rfl⟩
        rw [← hn] at hsp hLen
        have hu : n = nS k L.length * 16 := hn
        have hnb : n ≤ 70000 := by have := nS_le k L.length (by omega); omega
        obtain ⟨u, hu2⟩ : ∃ u, u = n / 16 := ⟨_, rfl⟩
        have hnu : n = u * 16 := by omega
        have hub : u ≤ 4096 := by have := nS_le k L.length (by omega); omega
        have HU := Aside0.mk hu2
        have HSP := Aside0.mk hsp
        have HC := Aside0.mk hr2
        clear hn hu hu2 hsp hr2 hcb
        have hd1 : ((n : Int) / 16) = (u : Int) := by omega
        have hd2 : Int.tdiv (n : Int) 16 = (u : Int) := by rw [Int.tdiv_eq_ediv_of_nonneg (by omega)]; exact hd1
        have hmk1 := print_make_of (P := Try.prog) 51 22 (.slice none 0 0) 24 Try.underlying51 Go.Proofs.Ytbogmlckbkogiaa.P.info22 rfl (by decide) k (by omega)
        have hmk2 := print_make_of (P := Try.prog) 22 5 (.int .u8 0) 1 Try.underlying22 Go.Proofs.Ytbogmlckbkogiaa.P.info5 rfl (by decide) n (by omega)
        have hnn : (0 : Int) ≤ (n : Int) := by omega
        have HNU := Aside0.mk hnu
        clear hnu
        go_enter Try.func62, Try.ntmps62
        go_wp2_with fail
        refine (his.out _).mono ?_
        rintro e w' ⟨rfl, ⟨nq, rfl⟩⟩
        clear his
        go_wp2_with fail
        refine (hLen.out _).mono ?_
        rintro e w' ⟨rfl, ⟨nq2, rfl⟩⟩
        clear hLen
        have HM0 : Aside0 (Mp ((w.drewN (nq + nq2)).alloc (.cells (madeCells #[.slice none 0 0] k) 22 (0, 0))) w.heap.size w.heap.size k k (fun _ => 0) (fun _ => 0) []) := ⟨Mp.fresh (W := w.drewN (nq + nq2)) (Nat.le_refl _) (by omega)⟩
        have HB0 : Aside0 (Below w.heap.size w ((w.drewN (nq + nq2)).alloc (.cells (madeCells #[.slice none 0 0] k) 22 (0, 0)))) := ⟨below_alloc (pw_below_drewN (Below.refl _ _) _) _⟩
        go_wp2
        go_loopg [32] k (fun gg v32 w' => ∃ (i : Nat) (id cap : Nat → Nat), i + gg = k ∧ v32 = .int .i64 (i : Int) ∧ Aside0 (Mp w' w.heap.size w.heap.size k k id cap (rowsTo k n L i)) ∧ Aside0 (Below w.heap.size w w'))
        case atStart => exact ⟨0, _, _, Nat.zero_add _, rfl, HM0, HB0⟩
        case round =>
          clear HM0 HB0
          obtain ⟨i, id, cap, hig, rfl, HM, HB⟩ := hrel
          by_cases hi : i < k
          · have hi' : (i : Int) < (k : Int) := by omega
            have hi0 : (0 : Int) ≤ (i : Int) := by omega
            have hM2 := HM.out.below ((Below.refl wr.heap.size wr).alloc (Nat.le_refl _) (.cells (madeCells #[.int .u8 0] n) 5 (0, 0)))
            obtain ⟨⟨u0, hu0⟩, hf0⟩ := hM2.free i hi
            have hadd := hM2.add (by rw [rowsTo_length]; exact hi) (Rw.fresh (W := wr) (n := n) (below_size HB.out) (by omega)) (fun j hj => by have := (HM.out.rows j hj).lt; omega)
            rw [ofL_length, List.length_replicate, rowsTo_length, ← spR_zero k n L i] at hadd
            have HADD := Aside0.mk hadd
            have HB2 : Aside0 (Below w.heap.size w ((wr.alloc (.cells (madeCells #[.int .u8 0] n) 5 (0, 0))).setCell ⟨w.heap.size, i, none⟩ (.slice (some ⟨wr.heap.size, 0, none⟩) n n))) := ⟨(below_alloc HB.out _).setCell (Nat.le_refl _) _⟩
            clear hM2 hadd HM HB
            go_wp2
            clear hu0 hf0
            obtain ⟨id', hid'⟩ : ∃ id', id' = up id i wr.heap.size := ⟨_, rfl⟩
            obtain ⟨cap', hcap'⟩ : ∃ cap', cap' = up cap i n := ⟨_, rfl⟩
            rw [← hid', ← hcap'] at HADD
            clear hid' hcap'
            generalize (wr.alloc (.cells (madeCells #[.int .u8 0] n) 5 (0, 0))).setCell ⟨w.heap.size, i, none⟩ (.slice (some ⟨wr.heap.size, 0, none⟩) n n) = w5 at *
            go_loopg [42] u (fun gg v42 w' => ∃ (s : Nat), s + gg = u ∧ v42 = .int .i64 (s : Int) ∧ Aside0 (Mp w' w.heap.size w.heap.size k k id' cap' (rowsTo k n L i ++ [ofL (spR k n L i s)])) ∧ Aside0 (Below w.heap.size w w'))
            case atStart => exact ⟨0, Nat.zero_add _, rfl, HADD, HB2⟩
            case round =>
              clear HADD HB2
              obtain ⟨s, hsg, rfl, HM, HB⟩ := hrel
              by_cases hs : s < u
              · have hs' : (s : Int) < (u : Int) := by omega
                have hs0 : (0 : Int) ≤ (s : Int) := by omega
                obtain ⟨q, hq⟩ : ∃ q, q = s * k := ⟨_, rfl⟩
                have hqb : q ≤ 4096 * 255 := by rw [hq]; exact Nat.mul_le_mul (by omega) (by omega)
                have hq1 : IntKind.i64.wrap ((s : Int) * (k : Int)) = (q : Int) := by rw [show (s : Int) * (k : Int) = (q : Int) by rw [hq, Int.natCast_mul]]; exact IntWalk.i64_in _ (by omega)
                have HQ := Aside0.mk hq
                clear hq
                by_cases hat : (q + i) * 16 < L.length
                · have hat' : ((q : Int) + (i : Int)) * 16 < (L.length : Int) := by omega
                  obtain ⟨at_, hatq⟩ : ∃ at_, at_ = (q + i) * 16 := ⟨_, rfl⟩
                  have hx1 : ((q : Int) + (i : Int)) * 16 = (at_ : Int) := by omega
                  obtain ⟨ad, rfl, _⟩ := HC.out.2.2 (by rw [ofL_length]; omega)
                  have hrun2 := from_run ad L.length c2 at_ (by omega) hc2 (((q : Int) + (i : Int)) * 16) hx1
                  have hlast : (rowsTo k n L i ++ [ofL (spR k n L i s)]).getD i [] = ofL (spR k n L i s) := by
                    rw [List.getD_eq_getElem?_getD, List.getElem?_append_right (by rw [rowsTo_length]; omega), rowsTo_length, Nat.sub_self]
                    rfl
                  have hil : i < (rowsTo k n L i ++ [ofL (spR k n L i s)]).length := by rw [List.length_append, rowsTo_length]; simp
                  have hcell := (HM.out.at_ i hil).1
                  unfold sl at hcell
                  rw [hlast, ofL_length, spR_length] at hcell
                  have hrw := HM.out.rows i hil
                  rw [hlast] at hrw
                  have hcap := hrw.reads.2
                  rw [ofL_length, spR_length] at hcap
                  have hsn : (s + 1) * 16 ≤ n := by have := HNU.out; omega
                  have hrun1 := lo_hi_run (id' i) n (cap' i) (s * 16) (by omega) hcap ((s : Int) * 16) (((s : Int) + 1) * 16) (by omega) (by omega)
                  have HRW := Aside0.mk hrw
                  have HLA := Aside0.mk (show _ ∧ _ from ⟨hlast, hil⟩)
                  have HNX : Aside0 (Go.splice (spR k n L i s) (s * 16) ((L.drop at_).take 16) = spR k n L i (s + 1)) := ⟨by rw [hatq, HQ.out]; exact spR_next k n L i s hsn (by rw [← HQ.out]; exact hat)⟩
                  have HAT := Aside0.mk (show at_ < L.length from by omega)
                  have HSN := Aside0.mk (show _ ∧ _ from ⟨hsn, hcap⟩)
                  have hw1 : IntKind.i64.wrap ((s : Int) * 16) = (s : Int) * 16 := IntWalk.i64_in _ (by omega)
                  have hw2 : IntKind.i64.wrap ((s : Int) + 1) = (s : Int) + 1 := IntWalk.i64_in _ (by omega)
                  have hw3 : IntKind.i64.wrap (((s : Int) + 1) * 16) = ((s : Int) + 1) * 16 := IntWalk.i64_in _ (by omega)
                  clear hrw hlast hil hcap hsn hat hatq hx1
                  go_upto_region 16 with (fail)
                  go_still_tail 13, (by kernel_rfl)
                  change wpList _ _ _ _ _ wr.drew
                  clear hrun1 hrun2 hcell hw1 hw2 hw3
                  have HM6 : Aside0 (Mp wr.drew w.heap.size w.heap.size k k id' cap' (rowsTo k n L i ++ [ofL (spR k n L i s)])) := ⟨HM.out.below (below_drew (Below.refl _ _))⟩
                  have HRW6 : Aside0 (Rw wr.drew w.heap.size (id' i) (cap' i) (ofL (spR k n L i s))) := ⟨HRW.out⟩
                  have HB6 : Aside0 (Below w.heap.size w wr.drew) := ⟨below_drew HB.out⟩
                  clear HM HRW HB
                  generalize wr.drew = w6 at *
                  obtain ⟨cur, hcur, hcopy⟩ := HRW6.out.splice
                  obtain ⟨c1, c3⟩ := hcopy (s * 16) (ofL ((L.drop at_).take 16)) (by rw [ofL_length, ofL_length, List.length_take, spR_length]; have := HSN.out.1; omega)
                  rw [← ofL_splice, HNX.out] at c3
                  have HC3 := Aside0.mk c3
                  have HGS := Aside0.mk (HRW6.out.base_)
                  refine wpList_copy_own rfl (.tmp 64) (.tmp 67) 22 22 rfl 5 Try.underlying22 (by kernel_rfl) (id' i) (s * 16) 16 (cap' i - s * 16) (ad.add at_) (L.length - at_) (c2 - at_) rfl rfl cur 5 hcur (encs (Value.int .u8) (ofL ((L.drop at_).take 16))) (by rw [show (encs (Value.int .u8) (ofL ((L.drop at_).take 16))).length = ((L.drop at_).take 16).length by simp [encs, ofL], List.length_take, List.length_drop]; exact Nat.min_comm _ _) (src_cells HC.out HB6.out at_) (by simpa [encs] using c1) (fun v hv => by
                    unfold encs at hv
                    obtain ⟨x, _, rfl⟩ := List.mem_map.1 hv
                    rfl) ?_
                  have HM7 := Aside0.mk (HM6.out.copy HLA.out.2 (s := ofL (spR k n L i (s + 1))) (by rw [HLA.out.1, ofL_length, ofL_length, spR_length, spR_length]) HC3.out)
                  have HB7 := Aside0.mk (below_setRow HB6.out HGS.out (cur.toList.take (s * 16) ++ (encs (Value.int .u8) (ofL ((L.drop at_).take 16)) ++ cur.toList.drop (s * 16 + (ofL ((L.drop at_).take 16)).length))).toArray)
                  have hel : (encs (Value.int .u8) (ofL ((L.drop at_).take 16))).length = (ofL ((L.drop at_).take 16)).length := by simp [encs]
                  rw [hel]
                  clear hel hcur c1 c3 hcopy HC3 HM6 HB6 HRW6
                  generalize w6.setRow (id' i) (cur.toList.take (s * 16) ++ (encs (Value.int .u8) (ofL ((L.drop at_).take 16)) ++ cur.toList.drop (s * 16 + (ofL ((L.drop at_).take 16)).length))).toArray = w7 at *
                  go_wp2
                  go_roundg (u - (s + 1))
                  case measure => omega
                  case rel => exact ⟨s + 1, by omega, by go_num, ⟨by
                    have := HM7.out
                    rw [show (rowsTo k n L i ++ [ofL (spR k n L i s)]).set i (ofL (spR k n L i (s + 1))) = rowsTo k n L i ++ [ofL (spR k n L i (s + 1))] by
                      rw [List.set_append_right _ _ (by rw [rowsTo_length]; omega), rowsTo_length, Nat.sub_self]
                      rfl] at this
                    exact this⟩, HB7⟩
                · have HN : Aside0 (spR k n L i (s + 1) = spR k n L i s) := ⟨spR_skip k n L i s (by rw [← HQ.out]; omega)⟩
                  have hat' : ¬ (((q : Int) + (i : Int)) * 16 < (L.length : Int)) := by omega
                  clear hat
                  go_wp2
                  go_roundg (u - (s + 1))
                  case measure => omega
                  case rel => exact ⟨s + 1, by omega, by go_num, ⟨by rw [HN.out]; exact HM.out⟩, HB⟩
              · have hs' : ¬ (s : Int) < (u : Int) := by omega
                have hsu : s = n / 16 := by have := HU.out; omega
                have HM2 : Aside0 (Mp wr w.heap.size w.heap.size k k id' cap' (rowsTo k n L (i + 1))) := ⟨by have := HM.out; rw [hsu, rowsTo_next] at this; exact this⟩
                clear hsu HM hsg
                go_wp2
                go_roundg (k - (i + 1))
                case measure => omega
                case rel => exact ⟨i + 1, id', cap', by omega, by go_num, HM2, HB⟩
          · have hi' : ¬ (i : Int) < (k : Int) := by omega
            have hik : i = k := by omega
            have hM := HM.out
            rw [hik] at hM
            have hMt := hM.full (rowsTo_length k n L k)
            rw [rowsTo_all] at hMt
            have hC := (Kd.S_reads' hMt.to_S).2.2
            have hle := (Kd.S_reads' hMt.to_S).2.1
            have henc : Aside0 (Calls Try.prog 75 #[.int .i64 (k : Int), .int .i64 (m : Int), .slice (some ⟨w.heap.size, 0, none⟩) k k] wr fun e w' => ∃ v, e = .returned (.tuple #[v, .int .i64 r2]) ∧ Kd.N (Kd.slice 5 (Kd.int .u8)) 22 w' wr.heap.size (fun k_ => wr.heap.size ≤ k_) v r1 ∧ Below wr.heap.size wr w') := ⟨by
              obtain ⟨f, hf⟩ := (evEncode (k : Int) (m : Int) (by omega) (spM k n L) (fun i hi => by rw [(spM_reg k n L).1] at hi; rw [(spM_reg k n L).2 i hi]; omega)).rounds
              rw [HSP.out] at hf
              have := code_Encode.calls f (k : Int) (m : Int) _ k (oM (spM k n L)) r1 r2 wr hC hle hf
              rw [oM_length, (spM_reg k n L).1] at this
              exact this⟩
            clear hik hM hMt hC hle HM hig
            go_wp2_with fail
            refine henc.out.mono ?_
            rintro e w' ⟨v, rfl, hN, hb⟩
            have HN := Aside0.mk hN
            have HB2 := Aside0.mk (below_then HB.out (below_size HB.out) hb)
            have hsz := below_size HB.out
            have HSZ := Aside0.mk hsz
            clear hN hb hsz henc
            go_wp2
            go_ret2
            exact ⟨_, rfl, Kd.N_lower (Kd.N_mono HN.out (fun q hq => Nat.le_trans HSZ.out hq)) HSZ.out, HB2.out⟩
  · rw [if_neg hby] at h
    cases h
end Go.Proofs.Ytbogmlckbkogiaa.H

-- Printed by a wrapper (wip/tools/myprint.py) of the kit's print, with hand-written contracts as given leaves.
namespace Go.Proofs.Ytbogmlckbkogiaa.P
open Go.Proofs.Ytbogmlckbkogiaa.Leaf
open Go.RowKit Go.Proofs.YtbogmlckbkogiaaW.PrintWords Go.Proofs.YtbogmlckbkogiaaW.PrintLast Go.Proofs.YtbogmlckbkogiaaW.PrintMore
attribute [local go_sem] max2_int min2_int max_two min_two max_three min_three max_four min_four   -- for this text's walks alone
set_option linter.unusedVariables false
set_option linter.unusedSimpArgs false

/-! ### mooringref20_Split: function 63 -/
mutual
def mooringref20_Split.l0 : Nat → Int → Int → List Int → Int → List (List Int) → Int → Option ((List (List Int)) × Int)
  | 0, _, _, _, _, _, _ => none
  | k + 1, x0, x1, x2, x8, x10, x11 => if x11 < x0 then (mooringref20_Split.l1 k x0 x1 x2 x8 x10 x11 (([] : List Int)) 0) else ((mooringref03_Encode.f k x0 x1 x10).bind fun bt107 => (some (bt107.1, bt107.2)))
def mooringref20_Split.l1 : Nat → Int → Int → List Int → Int → List (List Int) → Int → List Int → Int → Option ((List (List Int)) × Int)
  | 0, _, _, _, _, _, _, _, _ => none
  | k + 1, x0, x1, x2, x8, x10, x11, x12, x13 => if x13 < x8 then (if (wrap64 ((wrap64 ((wrap64 ((wrap64 ((wrap64 (Int.tdiv x13 16)) * x0)) + x11)) * 16)) + (Int.tmod x13 16))) < (x2.length : Int) then (if 0 ≤ (wrap64 ((wrap64 ((wrap64 ((wrap64 ((wrap64 (Int.tdiv x13 16)) * x0)) + x11)) * 16)) + (Int.tmod x13 16))) then (if x12.length < 140737488355328 then (mooringref20_Split.l1 k x0 x1 x2 x8 x10 x11 (x12 ++ [rd x2 (wrap64 ((wrap64 ((wrap64 ((wrap64 ((wrap64 (Int.tdiv x13 16)) * x0)) + x11)) * 16)) + (Int.tmod x13 16)))]) (wrap64 (x13 + 1))) else (none)) else (none)) else (if x12.length < 140737488355328 then (mooringref20_Split.l1 k x0 x1 x2 x8 x10 x11 (x12 ++ [0]) (wrap64 (x13 + 1))) else (none))) else (if x10.length < 5864062014805 then (mooringref20_Split.l0 k x0 x1 x2 x8 (x10 ++ [x12]) (wrap64 (x11 + 1))) else (none))
end
def mooringref20_Split.f (k : Nat) (a0 : Int) (a1 : Int) (l2 : List Int) : Option ((List (List Int)) × Int) := (mooringref03_Code.f a0 a1).bind fun t101 => (if t101 = true then ((mooringref20_Length.f k a0 (l2.length : Int)).bind fun bt102 => (if bt102.2 = 0 then (mooringref20_Split.l0 k a0 a1 l2 bt102.1 (([] : List (List Int))) 0) else (some (([] : List (List Int)), bt102.2)))) else (some (([] : List (List Int)), 1)))
theorem mooringref20_Split.mono_l : ∀ k, (∀ y0 y1 y2 y3 y4 y5, LeO (mooringref20_Split.l0 k y0 y1 y2 y3 y4 y5) (mooringref20_Split.l0 (k + 1) y0 y1 y2 y3 y4 y5)) ∧ (∀ y0 y1 y2 y3 y4 y5 y6 y7, LeO (mooringref20_Split.l1 k y0 y1 y2 y3 y4 y5 y6 y7) (mooringref20_Split.l1 (k + 1) y0 y1 y2 y3 y4 y5 y6 y7))
  | 0 => ⟨fun _ _ _ _ _ _ r h => by simp [mooringref20_Split.l0] at h, fun _ _ _ _ _ _ _ _ r h => by simp [mooringref20_Split.l1] at h⟩
  | k + 1 => by
    obtain ⟨ih0, ih1⟩ := mooringref20_Split.mono_l k
    refine ⟨?_, ?_⟩
    · intro y0 y1 y2 y3 y4 y5
      unfold mooringref20_Split.l0
      repeat' first
      | (with_reducible exact ih0 _ _ _ _ _ _)
      | (with_reducible exact ih1 _ _ _ _ _ _ _ _)
      | (with_reducible exact mooringref03_Encode.mono _ _ _ _)
      | (with_reducible exact mooringref20_Length.mono _ _ _)
      | (with_reducible exact LeO.refl _)
      | (with_reducible exact LeO.none _)
      | (with_reducible refine LeO.ite ?_ ?_)
      | (with_reducible refine LeO.bind ?_ (fun _ => ?_))
      | exact ih0 _ _ _ _ _ _
      | exact ih1 _ _ _ _ _ _ _ _
      | exact mooringref03_Encode.mono _ _ _ _
      | exact mooringref20_Length.mono _ _ _
      | exact LeO.none _
      | refine LeO.ite ?_ ?_
      | refine LeO.bind ?_ (fun _ => ?_)
    · intro y0 y1 y2 y3 y4 y5 y6 y7
      unfold mooringref20_Split.l1
      repeat' first
      | (with_reducible exact ih0 _ _ _ _ _ _)
      | (with_reducible exact ih1 _ _ _ _ _ _ _ _)
      | (with_reducible exact mooringref03_Encode.mono _ _ _ _)
      | (with_reducible exact mooringref20_Length.mono _ _ _)
      | (with_reducible exact LeO.refl _)
      | (with_reducible exact LeO.none _)
      | (with_reducible refine LeO.ite ?_ ?_)
      | (with_reducible refine LeO.bind ?_ (fun _ => ?_))
      | exact ih0 _ _ _ _ _ _
      | exact ih1 _ _ _ _ _ _ _ _
      | exact mooringref03_Encode.mono _ _ _ _
      | exact mooringref20_Length.mono _ _ _
      | exact LeO.none _
      | refine LeO.ite ?_ ?_
      | refine LeO.bind ?_ (fun _ => ?_)
theorem mooringref20_Split.mono : ∀ a0 a1 a2 k, LeO (mooringref20_Split.f k a0 a1 a2) (mooringref20_Split.f (k + 1) a0 a1 a2) := by
  intro a0 a1 a2 k
  obtain ⟨ih0, ih1⟩ := mooringref20_Split.mono_l k
  unfold mooringref20_Split.f
  repeat' first
      | (with_reducible exact ih0 _ _ _ _ _ _)
      | (with_reducible exact ih1 _ _ _ _ _ _ _ _)
      | (with_reducible exact mooringref03_Encode.mono _ _ _ _)
      | (with_reducible exact mooringref20_Length.mono _ _ _)
      | (with_reducible exact LeO.refl _)
      | (with_reducible exact LeO.none _)
      | (with_reducible refine LeO.ite ?_ ?_)
      | (with_reducible refine LeO.bind ?_ (fun _ => ?_))
      | exact ih0 _ _ _ _ _ _
      | exact ih1 _ _ _ _ _ _ _ _
      | exact mooringref03_Encode.mono _ _ _ _
      | exact mooringref20_Length.mono _ _ _
      | exact LeO.none _
      | refine LeO.ite ?_ ?_
      | refine LeO.bind ?_ (fun _ => ?_)
set_option maxHeartbeats 8000000 in
set_option maxRecDepth 100000 in
theorem mooringref20_Split.calls (k : Nat) (a0 : Int) (a1 : Int) (A2 : Option Addr) (c2 : Nat) (l2 : List Int) (r1 : List (List Int)) (r2 : Int) (w : World) (hr2 : Kd.C (Kd.int .u8) w A2 l2.length l2) (hc2 : l2.length ≤ c2) (h : mooringref20_Split.f k a0 a1 l2 = some (r1, r2)) :
    Calls Try.prog 63 #[.int .i64 a0, .int .i64 a1, .slice A2 l2.length c2] w fun e w' => ∃ v0_ : Value, e = .returned (.tuple #[v0_, .int .i64 r2]) ∧ Kd.S (Kd.slice 5 (Kd.int .u8)) 22 w' w.heap.size (fun _ => True) v0_ r1 ∧ Below w.heap.size w w' := by
  have HR2 := Aside0.mk hr2
  have HC2 := Aside0.mk hc2
  clear hr2 hc2
  have HB := Aside0.mk (Below.refl w.heap.size w)
  have H : ((mooringref03_Code.f a0 a1).bind fun t101 => (if t101 = true then ((mooringref20_Length.f k a0 (l2.length : Int)).bind fun bt102 => (if bt102.2 = 0 then (mooringref20_Split.l0 k a0 a1 l2 bt102.1 (([] : List (List Int))) 0) else (some (([] : List (List Int)), bt102.2)))) else (some (([] : List (List Int)), 1)))) = some (r1, r2) := h
  clear h
  replace H := Option.bind_eq_some_iff.mp H
  obtain ⟨t101, A40, H⟩ := H
  replace H : (if t101 = true then ((mooringref20_Length.f k a0 (l2.length : Int)).bind fun bt102 => (if bt102.2 = 0 then (mooringref20_Split.l0 k a0 a1 l2 bt102.1 (([] : List (List Int))) 0) else (some (([] : List (List Int)), bt102.2)))) else (some (([] : List (List Int)), 1))) = some (r1, r2) := H
  have A4 := Aside0.mk A40
  clear A40
  by_cases c5 : t101 = true
  · subst c5
    have H1 : ((mooringref20_Length.f k a0 (l2.length : Int)).bind fun bt102 => (if bt102.2 = 0 then (mooringref20_Split.l0 k a0 a1 l2 bt102.1 (([] : List (List Int))) 0) else (some (([] : List (List Int)), bt102.2)))) = some (r1, r2) := by rw [if_pos rfl] at H; exact H
    clear H
    have H := H1
    clear H1
    replace H := Option.bind_eq_some_iff.mp H
    obtain ⟨⟨t102, t103⟩, A60, H⟩ := H
    replace H : (if t103 = 0 then (mooringref20_Split.l0 k a0 a1 l2 t102 (([] : List (List Int))) 0) else (some (([] : List (List Int)), t103))) = some (r1, r2) := H
    have A6 := Aside0.mk A60
    clear A60
    by_cases c7 : t103 = 0
    · rw [if_pos c7] at H
      have c7b0 : (t103 == 0) = true := beq_iff_eq.mpr c7
      have c7b1 : (t103 != 0) = false := bne_eq_false_iff_eq.mpr c7
      clear c7
      obtain ⟨y104, hy104⟩ : ∃ y_ : List (List Int), y_ = (([] : List (List Int))) := ⟨_, rfl⟩
      replace H : (mooringref20_Split.l0 k a0 a1 l2 t102 y104 0) = some (r1, r2) := by first | (rw [hy104]; with_reducible exact H) | (have H2_ := (Option.bind_some _ _).symm.trans H; rw [hy104]; with_reducible exact H2_) | (have H2_ := (Option.bind_some _ _).symm.trans H; with_reducible exact H2_) | with_reducible exact H | (rw [hy104]; exact H) | exact H
      have Ny104 := Aside0.mk hy104
      clear hy104
      have H' := Aside0.mk H
      clear H
      go_enter Try.func63, Try.ntmps63
      go_wp2_with (first | ((with_reducible refine gate_callee (f := 79) rfl ?_); refine goesL_ (some 17) rfl rfl Try.func79 (by kernel_rfl) rfl #[.int .i64 a0, .int .i64 a1] rfl (by (try simp only [List.map_toArray, List.map_cons, List.map_nil]); first | done | rfl | (simp only [List.length_drop, List.length_take]; rfl)) ?_; (with_reducible refine (mooringref03_Code.calls a0 a1 true _ A4.out).mono ?_); rintro e w' ⟨rfl, ⟨nd, rfl⟩⟩; refine ⟨_, rfl, ?_⟩) | ((with_reducible refine gate_callee (f := 59) rfl ?_); refine goesL_ (some 23) rfl rfl Try.func59 (by kernel_rfl) rfl #[.int .i64 a0, .int .i64 (l2.length : Int)] rfl (by (try simp only [List.map_toArray, List.map_cons, List.map_nil]); first | done | rfl | (simp only [List.length_drop, List.length_take]; rfl)) ?_; (with_reducible refine (mooringref20_Length.calls k a0 (l2.length : Int) t102 t103 _ A6.out).mono ?_); rintro e w' ⟨rfl, ⟨nd, rfl⟩⟩; refine ⟨_, rfl, ?_⟩) | ((with_reducible refine gate_dst (N := 29) rfl ?_); refine Kd.S_lit (Kd.slice 5 (Kd.int .u8)) _ 22 ?hg (N := 29) ?hd (xs := ([] : List (List Int))) (inner := []) (ok := fun _ => True) (okp := fun _ => True) ?hr ?hp (fun _ hk => hk) trivial (Below.refl _ _) (Nat.le_refl _) (by simp) ?_; (case hd => rfl); (case hg => rfl); (case hr => first | (go_simp; done) | (go_simp; rfl)); (case hp => exact (Reps.none _ _)); intro v105 w8 ho9 hb hg_ hnew_; clear hg_ hnew_; (first | rw [← Ny104.out] at ho9 | (simp only [Int.reduceToNat] at ho9; rw [← Ny104.out] at ho9)); have n0_ := Aside0.mk (Kd.S_lower ho9 (below_size (by repeat (first | (with_reducible first | exact HB.out | apply below_alloc | apply pw_below_drewN | apply below_drew1) | exact HB.out)))); have n1_ := Aside0.mk (below_step (by repeat (first | (with_reducible first | exact HB.out | apply below_alloc | apply pw_below_drewN | apply below_drew1) | exact HB.out)) hb); clear HB; have HO106 := n0_; have HB := n1_; clear n0_ n1_; clear hb ho9))
      go_loopg [10, 11] k (fun kq v10 v11 w' => ∃ (x10_1 : List (List Int)) (x11_1 : Int), v11 = .int .i64 x11_1 ∧ Aside0 (mooringref20_Split.l0 kq a0 a1 l2 t102 x10_1 x11_1 = some (r1, r2)) ∧ Aside0 (kq ≤ k) ∧ Aside0 (Kd.S (Kd.slice 5 (Kd.int .u8)) 22 w' w.heap.size (fun _ => True) v10 x10_1) ∧ Aside0 (Below w.heap.size w w'))
      case atStart => exact ⟨(y104), (0), (by first | rfl | (simp; done) | (simp [*]; done)), H', ⟨Nat.le_refl _⟩, ⟨by (with_reducible repeat (first | apply Kd.S_alloc | apply Kd.S_drewN | apply Kd.S_drew)); exact HO106.out⟩, ⟨by repeat (first | (with_reducible first | exact HB.out | apply below_alloc | apply pw_below_drewN | apply below_drew1) | exact HB.out)⟩⟩
      case round =>
        clear H'
        try clear c2
        try clear p2
        try clear c5
        try clear c6
        try clear c7
        try clear c7b0
        try clear c7b1
        obtain ⟨x10_1, x11_1, rfl, HA, HK1, HO_10, HB⟩ := hrel
        cases gk with
        | zero => exact absurd HA.out (by simp [mooringref20_Split.l0])
        | succ k1 =>
          have H := HA.out
          clear HA
          simp only [mooringref20_Split.l0] at H
          by_cases c10 : x11_1 < a0
          · rw [if_pos c10] at H
            have c10b0 : decide (x11_1 < a0) = true := decide_eq_true c10
            clear c10
            obtain ⟨y111, hy111⟩ : ∃ y_ : List Int, y_ = (([] : List Int)) := ⟨_, rfl⟩
            replace H : (mooringref20_Split.l1 k1 a0 a1 l2 t102 x10_1 x11_1 y111 0) = some (r1, r2) := by first | (rw [hy111]; with_reducible exact H) | (have H2_ := (Option.bind_some _ _).symm.trans H; rw [hy111]; with_reducible exact H2_) | (have H2_ := (Option.bind_some _ _).symm.trans H; with_reducible exact H2_) | with_reducible exact H | (rw [hy111]; exact H) | exact H
            have Ny111 := Aside0.mk hy111
            clear hy111
            have H' := Aside0.mk H
            clear H
            go_wp2_with (first | ((with_reducible refine gate_dst (N := 35) rfl ?_); refine Kd.R_lit (Kd.int .u8) _ 5 ?hg (N := 35) ?hd (xs := ([] : List Int)) (inner := []) (ok := fun _ => True) (okp := fun _ => True) ?hr ?hp (fun _ hk => hk) trivial (Below.refl _ _) (Nat.le_refl _) (by simp) ?_; (case hd => rfl); (case hg => rfl); (case hr => first | (go_simp; done) | (go_simp; rfl)); (case hp => exact (Reps.none _ _)); intro v112 w11 ho12 hb hg_ hnew_; clear hg_ hnew_; (first | rw [← Ny111.out] at ho12 | (simp only [Int.reduceToNat] at ho12; rw [← Ny111.out] at ho12)); have n0_ := Aside0.mk (Kd.S_elder' (by (with_reducible repeat (first | apply Kd.S_alloc | apply Kd.S_drewN | apply Kd.S_drew)); exact HO_10.out) (Kd.R_base ho12) hb); have n1_ := Aside0.mk (Kd.R_lower ho12 (below_size (by repeat (first | (with_reducible first | exact HB.out | apply below_alloc | apply pw_below_drewN | apply below_drew1) | exact HB.out)))); have n2_ := Aside0.mk (below_step (by repeat (first | (with_reducible first | exact HB.out | apply below_alloc | apply pw_below_drewN | apply below_drew1) | exact HB.out)) hb); clear HO_10; clear HB; have HO_10 := n0_; have HO113 := n1_; have HB := n2_; clear n0_ n1_ n2_; clear hb ho12))
            go_loopg [12, 13] k1 (fun kq v12 v13 w' => ∃ (x12_2 : List Int) (x13_2 : Int), v13 = .int .i64 x13_2 ∧ Aside0 (mooringref20_Split.l1 kq a0 a1 l2 t102 x10_1 x11_1 x12_2 x13_2 = some (r1, r2)) ∧ Aside0 (kq ≤ k1) ∧ Aside0 (Kd.S (Kd.slice 5 (Kd.int .u8)) 22 w' w.heap.size (fun k_ => some k_ ≠ (v12 : Value).ownBlock) u10 x10_1) ∧ Aside0 (Kd.R (Kd.int .u8) 5 w' w.heap.size (fun _ => True) v12 x12_2) ∧ Aside0 (Below w.heap.size w w'))
            case atStart => exact ⟨(y111), (0), (by first | rfl | (simp; done) | (simp [*]; done)), H', ⟨Nat.le_refl _⟩, ⟨by (with_reducible repeat (first | apply Kd.S_alloc | apply Kd.S_drewN | apply Kd.S_drew)); exact Kd.S_mono HO_10.out (fun _ hk => hk.2)⟩, ⟨by (with_reducible repeat (first | apply Kd.R_alloc | apply Kd.R_drewN | apply Kd.R_drew)); exact HO113.out⟩, ⟨by repeat (first | (with_reducible first | exact HB.out | apply below_alloc | apply pw_below_drewN | apply below_drew1) | exact HB.out)⟩⟩
            case round =>
              clear H'
              try clear c1
              try clear c2
              try clear p2
              try clear c5
              try clear c6
              try clear c7
              try clear c7b0
              try clear c7b1
              try clear c10
              try clear c10b0
              try clear p2
              obtain ⟨x12_2, x13_2, rfl, HA, HK2, HO_10, HO_12, HB⟩ := hrel
              cases gk with
              | zero => exact absurd HA.out (by simp [mooringref20_Split.l1])
              | succ k2 =>
                have H := HA.out
                clear HA
                simp only [mooringref20_Split.l1] at H
                by_cases c13 : x13_2 < t102
                · rw [if_pos c13] at H
                  have c13b0 : decide (x13_2 < t102) = true := decide_eq_true c13
                  clear c13
                  by_cases c14 : (wrap64 ((wrap64 ((wrap64 ((wrap64 ((wrap64 (Int.tdiv x13_2 16)) * a0)) + x11_1)) * 16)) + (Int.tmod x13_2 16))) < (l2.length : Int)
                  · rw [if_pos c14] at H
                    have c14b0 : decide ((wrap64 ((wrap64 ((wrap64 ((wrap64 ((wrap64 (Int.tdiv x13_2 16)) * a0)) + x11_1)) * 16)) + (Int.tmod x13_2 16))) < (l2.length : Int)) = true := decide_eq_true c14
                    clear c14
                    obtain ⟨ji15, hji15⟩ : ∃ j_ : Int, (wrap64 ((wrap64 ((wrap64 ((wrap64 ((wrap64 (Int.tdiv x13_2 16)) * a0)) + x11_1)) * 16)) + (Int.tmod x13_2 16))) = j_ := ⟨_, rfl⟩
                    replace H : (if 0 ≤ (ji15) then (if x12_2.length < 140737488355328 then (mooringref20_Split.l1 k2 a0 a1 l2 t102 x10_1 x11_1 (x12_2 ++ [rd l2 (ji15)]) (wrap64 (x13_2 + 1))) else (none)) else (none)) = some (r1, r2) := by first | (rw [hji15] at H; exact H) | (simp only [hji15] at H ⊢; exact H)
                    (try rw [hji15] at c14b0)
                    have hji15w : (IntKind.i64.wrap ((wrap64 ((wrap64 ((wrap64 ((wrap64 (Int.tdiv x13_2 16)) * a0)) + x11_1)) * 16)) + (Int.tmod x13_2 16))) = ji15 := (i64_w _).trans hji15
                    by_cases c16 : 0 ≤ (ji15)
                    · rw [if_pos c16] at H
                      have c16b0 : decide (0 ≤ (ji15)) = true := decide_eq_true c16
                      clear c16
                      by_cases c17 : x12_2.length < 140737488355328
                      · rw [if_pos c17] at H
                        have LMc17 := Aside0.mk c17
                        clear c17
                        obtain ⟨y115, hy115⟩ : ∃ y_ : List Int, y_ = (x12_2 ++ [rd l2 (ji15)]) := ⟨_, rfl⟩
                        replace H : (mooringref20_Split.l1 k2 a0 a1 l2 t102 x10_1 x11_1 y115 (wrap64 (x13_2 + 1))) = some (r1, r2) := by first | (rw [hy115]; with_reducible exact H) | (have H2_ := (Option.bind_some _ _).symm.trans H; rw [hy115]; with_reducible exact H2_) | (have H2_ := (Option.bind_some _ _).symm.trans H; with_reducible exact H2_) | with_reducible exact H | (rw [hy115]; exact H) | exact H
                        have Ny115 := Aside0.mk hy115
                        clear hy115
                        have H' := Aside0.mk H
                        clear H
                        have p114 : 0 ≤ ((ji15) : Int) := of_decide_eq_true (by first | (with_reducible assumption) | assumption)
                        have q114 : (ji15) < (l2.length : Int) := of_decide_eq_true (by first | (with_reducible assumption) | assumption)
                        obtain ⟨ad114, e114, hx114_0⟩ := Kd.at_int HR2.out (ji15) p114 q114
                        cases e114
                        replace hx114_0 := (HB.out.cell (World.block_lt_of_cell? w _ hx114_0)).trans hx114_0
                        replace p114 := eq_true p114
                        replace q114 := eq_true q114
                        go_wp2_with (first | ((with_reducible refine gate_builtin (b := .append) (xs := #[.tmp 55, .tmp 60]) rfl ?_); at_builtin; refine Kd.R_append (Kd.int .u8) (w0 := w) w.heap.size rfl (.tmp 55) (.tmp 60) 22 5 (.int .u8 0) 1 rfl Try.underlying22 info5 rfl (by decide) (by omega) u12 x12_2 (rd l2 (ji15)) [.int .u8 (rd l2 (ji15))] (fun _ => True) (fun _ => False) rfl rfl ?aP (fun _ hk => hk.elim) ?aF ?aO ?aB ?aS ?aL ?_; (case aP => exact rfl); (case aB => exact (by repeat (first | (with_reducible first | exact HB.out | apply below_alloc | apply pw_below_drewN | apply below_drew1) | exact HB.out))); (case aF => exact (fun _ _ => trivial)); (case aO => exact (by (with_reducible repeat (first | apply Kd.R_alloc | apply Kd.R_drewN | apply Kd.R_drew)); exact HO_12.out)); (case aS => exact (below_size (by repeat (first | (with_reducible first | exact HB.out | apply below_alloc | apply pw_below_drewN | apply below_drew1) | exact HB.out)))); (case aL => have := LMc17.out; omega); intro v116 w18 ho hb hg hat; rw [← Ny115.out] at ho; have n0_ := Aside0.mk (Kd.S_after (ok := (fun _ => True)) (by (with_reducible repeat (first | apply Kd.S_alloc | apply Kd.S_drewN | apply Kd.S_drew)); exact Kd.S_mono HO_10.out (fun _ hk => ⟨trivial, hk⟩)) hg hat); have n1_ := Aside0.mk (hb); have n2_ := Aside0.mk (ho); clear HO_10; clear HB; clear HO_12; have HO_10 := n0_; have HB := n1_; have HO117 := n2_; clear n0_ n1_ n2_; clear ho hb hg hat))
                        go_roundg k2
                        case measure => have := HK1.out; have := HK2.out; omega
                        case rel => exact ⟨(y115), (wrap64 (x13_2 + 1)), (by first | rfl | (simp; done) | (simp [*]; done)), (by first | exact H' | (simp only [hji15]; exact H')), ⟨by have := HK1.out; have := HK2.out; omega⟩, ⟨by (with_reducible repeat (first | apply Kd.S_alloc | apply Kd.S_drewN | apply Kd.S_drew)); exact Kd.S_mono HO_10.out (fun _ hk => hk.2)⟩, ⟨by (with_reducible repeat (first | apply Kd.R_alloc | apply Kd.R_drewN | apply Kd.R_drew)); exact HO117.out⟩, ⟨by repeat (first | (with_reducible first | exact HB.out | apply below_alloc | apply pw_below_drewN | apply below_drew1) | exact HB.out)⟩⟩
                      · rw [if_neg c17] at H
                        exact absurd H (by simp)
                    · rw [if_neg c16] at H
                      exact absurd H (by simp)
                  · rw [if_neg c14] at H
                    have c14b0 : decide ((wrap64 ((wrap64 ((wrap64 ((wrap64 ((wrap64 (Int.tdiv x13_2 16)) * a0)) + x11_1)) * 16)) + (Int.tmod x13_2 16))) < (l2.length : Int)) = false := decide_eq_false c14
                    clear c14
                    by_cases c19 : x12_2.length < 140737488355328
                    · rw [if_pos c19] at H
                      have LMc19 := Aside0.mk c19
                      clear c19
                      obtain ⟨y118, hy118⟩ : ∃ y_ : List Int, y_ = (x12_2 ++ [0]) := ⟨_, rfl⟩
                      replace H : (mooringref20_Split.l1 k2 a0 a1 l2 t102 x10_1 x11_1 y118 (wrap64 (x13_2 + 1))) = some (r1, r2) := by first | (rw [hy118]; with_reducible exact H) | (have H2_ := (Option.bind_some _ _).symm.trans H; rw [hy118]; with_reducible exact H2_) | (have H2_ := (Option.bind_some _ _).symm.trans H; with_reducible exact H2_) | with_reducible exact H | (rw [hy118]; exact H) | exact H
                      have Ny118 := Aside0.mk hy118
                      clear hy118
                      have H' := Aside0.mk H
                      clear H
                      go_wp2_with (first | ((with_reducible refine gate_builtin (b := .append) (xs := #[.tmp 62, .tmp 63]) rfl ?_); at_builtin; refine Kd.R_append (Kd.int .u8) (w0 := w) w.heap.size rfl (.tmp 62) (.tmp 63) 22 5 (.int .u8 0) 1 rfl Try.underlying22 info5 rfl (by decide) (by omega) u12 x12_2 0 [.int .u8 0] (fun _ => True) (fun _ => False) rfl rfl ?aP (fun _ hk => hk.elim) ?aF ?aO ?aB ?aS ?aL ?_; (case aP => exact rfl); (case aB => exact (by repeat (first | (with_reducible first | exact HB.out | apply below_alloc | apply pw_below_drewN | apply below_drew1) | exact HB.out))); (case aF => exact (fun _ _ => trivial)); (case aO => exact (by (with_reducible repeat (first | apply Kd.R_alloc | apply Kd.R_drewN | apply Kd.R_drew)); exact HO_12.out)); (case aS => exact (below_size (by repeat (first | (with_reducible first | exact HB.out | apply below_alloc | apply pw_below_drewN | apply below_drew1) | exact HB.out)))); (case aL => have := LMc19.out; omega); intro v119 w20 ho hb hg hat; rw [← Ny118.out] at ho; have n0_ := Aside0.mk (Kd.S_after (ok := (fun _ => True)) (by (with_reducible repeat (first | apply Kd.S_alloc | apply Kd.S_drewN | apply Kd.S_drew)); exact Kd.S_mono HO_10.out (fun _ hk => ⟨trivial, hk⟩)) hg hat); have n1_ := Aside0.mk (hb); have n2_ := Aside0.mk (ho); clear HO_10; clear HB; clear HO_12; have HO_10 := n0_; have HB := n1_; have HO120 := n2_; clear n0_ n1_ n2_; clear ho hb hg hat))
                      go_roundg k2
                      case measure => have := HK1.out; have := HK2.out; omega
                      case rel => exact ⟨(y118), (wrap64 (x13_2 + 1)), (by first | rfl | (simp; done) | (simp [*]; done)), H', ⟨by have := HK1.out; have := HK2.out; omega⟩, ⟨by (with_reducible repeat (first | apply Kd.S_alloc | apply Kd.S_drewN | apply Kd.S_drew)); exact Kd.S_mono HO_10.out (fun _ hk => hk.2)⟩, ⟨by (with_reducible repeat (first | apply Kd.R_alloc | apply Kd.R_drewN | apply Kd.R_drew)); exact HO120.out⟩, ⟨by repeat (first | (with_reducible first | exact HB.out | apply below_alloc | apply pw_below_drewN | apply below_drew1) | exact HB.out)⟩⟩
                    · rw [if_neg c19] at H
                      exact absurd H (by simp)
                · rw [if_neg c13] at H
                  have c13b0 : decide (x13_2 < t102) = false := decide_eq_false c13
                  clear c13
                  by_cases c21 : x10_1.length < 5864062014805
                  · rw [if_pos c21] at H
                    have LMc21 := Aside0.mk c21
                    clear c21
                    obtain ⟨y121, hy121⟩ : ∃ y_ : List (List Int), y_ = (x10_1 ++ [x12_2]) := ⟨_, rfl⟩
                    replace H : (mooringref20_Split.l0 k2 a0 a1 l2 t102 y121 (wrap64 (x11_1 + 1))) = some (r1, r2) := by first | (rw [hy121]; with_reducible exact H) | (have H2_ := (Option.bind_some _ _).symm.trans H; rw [hy121]; with_reducible exact H2_) | (have H2_ := (Option.bind_some _ _).symm.trans H; with_reducible exact H2_) | with_reducible exact H | (rw [hy121]; exact H) | exact H
                    have Ny121 := Aside0.mk hy121
                    clear hy121
                    have H' := Aside0.mk H
                    clear H
                    obtain ⟨Ao23, co23, eo23⟩ := Kd.R_slice HO_12.out
                    subst eo23
                    go_wp2_with (first | ((with_reducible refine gate_builtin (b := .append) (xs := #[.tmp 65, .tmp 67]) rfl ?_); at_builtin; refine Kd.S_append (Kd.slice 5 (Kd.int .u8)) (w0 := w) w.heap.size rfl (.tmp 65) (.tmp 67) 51 22 (.slice none 0 0) 24 rfl Try.underlying51 info22 rfl (by decide) (by omega) u10 x10_1 x12_2 [.slice Ao23 x12_2.length co23] (fun _ => True) (fun k_ => some k_ = (.slice Ao23 x12_2.length co23 : Value).ownBlock) rfl rfl ?aP (fun k_ hk_ => ((Kd.R_mono (ok' := fun k_ => ((fun _ => True)) k_ ∧ some k_ ≠ (u10 : Value).ownBlock) (Kd.R_apart' (HO_12.out) (Kd.S_typed HO_10.out) (by decide)) (fun k_ hk => ⟨trivial, hk.2⟩))).1 k_ hk_.symm) ?aF ?aO ?aB ?aS ?aL ?_; (case aP => exact Kd.M_row (Kd.R_mono (Kd.R_tight rfl (Kd.R_mono (ok' := fun k_ => ((fun _ => True)) k_ ∧ some k_ ≠ (u10 : Value).ownBlock) (Kd.R_apart' (HO_12.out) (Kd.S_typed HO_10.out) (by decide)) (fun k_ hk => ⟨trivial, hk.2⟩))) (fun _ h_ => h_))); (case aB => exact (by repeat (first | (with_reducible first | exact HB.out | apply below_alloc | apply pw_below_drewN | apply below_drew1) | exact HB.out))); (case aF => exact (fun _ _ => trivial)); (case aO => exact (by (with_reducible repeat (first | apply Kd.S_alloc | apply Kd.S_drewN | apply Kd.S_drew)); exact Kd.S_mono HO_10.out (fun k_ hk => ⟨trivial, fun e_ => hk e_⟩))); (case aS => exact (below_size (by repeat (first | (with_reducible first | exact HB.out | apply below_alloc | apply pw_below_drewN | apply below_drew1) | exact HB.out)))); (case aL => have := LMc21.out; omega); intro v122 w22 ho hb hg hat; rw [← Ny121.out] at ho; have n0_ := Aside0.mk (hb); have n1_ := Aside0.mk (ho); clear HB; clear HO_10; clear HO_12; have HB := n0_; have HO123 := n1_; clear n0_ n1_; clear ho hb hg hat))
                    go_roundg k2
                    case measure => have := HK1.out; have := HK2.out; omega
                    case rel => exact ⟨(y121), (wrap64 (x11_1 + 1)), (by first | rfl | (simp; done) | (simp [*]; done)), H', ⟨by have := HK1.out; have := HK2.out; omega⟩, ⟨by (with_reducible repeat (first | apply Kd.S_alloc | apply Kd.S_drewN | apply Kd.S_drew)); exact HO123.out⟩, ⟨by repeat (first | (with_reducible first | exact HB.out | apply below_alloc | apply pw_below_drewN | apply below_drew1) | exact HB.out)⟩⟩
                  · rw [if_neg c21] at H
                    exact absurd H (by simp)
          · rw [if_neg c10] at H
            have c10b0 : decide (x11_1 < a0) = false := decide_eq_false c10
            clear c10
            replace H := Option.bind_eq_some_iff.mp H
            obtain ⟨⟨t107, t108⟩, A240, H⟩ := H
            replace H : (some (t107, t108)) = some (r1, r2) := H
            have A24 := Aside0.mk A240
            clear A240
            simp only [Option.some.injEq, Prod.mk.injEq] at H
            obtain ⟨rfl, rfl⟩ := H
            obtain ⟨Ao25, co25, eo25⟩ := Kd.S_slice HO_10.out
            subst eo25
            go_wp2_with (first | ((with_reducible refine gate_callee (f := 76) rfl ?_); refine goesL_ (some 72) rfl rfl Try.func76 (by kernel_rfl) rfl #[.int .i64 a0, .int .i64 a1, .slice Ao25 x10_1.length co25] rfl (by (try simp only [List.map_toArray, List.map_cons, List.map_nil]); first | done | rfl | (simp only [List.length_drop, List.length_take]; rfl)) ?_; (with_reducible refine (mooringref03_Encode.calls k1 a0 a1 _ _ x10_1 t107 t108 _ ?side1 ?side2 A24.out).mono ?_); (case side1 => repeat (first | exact (Kd.S_reads' HO_10.out).2.2 | (with_reducible refine Kd.C_alloc ?_ _) | (with_reducible refine Kd.C_drewN ?_ _) | (with_reducible refine Kd.C_drew ?_))); (case side2 => exact (Kd.S_reads' HO_10.out).2.1); rintro e w26 ⟨v109, rfl, ho0, hb⟩; refine ⟨_, rfl, ?_⟩; have n0_ := Aside0.mk (Kd.S_elder' (by (with_reducible repeat (first | apply Kd.S_alloc | apply Kd.S_drewN | apply Kd.S_drew)); exact HO_10.out) (Kd.S_base ho0) hb); have n1_ := Aside0.mk (Kd.S_lower (Kd.S_new' ho0 (Kd.S_lt (by (with_reducible repeat (first | apply Kd.S_alloc | apply Kd.S_drewN | apply Kd.S_drew)); exact HO_10.out))) (below_size (by repeat (first | (with_reducible first | exact HB.out | apply below_alloc | apply pw_below_drewN | apply below_drew1) | exact HB.out)))); have n2_ := Aside0.mk (below_step (by repeat (first | (with_reducible first | exact HB.out | apply below_alloc | apply pw_below_drewN | apply below_drew1) | exact HB.out)) hb); clear HO_10; clear HB; have HO_10 := n0_; have HO110 := n1_; have HB := n2_; clear n0_ n1_ n2_; (try clear hb); (try clear hb2); (try clear hk); (try clear hi); (try clear ho0)))
            go_ret2
            exact ⟨_, by first | rfl | (simp [errW_none, errW_some] <;> rfl) | (simp [*, errW_none, errW_some] <;> rfl), by (with_reducible repeat (first | apply Kd.S_alloc | apply Kd.S_drewN | apply Kd.S_drew)); exact Kd.S_mono HO110.out (fun _ hk => trivial), by repeat (first | (with_reducible first | exact HB.out | apply below_alloc | apply pw_below_drewN | apply below_drew1) | exact HB.out)⟩
    · rw [if_neg c7] at H
      have c7b0 : (t103 == 0) = false := beq_eq_false_iff_ne.mpr c7
      have c7b1 : (t103 != 0) = true := bne_iff_ne.mpr c7
      simp only [Option.some.injEq, Prod.mk.injEq] at H
      obtain ⟨rfl, rfl⟩ := H
      go_enter Try.func63, Try.ntmps63
      go_wp2_with (first | ((with_reducible refine gate_callee (f := 79) rfl ?_); refine goesL_ (some 17) rfl rfl Try.func79 (by kernel_rfl) rfl #[.int .i64 a0, .int .i64 a1] rfl (by (try simp only [List.map_toArray, List.map_cons, List.map_nil]); first | done | rfl | (simp only [List.length_drop, List.length_take]; rfl)) ?_; (with_reducible refine (mooringref03_Code.calls a0 a1 true _ A4.out).mono ?_); rintro e w' ⟨rfl, ⟨nd, rfl⟩⟩; refine ⟨_, rfl, ?_⟩) | ((with_reducible refine gate_callee (f := 59) rfl ?_); refine goesL_ (some 23) rfl rfl Try.func59 (by kernel_rfl) rfl #[.int .i64 a0, .int .i64 (l2.length : Int)] rfl (by (try simp only [List.map_toArray, List.map_cons, List.map_nil]); first | done | rfl | (simp only [List.length_drop, List.length_take]; rfl)) ?_; (with_reducible refine (mooringref20_Length.calls k a0 (l2.length : Int) t102 t103 _ A6.out).mono ?_); rintro e w' ⟨rfl, ⟨nd, rfl⟩⟩; refine ⟨_, rfl, ?_⟩))
      go_ret2
      exact ⟨_, by first | rfl | (simp [errW_none, errW_some] <;> rfl) | (simp [*, errW_none, errW_some] <;> rfl), by first | exact Kd.S_nil _ _ _ _ _ | exact Kd.N_nil _ _ _ _ _ | exact Kd.V_nil _ _ _ _ _ | exact Kd.Q_nil _ _ _ _ _ | exact Kd.R_nil _ _ _ _ _, by repeat (first | (with_reducible first | exact HB.out | apply below_alloc | apply pw_below_drewN | apply below_drew1) | exact HB.out)⟩
  · replace c5 := Bool.eq_false_iff.mpr c5
    subst c5
    have H1 : (some (([] : List (List Int)), 1)) = some (r1, r2) := by rw [if_neg (show ¬ (false = true) by decide)] at H; exact H
    clear H
    have H := H1
    clear H1
    simp only [Option.some.injEq, Prod.mk.injEq] at H
    obtain ⟨rfl, rfl⟩ := H
    go_enter Try.func63, Try.ntmps63
    go_wp2_with (first | ((with_reducible refine gate_callee (f := 79) rfl ?_); refine goesL_ (some 17) rfl rfl Try.func79 (by kernel_rfl) rfl #[.int .i64 a0, .int .i64 a1] rfl (by (try simp only [List.map_toArray, List.map_cons, List.map_nil]); first | done | rfl | (simp only [List.length_drop, List.length_take]; rfl)) ?_; (with_reducible refine (mooringref03_Code.calls a0 a1 false _ A4.out).mono ?_); rintro e w' ⟨rfl, ⟨nd, rfl⟩⟩; refine ⟨_, rfl, ?_⟩))
    go_ret2
    exact ⟨_, by first | rfl | (simp [errW_none, errW_some] <;> rfl) | (simp [*, errW_none, errW_some] <;> rfl), by first | exact Kd.S_nil _ _ _ _ _ | exact Kd.N_nil _ _ _ _ _ | exact Kd.V_nil _ _ _ _ _ | exact Kd.Q_nil _ _ _ _ _ | exact Kd.R_nil _ _ _ _ _, by repeat (first | (with_reducible first | exact HB.out | apply below_alloc | apply pw_below_drewN | apply below_drew1) | exact HB.out)⟩

end Go.Proofs.Ytbogmlckbkogiaa.P

-- Printed by a wrapper (wip/tools/myprint.py) of the kit's print, with hand-written contracts as given leaves.
namespace Go.Proofs.Ytbogmlckbkogiaa.P
open Go.Proofs.Ytbogmlckbkogiaa.H
open Go.Proofs.Ytbogmlckbkogiaa.Leaf
open Go.RowKit Go.Proofs.YtbogmlckbkogiaaW.PrintWords Go.Proofs.YtbogmlckbkogiaaW.PrintLast Go.Proofs.YtbogmlckbkogiaaW.PrintMore
attribute [local go_sem] max2_int min2_int max_two min_two max_three min_three max_four min_four   -- for this text's walks alone
set_option linter.unusedVariables false
set_option linter.unusedSimpArgs false

/-! ### mooringlaw20_awake: function 61 -/
def mooringlaw20_awake.f (k : Nat)  : Option (Bool) := if 20 ≤ 281474976710656 then ((stripe_Split.f 2 1 (List.replicate 20 0)).bind fun bt104 => ((stripe_Length.f k 2 33).bind fun bt108 => (if bt104.2 = 0 then (if (bt104.1.length : Int) = 3 then (if 0 < (bt104.1.length : Int) then (if ((rd_L1 bt104.1 0).length : Int) = 16 then (if bt108.2 = 0 then (some (bt108.1 == 32)) else (some false)) else (some false)) else (none)) else (some false)) else (some false)))) else (none)
theorem mooringlaw20_awake.mono : ∀ k, LeO (mooringlaw20_awake.f k ) (mooringlaw20_awake.f (k + 1) ) := by
  intro  k
  unfold mooringlaw20_awake.f
  repeat' first
      | (with_reducible exact stripe_Length.mono _ _ _)
      | (with_reducible exact LeO.refl _)
      | (with_reducible exact LeO.none _)
      | (with_reducible refine LeO.ite ?_ ?_)
      | (with_reducible refine LeO.bind ?_ (fun _ => ?_))
      | exact stripe_Length.mono _ _ _
      | exact LeO.none _
      | refine LeO.ite ?_ ?_
      | refine LeO.bind ?_ (fun _ => ?_)
set_option maxHeartbeats 8000000 in
set_option maxRecDepth 100000 in
theorem mooringlaw20_awake.calls (k : Nat)  (r : Bool) (w : World) (h : mooringlaw20_awake.f k  = some r) :
    Calls Try.prog 61 #[] w fun e w' => e = .returned (.bool r) ∧ Below w.heap.size w w' := by
  have HB := Aside0.mk (Below.refl w.heap.size w)
  have H : (if 20 ≤ 281474976710656 then ((stripe_Split.f 2 1 (List.replicate 20 0)).bind fun bt104 => ((stripe_Length.f k 2 33).bind fun bt108 => (if bt104.2 = 0 then (if (bt104.1.length : Int) = 3 then (if 0 < (bt104.1.length : Int) then (if ((rd_L1 bt104.1 0).length : Int) = 16 then (if bt108.2 = 0 then (some (bt108.1 == 32)) else (some false)) else (some false)) else (none)) else (some false)) else (some false)))) else (none)) = some r := h
  clear h
  by_cases c1 : 20 ≤ 281474976710656
  · rw [if_pos c1] at H
    have c1b0 := eq_true c1
    have c1b1 : decide (20 ≤ 281474976710656) = true := decide_eq_true c1
    clear c1
    obtain ⟨y101, hy101⟩ : ∃ y_ : List Int, y_ = (List.replicate 20 0) := ⟨_, rfl⟩
    replace H : ((stripe_Split.f 2 1 y101).bind fun bt104 => ((stripe_Length.f k 2 33).bind fun bt108 => (if bt104.2 = 0 then (if (bt104.1.length : Int) = 3 then (if 0 < (bt104.1.length : Int) then (if ((rd_L1 bt104.1 0).length : Int) = 16 then (if bt108.2 = 0 then (some (bt108.1 == 32)) else (some false)) else (some false)) else (none)) else (some false)) else (some false)))) = some r := by first | (rw [hy101]; with_reducible exact H) | (have H2_ := (Option.bind_some _ _).symm.trans H; rw [hy101]; with_reducible exact H2_) | (have H2_ := (Option.bind_some _ _).symm.trans H; with_reducible exact H2_) | with_reducible exact H | (rw [hy101]; exact H) | exact H
    have Ny101 := Aside0.mk hy101
    clear hy101
    replace H := Option.bind_eq_some_iff.mp H
    obtain ⟨⟨t104, t107⟩, A20, H⟩ := H
    replace H : ((stripe_Length.f k 2 33).bind fun bt108 => (if t107 = 0 then (if (t104.length : Int) = 3 then (if 0 < (t104.length : Int) then (if ((rd_L1 t104 0).length : Int) = 16 then (if bt108.2 = 0 then (some (bt108.1 == 32)) else (some false)) else (some false)) else (none)) else (some false)) else (some false))) = some r := H
    have A2 := Aside0.mk A20
    clear A20
    replace H := Option.bind_eq_some_iff.mp H
    obtain ⟨⟨t108, t109⟩, A30, H⟩ := H
    replace H : (if t107 = 0 then (if (t104.length : Int) = 3 then (if 0 < (t104.length : Int) then (if ((rd_L1 t104 0).length : Int) = 16 then (if t109 = 0 then (some (t108 == 32)) else (some false)) else (some false)) else (none)) else (some false)) else (some false)) = some r := H
    have A3 := Aside0.mk A30
    clear A30
    by_cases c4 : t107 = 0
    · rw [if_pos c4] at H
      have c4b0 : (t107 == 0) = true := beq_iff_eq.mpr c4
      have c4b1 : (t107 != 0) = false := bne_eq_false_iff_eq.mpr c4
      clear c4
      by_cases c5 : (t104.length : Int) = 3
      · rw [if_pos c5] at H
        have c5b0 : ((t104.length : Int) == 3) = true := beq_iff_eq.mpr c5
        have c5b1 : ((t104.length : Int) != 3) = false := bne_eq_false_iff_eq.mpr c5
        clear c5
        by_cases c6 : 0 < (t104.length : Int)
        · rw [if_pos c6] at H
          have c6b0 : decide (0 < (t104.length : Int)) = true := decide_eq_true c6
          have c6b1 : decide (0 < t104.length) = true := decide_eq_true (by omega)
          clear c6
          by_cases c7 : ((rd_L1 t104 0).length : Int) = 16
          · rw [if_pos c7] at H
            have c7b0 : (((rd_L1 t104 0).length : Int) == 16) = true := beq_iff_eq.mpr c7
            have c7b1 : (((rd_L1 t104 0).length : Int) != 16) = false := bne_eq_false_iff_eq.mpr c7
            clear c7
            by_cases c8 : t109 = 0
            · rw [if_pos c8] at H
              have c8b0 : (t109 == 0) = true := beq_iff_eq.mpr c8
              have c8b1 : (t109 != 0) = false := bne_eq_false_iff_eq.mpr c8
              clear c8
              obtain rfl := Option.some.inj H
              go_enter Try.func61, Try.ntmps61
              go_wp2_with (first | ((with_reducible refine gate_dst (N := 6) rfl ?_); (try (refine gate_guard (by rfl) ?_; dsimp only)); refine Kd.R_make (Kd.int .u8) _ 5 rfl (N := 6) rfl 22 _ _ rfl 20 rfl rfl Try.underlying22 (.int .u8 0) 1 info5 rfl (by decide) (by omega) 0 (ok := fun _ => True) (okp := fun _ => True) rfl (fun _ hk => hk) trivial (by omega) (by omega) (Below.refl _ _) (Nat.le_refl _) ?_; intro v102 w9 ho10 hb hg_ hnew_; clear hg_ hnew_; (first | rw [← Ny101.out] at ho10 | (simp only [Int.reduceToNat] at ho10; rw [← Ny101.out] at ho10)); have n0_ := Aside0.mk (Kd.R_lower ho10 (below_size (by repeat (first | (with_reducible first | exact HB.out | apply below_alloc | apply pw_below_drewN | apply below_drew1) | exact HB.out)))); have n1_ := Aside0.mk (below_step (by repeat (first | (with_reducible first | exact HB.out | apply below_alloc | apply pw_below_drewN | apply below_drew1) | exact HB.out)) hb); clear HB; have HO103 := n0_; have HB := n1_; clear n0_ n1_; clear hb ho10; obtain ⟨Ao11, co11, eo11⟩ := Kd.R_slice HO103.out; subst eo11) | ((with_reducible refine gate_callee (f := 62) rfl ?_); refine goesL_ (some 7) rfl rfl Try.func62 (by kernel_rfl) rfl #[.int .i64 2, .int .i64 1, .slice Ao11 y101.length co11] rfl (by (try simp only [List.map_toArray, List.map_cons, List.map_nil]); first | done | rfl | (simp only [List.length_drop, List.length_take]; rfl)) ?_; (with_reducible refine (stripe_Split.calls 2 1 _ _ y101 t104 t107 _ ?side1 ?side2 A2.out).mono ?_); (case side1 => repeat (first | exact (Kd.R_reads' HO103.out).2.2 | (with_reducible refine Kd.C_alloc ?_ _) | (with_reducible refine Kd.C_drewN ?_ _) | (with_reducible refine Kd.C_drew ?_))); (case side2 => exact (Kd.R_reads' HO103.out).2.1); rintro e w12 ⟨v105, rfl, ho0, hb⟩; refine ⟨_, rfl, ?_⟩; have n0_ := Aside0.mk (Kd.R_below (by (with_reducible repeat (first | apply Kd.R_alloc | apply Kd.R_drewN | apply Kd.R_drew)); exact HO103.out) hb); have n1_ := Aside0.mk (Kd.N_lower (Kd.N_mono (ok' := fun k_ => some k_ ≠ (.slice Ao11 y101.length co11 : Value).ownBlock) ho0 (fun k_ hk_ => (Kd.fresh' (Kd.R_lt (by (with_reducible repeat (first | apply Kd.R_alloc | apply Kd.R_drewN | apply Kd.R_drew)); exact HO103.out)) k_ hk_))) (below_size (by repeat (first | (with_reducible first | exact HB.out | apply below_alloc | apply pw_below_drewN | apply below_drew1) | exact HB.out)))); have n2_ := Aside0.mk (below_step (by repeat (first | (with_reducible first | exact HB.out | apply below_alloc | apply pw_below_drewN | apply below_drew1) | exact HB.out)) hb); clear HO103; clear HB; have HO103 := n0_; have HO106 := n1_; have HB := n2_; clear n0_ n1_ n2_; (try clear hb); (try clear hb2); (try clear hk); (try clear hi); (try clear ho0)) | ((with_reducible refine gate_callee (f := 58) rfl ?_); refine goesL_ (some 11) rfl rfl Try.func58 (by kernel_rfl) rfl #[.int .i64 2, .int .i64 33] rfl (by (try simp only [List.map_toArray, List.map_cons, List.map_nil]); first | done | rfl | (simp only [List.length_drop, List.length_take]; rfl)) ?_; (with_reducible refine (stripe_Length.calls k 2 33 t108 t109 _ A3.out).mono ?_); rintro e w' ⟨rfl, ⟨nd, rfl⟩⟩; refine ⟨_, rfl, ?_⟩; obtain ⟨Ao13, co13, eo13⟩ := Kd.N_slice HO106.out; subst eo13; have p110 : 0 ≤ (0 : Int) := (by omega); have q110 : 0 < (t104.length : Int) := of_decide_eq_true (by first | (with_reducible assumption) | assumption); obtain ⟨ad110, A110_0, c110_0, e110, hx110_0, hl110_0, hi110_0⟩ := at_L1 (Kd.N_reads' HO106.out).2.2 0 p110 q110; cases e110; obtain ⟨ce110, hce110, hMe110, hcc110⟩ := Kd.N_get HO106.out [] 0 p110 (by first | exact q110 | exact of_decide_eq_true (by first | (with_reducible assumption) | assumption) | (have e_ := (Kd.N_reads' HO106.out).1; omega)); obtain ⟨ua110_0, uc110_0, rfl, ul110_0, ge110_0⟩ := Kd.FK_slice_open hMe110; have hv110_0 := hcc110 0 _ rfl; rw [Nat.add_zero, show ((Kd.slice 5 (Kd.int .u8))).sz = 1 from rfl, Nat.mul_one] at hv110_0; replace hv110_0 := Option.some.inj (hv110_0.symm.trans hx110_0); injection hv110_0 with hva_ hvn_ hvc_; rw [hva_] at ge110_0; rw [hvc_] at ul110_0; have HL110_0 := Aside0.mk (show Kd.V (Kd.int .u8) 5 _ w.heap.size _ _ (rd_L1 t104 0) from Kd.V_mk ul110_0 ge110_0); clear hva_ hvn_ hvc_ ge110_0 ul110_0; clear hcc110 hce110; have qi110 : (0 < t104.length) = True := eq_true (by omega); (try rw [show ((0 : Int)).toNat = 0 from rfl] at hx110_0); (try rw [Addr.add_zero'] at hx110_0); have HR110_0 := Aside0.mk hi110_0; have HC110_0 := Aside0.mk hl110_0; clear hi110_0 hl110_0; replace p110 := eq_true p110; replace q110 := eq_true q110))
              go_ret
              exact ⟨by first | rfl | (simp [errW_none, errW_some] <;> rfl) | (simp [*, errW_none, errW_some] <;> rfl), by repeat (first | (with_reducible first | exact HB.out | apply below_alloc | apply pw_below_drewN | apply below_drew1) | exact HB.out)⟩
            · rw [if_neg c8] at H
              have c8b0 : (t109 == 0) = false := beq_eq_false_iff_ne.mpr c8
              have c8b1 : (t109 != 0) = true := bne_iff_ne.mpr c8
              obtain rfl := Option.some.inj H
              go_enter Try.func61, Try.ntmps61
              go_wp2_with (first | ((with_reducible refine gate_dst (N := 6) rfl ?_); (try (refine gate_guard (by rfl) ?_; dsimp only)); refine Kd.R_make (Kd.int .u8) _ 5 rfl (N := 6) rfl 22 _ _ rfl 20 rfl rfl Try.underlying22 (.int .u8 0) 1 info5 rfl (by decide) (by omega) 0 (ok := fun _ => True) (okp := fun _ => True) rfl (fun _ hk => hk) trivial (by omega) (by omega) (Below.refl _ _) (Nat.le_refl _) ?_; intro v102 w14 ho15 hb hg_ hnew_; clear hg_ hnew_; (first | rw [← Ny101.out] at ho15 | (simp only [Int.reduceToNat] at ho15; rw [← Ny101.out] at ho15)); have n0_ := Aside0.mk (Kd.R_lower ho15 (below_size (by repeat (first | (with_reducible first | exact HB.out | apply below_alloc | apply pw_below_drewN | apply below_drew1) | exact HB.out)))); have n1_ := Aside0.mk (below_step (by repeat (first | (with_reducible first | exact HB.out | apply below_alloc | apply pw_below_drewN | apply below_drew1) | exact HB.out)) hb); clear HB; have HO103 := n0_; have HB := n1_; clear n0_ n1_; clear hb ho15; obtain ⟨Ao16, co16, eo16⟩ := Kd.R_slice HO103.out; subst eo16) | ((with_reducible refine gate_callee (f := 62) rfl ?_); refine goesL_ (some 7) rfl rfl Try.func62 (by kernel_rfl) rfl #[.int .i64 2, .int .i64 1, .slice Ao16 y101.length co16] rfl (by (try simp only [List.map_toArray, List.map_cons, List.map_nil]); first | done | rfl | (simp only [List.length_drop, List.length_take]; rfl)) ?_; (with_reducible refine (stripe_Split.calls 2 1 _ _ y101 t104 t107 _ ?side1 ?side2 A2.out).mono ?_); (case side1 => repeat (first | exact (Kd.R_reads' HO103.out).2.2 | (with_reducible refine Kd.C_alloc ?_ _) | (with_reducible refine Kd.C_drewN ?_ _) | (with_reducible refine Kd.C_drew ?_))); (case side2 => exact (Kd.R_reads' HO103.out).2.1); rintro e w17 ⟨v105, rfl, ho0, hb⟩; refine ⟨_, rfl, ?_⟩; have n0_ := Aside0.mk (Kd.R_below (by (with_reducible repeat (first | apply Kd.R_alloc | apply Kd.R_drewN | apply Kd.R_drew)); exact HO103.out) hb); have n1_ := Aside0.mk (Kd.N_lower (Kd.N_mono (ok' := fun k_ => some k_ ≠ (.slice Ao16 y101.length co16 : Value).ownBlock) ho0 (fun k_ hk_ => (Kd.fresh' (Kd.R_lt (by (with_reducible repeat (first | apply Kd.R_alloc | apply Kd.R_drewN | apply Kd.R_drew)); exact HO103.out)) k_ hk_))) (below_size (by repeat (first | (with_reducible first | exact HB.out | apply below_alloc | apply pw_below_drewN | apply below_drew1) | exact HB.out)))); have n2_ := Aside0.mk (below_step (by repeat (first | (with_reducible first | exact HB.out | apply below_alloc | apply pw_below_drewN | apply below_drew1) | exact HB.out)) hb); clear HO103; clear HB; have HO103 := n0_; have HO106 := n1_; have HB := n2_; clear n0_ n1_ n2_; (try clear hb); (try clear hb2); (try clear hk); (try clear hi); (try clear ho0)) | ((with_reducible refine gate_callee (f := 58) rfl ?_); refine goesL_ (some 11) rfl rfl Try.func58 (by kernel_rfl) rfl #[.int .i64 2, .int .i64 33] rfl (by (try simp only [List.map_toArray, List.map_cons, List.map_nil]); first | done | rfl | (simp only [List.length_drop, List.length_take]; rfl)) ?_; (with_reducible refine (stripe_Length.calls k 2 33 t108 t109 _ A3.out).mono ?_); rintro e w' ⟨rfl, ⟨nd, rfl⟩⟩; refine ⟨_, rfl, ?_⟩; obtain ⟨Ao18, co18, eo18⟩ := Kd.N_slice HO106.out; subst eo18; have p110 : 0 ≤ (0 : Int) := (by omega); have q110 : 0 < (t104.length : Int) := of_decide_eq_true (by first | (with_reducible assumption) | assumption); obtain ⟨ad110, A110_0, c110_0, e110, hx110_0, hl110_0, hi110_0⟩ := at_L1 (Kd.N_reads' HO106.out).2.2 0 p110 q110; cases e110; obtain ⟨ce110, hce110, hMe110, hcc110⟩ := Kd.N_get HO106.out [] 0 p110 (by first | exact q110 | exact of_decide_eq_true (by first | (with_reducible assumption) | assumption) | (have e_ := (Kd.N_reads' HO106.out).1; omega)); obtain ⟨ua110_0, uc110_0, rfl, ul110_0, ge110_0⟩ := Kd.FK_slice_open hMe110; have hv110_0 := hcc110 0 _ rfl; rw [Nat.add_zero, show ((Kd.slice 5 (Kd.int .u8))).sz = 1 from rfl, Nat.mul_one] at hv110_0; replace hv110_0 := Option.some.inj (hv110_0.symm.trans hx110_0); injection hv110_0 with hva_ hvn_ hvc_; rw [hva_] at ge110_0; rw [hvc_] at ul110_0; have HL110_0 := Aside0.mk (show Kd.V (Kd.int .u8) 5 _ w.heap.size _ _ (rd_L1 t104 0) from Kd.V_mk ul110_0 ge110_0); clear hva_ hvn_ hvc_ ge110_0 ul110_0; clear hcc110 hce110; have qi110 : (0 < t104.length) = True := eq_true (by omega); (try rw [show ((0 : Int)).toNat = 0 from rfl] at hx110_0); (try rw [Addr.add_zero'] at hx110_0); have HR110_0 := Aside0.mk hi110_0; have HC110_0 := Aside0.mk hl110_0; clear hi110_0 hl110_0; replace p110 := eq_true p110; replace q110 := eq_true q110))
              go_ret
              exact ⟨by first | rfl | (simp [errW_none, errW_some] <;> rfl) | (simp [*, errW_none, errW_some] <;> rfl), by repeat (first | (with_reducible first | exact HB.out | apply below_alloc | apply pw_below_drewN | apply below_drew1) | exact HB.out)⟩
          · rw [if_neg c7] at H
            have c7b0 : (((rd_L1 t104 0).length : Int) == 16) = false := beq_eq_false_iff_ne.mpr c7
            have c7b1 : (((rd_L1 t104 0).length : Int) != 16) = true := bne_iff_ne.mpr c7
            obtain rfl := Option.some.inj H
            go_enter Try.func61, Try.ntmps61
            go_wp2_with (first | ((with_reducible refine gate_dst (N := 6) rfl ?_); (try (refine gate_guard (by rfl) ?_; dsimp only)); refine Kd.R_make (Kd.int .u8) _ 5 rfl (N := 6) rfl 22 _ _ rfl 20 rfl rfl Try.underlying22 (.int .u8 0) 1 info5 rfl (by decide) (by omega) 0 (ok := fun _ => True) (okp := fun _ => True) rfl (fun _ hk => hk) trivial (by omega) (by omega) (Below.refl _ _) (Nat.le_refl _) ?_; intro v102 w19 ho20 hb hg_ hnew_; clear hg_ hnew_; (first | rw [← Ny101.out] at ho20 | (simp only [Int.reduceToNat] at ho20; rw [← Ny101.out] at ho20)); have n0_ := Aside0.mk (Kd.R_lower ho20 (below_size (by repeat (first | (with_reducible first | exact HB.out | apply below_alloc | apply pw_below_drewN | apply below_drew1) | exact HB.out)))); have n1_ := Aside0.mk (below_step (by repeat (first | (with_reducible first | exact HB.out | apply below_alloc | apply pw_below_drewN | apply below_drew1) | exact HB.out)) hb); clear HB; have HO103 := n0_; have HB := n1_; clear n0_ n1_; clear hb ho20; obtain ⟨Ao21, co21, eo21⟩ := Kd.R_slice HO103.out; subst eo21) | ((with_reducible refine gate_callee (f := 62) rfl ?_); refine goesL_ (some 7) rfl rfl Try.func62 (by kernel_rfl) rfl #[.int .i64 2, .int .i64 1, .slice Ao21 y101.length co21] rfl (by (try simp only [List.map_toArray, List.map_cons, List.map_nil]); first | done | rfl | (simp only [List.length_drop, List.length_take]; rfl)) ?_; (with_reducible refine (stripe_Split.calls 2 1 _ _ y101 t104 t107 _ ?side1 ?side2 A2.out).mono ?_); (case side1 => repeat (first | exact (Kd.R_reads' HO103.out).2.2 | (with_reducible refine Kd.C_alloc ?_ _) | (with_reducible refine Kd.C_drewN ?_ _) | (with_reducible refine Kd.C_drew ?_))); (case side2 => exact (Kd.R_reads' HO103.out).2.1); rintro e w22 ⟨v105, rfl, ho0, hb⟩; refine ⟨_, rfl, ?_⟩; have n0_ := Aside0.mk (Kd.R_below (by (with_reducible repeat (first | apply Kd.R_alloc | apply Kd.R_drewN | apply Kd.R_drew)); exact HO103.out) hb); have n1_ := Aside0.mk (Kd.N_lower (Kd.N_mono (ok' := fun k_ => some k_ ≠ (.slice Ao21 y101.length co21 : Value).ownBlock) ho0 (fun k_ hk_ => (Kd.fresh' (Kd.R_lt (by (with_reducible repeat (first | apply Kd.R_alloc | apply Kd.R_drewN | apply Kd.R_drew)); exact HO103.out)) k_ hk_))) (below_size (by repeat (first | (with_reducible first | exact HB.out | apply below_alloc | apply pw_below_drewN | apply below_drew1) | exact HB.out)))); have n2_ := Aside0.mk (below_step (by repeat (first | (with_reducible first | exact HB.out | apply below_alloc | apply pw_below_drewN | apply below_drew1) | exact HB.out)) hb); clear HO103; clear HB; have HO103 := n0_; have HO106 := n1_; have HB := n2_; clear n0_ n1_ n2_; (try clear hb); (try clear hb2); (try clear hk); (try clear hi); (try clear ho0)) | ((with_reducible refine gate_callee (f := 58) rfl ?_); refine goesL_ (some 11) rfl rfl Try.func58 (by kernel_rfl) rfl #[.int .i64 2, .int .i64 33] rfl (by (try simp only [List.map_toArray, List.map_cons, List.map_nil]); first | done | rfl | (simp only [List.length_drop, List.length_take]; rfl)) ?_; (with_reducible refine (stripe_Length.calls k 2 33 t108 t109 _ A3.out).mono ?_); rintro e w' ⟨rfl, ⟨nd, rfl⟩⟩; refine ⟨_, rfl, ?_⟩; obtain ⟨Ao23, co23, eo23⟩ := Kd.N_slice HO106.out; subst eo23; have p110 : 0 ≤ (0 : Int) := (by omega); have q110 : 0 < (t104.length : Int) := of_decide_eq_true (by first | (with_reducible assumption) | assumption); obtain ⟨ad110, A110_0, c110_0, e110, hx110_0, hl110_0, hi110_0⟩ := at_L1 (Kd.N_reads' HO106.out).2.2 0 p110 q110; cases e110; obtain ⟨ce110, hce110, hMe110, hcc110⟩ := Kd.N_get HO106.out [] 0 p110 (by first | exact q110 | exact of_decide_eq_true (by first | (with_reducible assumption) | assumption) | (have e_ := (Kd.N_reads' HO106.out).1; omega)); obtain ⟨ua110_0, uc110_0, rfl, ul110_0, ge110_0⟩ := Kd.FK_slice_open hMe110; have hv110_0 := hcc110 0 _ rfl; rw [Nat.add_zero, show ((Kd.slice 5 (Kd.int .u8))).sz = 1 from rfl, Nat.mul_one] at hv110_0; replace hv110_0 := Option.some.inj (hv110_0.symm.trans hx110_0); injection hv110_0 with hva_ hvn_ hvc_; rw [hva_] at ge110_0; rw [hvc_] at ul110_0; have HL110_0 := Aside0.mk (show Kd.V (Kd.int .u8) 5 _ w.heap.size _ _ (rd_L1 t104 0) from Kd.V_mk ul110_0 ge110_0); clear hva_ hvn_ hvc_ ge110_0 ul110_0; clear hcc110 hce110; have qi110 : (0 < t104.length) = True := eq_true (by omega); (try rw [show ((0 : Int)).toNat = 0 from rfl] at hx110_0); (try rw [Addr.add_zero'] at hx110_0); have HR110_0 := Aside0.mk hi110_0; have HC110_0 := Aside0.mk hl110_0; clear hi110_0 hl110_0; replace p110 := eq_true p110; replace q110 := eq_true q110))
            go_ret
            exact ⟨by first | rfl | (simp [errW_none, errW_some] <;> rfl) | (simp [*, errW_none, errW_some] <;> rfl), by repeat (first | (with_reducible first | exact HB.out | apply below_alloc | apply pw_below_drewN | apply below_drew1) | exact HB.out)⟩
        · rw [if_neg c6] at H
          exact absurd H (by simp)
      · rw [if_neg c5] at H
        have c5b0 : ((t104.length : Int) == 3) = false := beq_eq_false_iff_ne.mpr c5
        have c5b1 : ((t104.length : Int) != 3) = true := bne_iff_ne.mpr c5
        obtain rfl := Option.some.inj H
        go_enter Try.func61, Try.ntmps61
        go_wp2_with (first | ((with_reducible refine gate_dst (N := 6) rfl ?_); (try (refine gate_guard (by rfl) ?_; dsimp only)); refine Kd.R_make (Kd.int .u8) _ 5 rfl (N := 6) rfl 22 _ _ rfl 20 rfl rfl Try.underlying22 (.int .u8 0) 1 info5 rfl (by decide) (by omega) 0 (ok := fun _ => True) (okp := fun _ => True) rfl (fun _ hk => hk) trivial (by omega) (by omega) (Below.refl _ _) (Nat.le_refl _) ?_; intro v102 w24 ho25 hb hg_ hnew_; clear hg_ hnew_; (first | rw [← Ny101.out] at ho25 | (simp only [Int.reduceToNat] at ho25; rw [← Ny101.out] at ho25)); have n0_ := Aside0.mk (Kd.R_lower ho25 (below_size (by repeat (first | (with_reducible first | exact HB.out | apply below_alloc | apply pw_below_drewN | apply below_drew1) | exact HB.out)))); have n1_ := Aside0.mk (below_step (by repeat (first | (with_reducible first | exact HB.out | apply below_alloc | apply pw_below_drewN | apply below_drew1) | exact HB.out)) hb); clear HB; have HO103 := n0_; have HB := n1_; clear n0_ n1_; clear hb ho25; obtain ⟨Ao26, co26, eo26⟩ := Kd.R_slice HO103.out; subst eo26) | ((with_reducible refine gate_callee (f := 62) rfl ?_); refine goesL_ (some 7) rfl rfl Try.func62 (by kernel_rfl) rfl #[.int .i64 2, .int .i64 1, .slice Ao26 y101.length co26] rfl (by (try simp only [List.map_toArray, List.map_cons, List.map_nil]); first | done | rfl | (simp only [List.length_drop, List.length_take]; rfl)) ?_; (with_reducible refine (stripe_Split.calls 2 1 _ _ y101 t104 t107 _ ?side1 ?side2 A2.out).mono ?_); (case side1 => repeat (first | exact (Kd.R_reads' HO103.out).2.2 | (with_reducible refine Kd.C_alloc ?_ _) | (with_reducible refine Kd.C_drewN ?_ _) | (with_reducible refine Kd.C_drew ?_))); (case side2 => exact (Kd.R_reads' HO103.out).2.1); rintro e w27 ⟨v105, rfl, ho0, hb⟩; refine ⟨_, rfl, ?_⟩; have n0_ := Aside0.mk (Kd.R_below (by (with_reducible repeat (first | apply Kd.R_alloc | apply Kd.R_drewN | apply Kd.R_drew)); exact HO103.out) hb); have n1_ := Aside0.mk (Kd.N_lower (Kd.N_mono (ok' := fun k_ => some k_ ≠ (.slice Ao26 y101.length co26 : Value).ownBlock) ho0 (fun k_ hk_ => (Kd.fresh' (Kd.R_lt (by (with_reducible repeat (first | apply Kd.R_alloc | apply Kd.R_drewN | apply Kd.R_drew)); exact HO103.out)) k_ hk_))) (below_size (by repeat (first | (with_reducible first | exact HB.out | apply below_alloc | apply pw_below_drewN | apply below_drew1) | exact HB.out)))); have n2_ := Aside0.mk (below_step (by repeat (first | (with_reducible first | exact HB.out | apply below_alloc | apply pw_below_drewN | apply below_drew1) | exact HB.out)) hb); clear HO103; clear HB; have HO103 := n0_; have HO106 := n1_; have HB := n2_; clear n0_ n1_ n2_; (try clear hb); (try clear hb2); (try clear hk); (try clear hi); (try clear ho0)) | ((with_reducible refine gate_callee (f := 58) rfl ?_); refine goesL_ (some 11) rfl rfl Try.func58 (by kernel_rfl) rfl #[.int .i64 2, .int .i64 33] rfl (by (try simp only [List.map_toArray, List.map_cons, List.map_nil]); first | done | rfl | (simp only [List.length_drop, List.length_take]; rfl)) ?_; (with_reducible refine (stripe_Length.calls k 2 33 t108 t109 _ A3.out).mono ?_); rintro e w' ⟨rfl, ⟨nd, rfl⟩⟩; refine ⟨_, rfl, ?_⟩; obtain ⟨Ao28, co28, eo28⟩ := Kd.N_slice HO106.out; subst eo28))
        go_ret
        exact ⟨by first | rfl | (simp [errW_none, errW_some] <;> rfl) | (simp [*, errW_none, errW_some] <;> rfl), by repeat (first | (with_reducible first | exact HB.out | apply below_alloc | apply pw_below_drewN | apply below_drew1) | exact HB.out)⟩
    · rw [if_neg c4] at H
      have c4b0 : (t107 == 0) = false := beq_eq_false_iff_ne.mpr c4
      have c4b1 : (t107 != 0) = true := bne_iff_ne.mpr c4
      obtain rfl := Option.some.inj H
      go_enter Try.func61, Try.ntmps61
      go_wp2_with (first | ((with_reducible refine gate_dst (N := 6) rfl ?_); (try (refine gate_guard (by rfl) ?_; dsimp only)); refine Kd.R_make (Kd.int .u8) _ 5 rfl (N := 6) rfl 22 _ _ rfl 20 rfl rfl Try.underlying22 (.int .u8 0) 1 info5 rfl (by decide) (by omega) 0 (ok := fun _ => True) (okp := fun _ => True) rfl (fun _ hk => hk) trivial (by omega) (by omega) (Below.refl _ _) (Nat.le_refl _) ?_; intro v102 w29 ho30 hb hg_ hnew_; clear hg_ hnew_; (first | rw [← Ny101.out] at ho30 | (simp only [Int.reduceToNat] at ho30; rw [← Ny101.out] at ho30)); have n0_ := Aside0.mk (Kd.R_lower ho30 (below_size (by repeat (first | (with_reducible first | exact HB.out | apply below_alloc | apply pw_below_drewN | apply below_drew1) | exact HB.out)))); have n1_ := Aside0.mk (below_step (by repeat (first | (with_reducible first | exact HB.out | apply below_alloc | apply pw_below_drewN | apply below_drew1) | exact HB.out)) hb); clear HB; have HO103 := n0_; have HB := n1_; clear n0_ n1_; clear hb ho30; obtain ⟨Ao31, co31, eo31⟩ := Kd.R_slice HO103.out; subst eo31) | ((with_reducible refine gate_callee (f := 62) rfl ?_); refine goesL_ (some 7) rfl rfl Try.func62 (by kernel_rfl) rfl #[.int .i64 2, .int .i64 1, .slice Ao31 y101.length co31] rfl (by (try simp only [List.map_toArray, List.map_cons, List.map_nil]); first | done | rfl | (simp only [List.length_drop, List.length_take]; rfl)) ?_; (with_reducible refine (stripe_Split.calls 2 1 _ _ y101 t104 t107 _ ?side1 ?side2 A2.out).mono ?_); (case side1 => repeat (first | exact (Kd.R_reads' HO103.out).2.2 | (with_reducible refine Kd.C_alloc ?_ _) | (with_reducible refine Kd.C_drewN ?_ _) | (with_reducible refine Kd.C_drew ?_))); (case side2 => exact (Kd.R_reads' HO103.out).2.1); rintro e w32 ⟨v105, rfl, ho0, hb⟩; refine ⟨_, rfl, ?_⟩; have n0_ := Aside0.mk (Kd.R_below (by (with_reducible repeat (first | apply Kd.R_alloc | apply Kd.R_drewN | apply Kd.R_drew)); exact HO103.out) hb); have n1_ := Aside0.mk (Kd.N_lower (Kd.N_mono (ok' := fun k_ => some k_ ≠ (.slice Ao31 y101.length co31 : Value).ownBlock) ho0 (fun k_ hk_ => (Kd.fresh' (Kd.R_lt (by (with_reducible repeat (first | apply Kd.R_alloc | apply Kd.R_drewN | apply Kd.R_drew)); exact HO103.out)) k_ hk_))) (below_size (by repeat (first | (with_reducible first | exact HB.out | apply below_alloc | apply pw_below_drewN | apply below_drew1) | exact HB.out)))); have n2_ := Aside0.mk (below_step (by repeat (first | (with_reducible first | exact HB.out | apply below_alloc | apply pw_below_drewN | apply below_drew1) | exact HB.out)) hb); clear HO103; clear HB; have HO103 := n0_; have HO106 := n1_; have HB := n2_; clear n0_ n1_ n2_; (try clear hb); (try clear hb2); (try clear hk); (try clear hi); (try clear ho0)) | ((with_reducible refine gate_callee (f := 58) rfl ?_); refine goesL_ (some 11) rfl rfl Try.func58 (by kernel_rfl) rfl #[.int .i64 2, .int .i64 33] rfl (by (try simp only [List.map_toArray, List.map_cons, List.map_nil]); first | done | rfl | (simp only [List.length_drop, List.length_take]; rfl)) ?_; (with_reducible refine (stripe_Length.calls k 2 33 t108 t109 _ A3.out).mono ?_); rintro e w' ⟨rfl, ⟨nd, rfl⟩⟩; refine ⟨_, rfl, ?_⟩))
      go_ret
      exact ⟨by first | rfl | (simp [errW_none, errW_some] <;> rfl) | (simp [*, errW_none, errW_some] <;> rfl), by repeat (first | (with_reducible first | exact HB.out | apply below_alloc | apply pw_below_drewN | apply below_drew1) | exact HB.out)⟩
  · rw [if_neg c1] at H
    exact absurd H (by simp)

end Go.Proofs.Ytbogmlckbkogiaa.P

-- Printed by a wrapper (wip/tools/myprint.py) of the kit's print, with hand-written contracts as given leaves.
namespace Go.Proofs.Ytbogmlckbkogiaa.P
open Go.Proofs.Ytbogmlckbkogiaa.Leaf
open Go.RowKit Go.Proofs.YtbogmlckbkogiaaW.PrintWords Go.Proofs.YtbogmlckbkogiaaW.PrintLast Go.Proofs.YtbogmlckbkogiaaW.PrintMore
attribute [local go_sem] max2_int min2_int max_two min_two max_three min_three max_four min_four   -- for this text's walks alone
set_option linter.unusedVariables false
set_option linter.unusedSimpArgs false

/-! ### mooringlaw20_light: function 60 -/
def mooringlaw20_light.f (a0 : Int) (a1 : Int) : Option (Bool) := (mooringref03_Code.f a0 a1).bind fun t101 => (if t101 = true then (some (decide ((wrap64 (a0 * (wrap64 (a0 + a1)))) ≤ 400))) else (some true))
set_option maxHeartbeats 8000000 in
set_option maxRecDepth 100000 in
theorem mooringlaw20_light.calls (a0 : Int) (a1 : Int) (r : Bool) (w : World) (h : mooringlaw20_light.f a0 a1 = some r) :
    Calls Try.prog 60 #[.int .i64 a0, .int .i64 a1] w fun e w' => e = .returned (.bool r) ∧ Drawn0 w w' := by
  have H : ((mooringref03_Code.f a0 a1).bind fun t101 => (if t101 = true then (some (decide ((wrap64 (a0 * (wrap64 (a0 + a1)))) ≤ 400))) else (some true))) = some r := h
  clear h
  replace H := Option.bind_eq_some_iff.mp H
  obtain ⟨t101, A30, H⟩ := H
  replace H : (if t101 = true then (some (decide ((wrap64 (a0 * (wrap64 (a0 + a1)))) ≤ 400))) else (some true)) = some r := H
  have A3 := Aside0.mk A30
  clear A30
  by_cases c4 : t101 = true
  · subst c4
    have H1 : (some (decide ((wrap64 (a0 * (wrap64 (a0 + a1)))) ≤ 400))) = some r := by rw [if_pos rfl] at H; exact H
    clear H
    have H := H1
    clear H1
    obtain rfl := Option.some.inj H
    go_enter Try.func60, Try.ntmps60
    go_wp2_with (first | ((with_reducible refine gate_callee (f := 79) rfl ?_); refine goesL_ (some 7) rfl rfl Try.func79 (by kernel_rfl) rfl #[.int .i64 a0, .int .i64 a1] rfl (by (try simp only [List.map_toArray, List.map_cons, List.map_nil]); first | done | rfl | (simp only [List.length_drop, List.length_take]; rfl)) ?_; (with_reducible refine (mooringref03_Code.calls a0 a1 true _ A3.out).mono ?_); rintro e w' ⟨rfl, ⟨nd, rfl⟩⟩; refine ⟨_, rfl, ?_⟩))
    go_ret
    exact ⟨by first | rfl | (simp; done) | (simp [*]; done), by repeat (first | exact Drawn0.refl _ | apply Drawn0.step)⟩
  · replace c4 := Bool.eq_false_iff.mpr c4
    subst c4
    have H1 : (some true) = some r := by rw [if_neg (show ¬ (false = true) by decide)] at H; exact H
    clear H
    have H := H1
    clear H1
    obtain rfl := Option.some.inj H
    go_enter Try.func60, Try.ntmps60
    go_wp2_with (first | ((with_reducible refine gate_callee (f := 79) rfl ?_); refine goesL_ (some 7) rfl rfl Try.func79 (by kernel_rfl) rfl #[.int .i64 a0, .int .i64 a1] rfl (by (try simp only [List.map_toArray, List.map_cons, List.map_nil]); first | done | rfl | (simp only [List.length_drop, List.length_take]; rfl)) ?_; (with_reducible refine (mooringref03_Code.calls a0 a1 false _ A3.out).mono ?_); rintro e w' ⟨rfl, ⟨nd, rfl⟩⟩; refine ⟨_, rfl, ?_⟩))
    go_ret
    exact ⟨by first | rfl | (simp; done) | (simp [*]; done), by repeat (first | exact Drawn0.refl _ | apply Drawn0.step)⟩

end Go.Proofs.Ytbogmlckbkogiaa.P

/- What the reference's Split comes to, and the question of layer 20's statements that is always asked. Conditions: told at each. -/
namespace Go.Proofs.Ytbogmlckbkogiaa.Red
open Go.RowKit Go.Proofs.YtbogmlckbkogiaaW.PrintWords Go.Proofs.Ytbogmlckbkogiaa.Leaf Go.Proofs.Ytbogmlckbkogiaa.Gf Go.Proofs.Ytbogmlckbkogiaa.H Go.Proofs.Ytbogmlckbkogiaa.Mx Go.Proofs.Ytbogmlckbkogiaa.P
set_option linter.unusedVariables false
set_option linter.unusedSimpArgs false
def ixS (k i x : Nat) : Nat := (x / 16 * k + i) * 16 + x % 16
theorem ix_eq (k i x : Nat) (hk : k ≤ 254) (hi : i ≤ 254) (hx : x ≤ 70000) : (wrap64 ((wrap64 ((wrap64 ((wrap64 ((wrap64 (Int.tdiv (x : Int) 16)) * (k : Int))) + (i : Int))) * 16)) + (Int.tmod (x : Int) 16))) = ((ixS k i x : Nat) : Int) := by
  have h1 : x / 16 * k ≤ 70000 * 254 := Nat.mul_le_mul (by omega) hk
  rw [Int.tdiv_eq_ediv_of_nonneg (by omega), Int.tmod_eq_emod_of_nonneg (by omega), w64 ((x : Int) / 16) (by omega) (by omega)]
  have e1 : ((x : Int) / 16) * (k : Int) = ((x / 16 * k : Nat) : Int) := by rw [Int.natCast_mul, Int.natCast_ediv]; rfl
  rw [e1]
  unfold ixS
  generalize x / 16 * k = q at *
  rw [w64 (q : Int) (by omega) (by omega), w64 ((q : Int) + (i : Int)) (by omega) (by omega), w64 (((q : Int) + (i : Int)) * 16) (by omega) (by omega), w64 _ (by omega) (by omega)]
  omega
def rowS (k : Nat) (L : List B) (i : Nat) (n : Nat) : List B := (List.range n).map fun x => at0 L (ixS k i x)
theorem rowS_eq (k n : Nat) (L : List B) (i : Nat) (hn : n % 16 = 0) : rowS k L i n = spR k n L i (n / 16) := by
  unfold rowS spR
  refine List.map_congr_left fun x hx => ?_
  rw [if_pos (by have := List.mem_range.1 hx; omega)]
  rfl
theorem split_l1 (k n : Nat) (L : List B) (hL : L.length ≤ 4096) (hk : k ≤ 254) (hn : n ≤ 70000) (hn16 : n % 16 = 0) (b : Int) (r : List (List Int) × Int) (i : Nat) (hi : i < k) (X : List (List Int)) (hX : X.length ≤ 255)
    (hnext : Ev (fun f => mooringref20_Split.l0 f (k : Int) b (ofL L) (n : Int) (X ++ [ofL (spR k n L i (n / 16))]) ((i + 1 : Nat) : Int)) r) (d : Nat) : ∀ x : Nat, x + d = n →
    Ev (fun f => mooringref20_Split.l1 f (k : Int) b (ofL L) (n : Int) X (i : Int) (ofL (rowS k L i x)) (x : Int)) r := by
  induction d with
  | zero =>
    intro x hx
    obtain rfl : x = n := by omega
    refine Ev.step (f := fun f => mooringref20_Split.l0 f (k : Int) b (ofL L) (x : Int) (X ++ [ofL (spR k x L i (x / 16))]) ((i + 1 : Nat) : Int)) (fun f => ?_) hnext
    simp only [mooringref20_Split.l1]
    rw [if_neg (by omega), if_pos (by omega), rowS_eq k x L i hn16, w64 _ (by omega) (by omega)]
    rfl
  | succ d ih =>
    intro x hx
    refine Ev.step (f := fun f => mooringref20_Split.l1 f (k : Int) b (ofL L) (n : Int) X (i : Int) (ofL (rowS k L i (x + 1))) ((x + 1 : Nat) : Int)) (fun f => ?_) (ih (x + 1) (by omega))
    have hl : (rowS k L i x).length = x := by simp [rowS]
    have e : ofL (rowS k L i x) ++ [ofB (at0 L (ixS k i x))] = ofL (rowS k L i (x + 1)) := by
      unfold rowS
      rw [List.range_succ, List.map_append]
      unfold ofL
      rw [List.map_append]
      rfl
    simp only [mooringref20_Split.l1, ix_eq k i x hk (by omega) (by omega), ofL_length, hl, rd_ofL]
    rw [if_pos (by omega), w64 ((x : Int) + 1) (by omega) (by omega)]
    by_cases h : ixS k i x < L.length
    · rw [if_pos (by omega), if_pos (by omega), if_pos (by omega), e]
      rfl
    · rw [if_neg (by omega), if_pos (by omega)]
      have : (0 : Int) = ofB (at0 L (ixS k i x)) := by rw [at0_out _ _ (by omega)]; rfl
      rw [this, e]
      rfl
theorem rowsTo_oM (k n : Nat) (L : List B) (i : Nat) : rowsTo k n L i = oM ((List.range i).map fun j => spR k n L j (n / 16)) := by unfold rowsTo oM; rw [List.map_map]; rfl
theorem split_l0 (k n : Nat) (L : List B) (hL : L.length ≤ 4096) (hk : k ≤ 254) (hn : n ≤ 70000) (hn16 : n % 16 = 0) (b : Int) (d : Nat) : ∀ i : Nat, i + d = k →
    Ev (fun f => mooringref20_Split.l0 f (k : Int) b (ofL L) (n : Int) (rowsTo k n L i) (i : Int)) (encR (k : Int) b (spM k n L)) := by
  induction d with
  | zero =>
    intro i hi
    obtain rfl : i = k := by omega
    refine Ev.step (f := fun f => (mooringref03_Encode.f f (i : Int) b (oM (spM i n L))).bind fun bt107 => some (bt107.1, bt107.2)) (fun f => ?_) ?_
    · simp only [mooringref20_Split.l0]
      rw [if_neg (by omega), rowsTo_all]
    · refine Ev.bind (evRefEncode (i : Int) b (by omega) (spM i n L) (by rw [(spM_reg i n L).1]; omega) (fun j hj => by rw [(spM_reg i n L).1] at hj; rw [(spM_reg i n L).2 j hj]; omega)) ?_
      exact Ev.now _
  | succ d ih =>
    intro i hi
    refine Ev.step (f := fun f => mooringref20_Split.l1 f (k : Int) b (ofL L) (n : Int) (rowsTo k n L i) (i : Int) (ofL (rowS k L i 0)) ((0 : Nat) : Int)) (fun f => ?_) (split_l1 k n L hL hk hn hn16 b _ i (by omega) _ (by rw [rowsTo_length]; omega) (by rw [rowsTo_next]; exact ih (i + 1) (by omega)) n 0 (by omega))
    simp only [mooringref20_Split.l0]
    rw [if_pos (by omega)]
    rfl
theorem evRefSplit (a b : Int) (ha : -9223372036854775808 ≤ a) (L : List B) (hL : L.length ≤ 9223372036854775807) : Ev (fun f => mooringref20_Split.f f a b (ofL L)) (splR a b L) := by
  unfold mooringref20_Split.f splR
  simp only [code_eq a b ha, Option.bind_some]
  cases h1 : codeB a b with
  | false =>
    simp only [Bool.false_eq_true, if_false]
    exact Ev.now _
  | true =>
    obtain ⟨k, m, rfl, rfl, hk, hm, hkm⟩ := code_form h1
    simp only [if_true, ofL_length, Int.toNat_natCast]
    refine Ev.bind (evRefLength (k : Int) (L.length : Int)) ?_
    unfold lenR
    rw [if_pos (by omega)]
    by_cases h2 : L.length > 4096
    · rw [if_pos (by omega), if_pos h2]
      simp only [show ((3 : Int) = 0) = False from eq_false (by decide), if_false]
      exact Ev.now _
    · rw [if_neg (by omega), if_neg h2]
      simp only [if_true, Int.toNat_natCast]
      have hle := nS_le k L.length (by omega)
      exact split_l0 k (lenS k L.length) L (by omega) (by omega) (by unfold lenS; omega) (by unfold lenS; omega) (m : Int) k 0 (by omega)
/-- What Split tells, where it tells shards. -/
theorem splR_yes {k m : Nat} (hk : 1 ≤ k) (hm : 1 ≤ m) (hkm : k + m ≤ 255) (L : List B) (hL : L.length ≤ 4096) : splR (k : Int) (m : Int) L = (oM (mulM (cauM k m) (spM k (lenS k L.length) L)), 0) ∧ Reg (mulM (cauM k m) (spM k (lenS k L.length) L)) (k + m) (lenS k L.length) := by
  have hc : codeB (k : Int) (m : Int) = true := by unfold codeB; simp; omega
  have hD := spM_reg k (lenS k L.length) L
  refine ⟨?_, mulM_reg (cauM_reg k m) hD (by omega)⟩
  unfold splR encR
  rw [if_pos hc, if_neg (by omega), Int.toNat_natCast, Int.toNat_natCast, if_pos ⟨hc, (evenB_iff _ k).2 (by rw [hD.2 0 (by omega)]; exact hD)⟩]
theorem evAwake20 : Ev (fun k => mooringlaw20_awake.f k) true := by
  unfold mooringlaw20_awake.f
  simp only [show (20 ≤ 281474976710656) = True from eq_true (by decide), if_true]
  have e : (List.replicate 20 (0 : Int)) = ofL (List.replicate 20 0#8) := ofL_replicate 20
  rw [e]
  obtain ⟨h1, h2⟩ := splR_yes (k := 2) (m := 1) (by omega) (by omega) (by omega) (List.replicate 20 0#8) (by decide)
  have hf : stripe_Split.f 2 1 (ofL (List.replicate 20 0#8)) = some (splR ((2 : Nat) : Int) ((1 : Nat) : Int) (List.replicate 20 0#8)) := stripe_Split.f_ofL 2 1 (by decide) _
  rw [hf, h1]
  simp only [Option.bind_some]
  refine Ev.bind (evLength 2 33) ?_
  have e2 : lenR 2 33 = (32, 0) := by decide +kernel
  have hr0 := h2.2 0 (by omega)
  rw [show lenS 2 (List.replicate 20 0#8).length = 16 by decide +kernel] at h2 hr0 ⊢
  rw [e2]
  simp only [oM_length, h2.1, rd_oM0, ofL_length, hr0]
  exact Ev.now _
theorem light20 (a b : Int) (ha : -9223372036854775808 ≤ a) : ∃ x, mooringlaw20_light.f a b = some x := by
  unfold mooringlaw20_light.f
  rw [code_eq a b ha, Option.bind_some]
  cases codeB a b with
  | false => exact ⟨true, rfl⟩
  | true => exact ⟨_, rfl⟩
end Go.Proofs.Ytbogmlckbkogiaa.Red

/- The walk of function 15: mooringlaw20.StripeTouches. Conditions: the ints are i64s. -/
namespace Go.Proofs.Ytbogmlckbkogiaa.H
open Go.RowKit Go.Proofs.YtbogmlckbkogiaaW.PrintWords Go.Proofs.YtbogmlckbkogiaaW.PrintLast Go.Proofs.YtbogmlckbkogiaaW.PrintMore Go.Proofs.Ytbogmlckbkogiaa.Leaf Go.Proofs.Ytbogmlckbkogiaa.Gf Go.Proofs.Ytbogmlckbkogiaa.Mx Go.Proofs.Ytbogmlckbkogiaa.P Go.Proofs.Ytbogmlckbkogiaa.Red
set_option linter.unusedVariables false
set_option linter.unusedSimpArgs false
theorem awake20_calls (w : World) : Calls Try.prog 61 #[] w fun e w' => e = .returned (.bool true) ∧ Below w.heap.size w w' := by
  obtain ⟨k, h⟩ := evAwake20.rounds
  exact mooringlaw20_awake.calls k true w h
theorem touched_calls (a b x y : Int) (r1 r2 r3 : Int) (w : World) (h : Ev (fun f => stripe_Touched.f f a b x y) (r1, r2, r3)) :
    Calls Try.prog 67 #[.int .i64 a, .int .i64 b, .int .i64 x, .int .i64 y] w fun e w' => e = .returned (.tuple #[.int .i64 r1, .int .i64 r2, .int .i64 r3]) ∧ Drawn0 w w' := by
  obtain ⟨k, h⟩ := h.rounds
  exact stripe_Touched.calls k a b x y r1 r2 r3 w h
theorem refLength_calls (a b : Int) (w : World) : Calls Try.prog 59 #[.int .i64 a, .int .i64 b] w fun e w' => e = .returned (.tuple #[.int .i64 (lenR a b).1, .int .i64 (lenR a b).2]) ∧ Drawn0 w w' := by
  obtain ⟨k, h⟩ := (evRefLength a b).rounds
  exact mooringref20_Length.calls k a b (lenR a b).1 (lenR a b).2 w h
theorem i64b (x : Int) (h : (Lit.int .i64 x).wf = true) : -9223372036854775808 ≤ x ∧ x ≤ 9223372036854775807 := by
  exact Go.bounds_i64 h
theorem u68 : Try.prog.underlying 68 = some (.array (Try.prog.arrayLen 68) (Try.prog.elem 68)) := by kernel_rfl
theorem al68 : Try.prog.arrayLen 68 = 2 := by kernel_rfl
theorem el68 : Try.prog.elem 68 = 3 := by kernel_rfl
theorem pair_cells (w : World) (x y : Value) (t : Nat) (f : Nat × Nat) : (w.alloc (.cells #[x, y] t f)).cell? ⟨w.heap.size, 0, none⟩ = some x ∧ (w.alloc (.cells #[x, y] t f)).cell? ⟨w.heap.size, 1, none⟩ = some y := by
  have hb : (w.alloc (.cells #[x, y] t f)).heap[w.heap.size]? = some (.cells #[x, y] t f) := by show (w.heap.push _)[w.heap.size]? = _; rw [Array.getElem?_push, if_pos rfl]
  constructor <;> (unfold World.cell?; rw [hb]; rfl)
attribute [local go_sem] u68 al68 el68
set_option maxHeartbeats 8000000 in
set_option maxRecDepth 100000 in
theorem StripeTouches.calls (a0 a1 x y : Int) (w : World) (h0 : (Lit.int .i64 a0).wf = true) (h1 : (Lit.int .i64 a1).wf = true) (hx : (Lit.int .i64 x).wf = true) (hy : (Lit.int .i64 y).wf = true) :
    Calls Try.prog 15 #[.int .i64 a0, .int .i64 a1, .agg #[.int .i64 x, .int .i64 y]] w fun e w' => e = .returned (.bool true) ∧ Below w.heap.size w w' := by
  by_cases hl : (lenR a0 a1).2 = 0
  · have hr := lenR_ok hl
    have HL := Aside0.mk (refLength_calls a0 a1)
    rw [hl] at HL
    generalize (lenR a0 a1).1 = e1 at *
    obtain ⟨HX1, HX2⟩ := i64b x hx
    obtain ⟨HY1, HY2⟩ := i64b y hy
    have h00 : ((0 : Int) == 0) = true := rfl
    by_cases h1 : x < 0
    · have HT := Aside0.mk (evTouched_arg a0 a1 x y hl (.inl h1))
      clear hl hr HX1 HX2 HY1 HY2
      have HB := Aside0.mk (Below.refl w.heap.size w)
      go_enter Try.func15, Try.ntmps15
      go_upto_region 1 with (fail)
      obtain ⟨p0, p1⟩ := pair_cells w (.int .i64 x) (.int .i64 y) 68 (0, 0)
      have HB2 : Aside0 (Below w.heap.size w (w.alloc (.cells #[.int .i64 x, .int .i64 y] 68 (0, 0)))) := ⟨by repeat (first | (with_reducible first | exact HB.out | apply below_alloc | apply pw_below_drewN | apply below_drew1) | exact HB.out)⟩
      clear HB
      have HB := HB2
      clear HB2
      generalize w.alloc (.cells #[.int .i64 x, .int .i64 y] 68 (0, 0)) = w2 at *
      go_still (by kernel_rfl)
      go_wp2_with (first | ((with_reducible refine gate_callee (f := 67) rfl ?_); refine goesL_ (some 27) rfl rfl Try.func67 (by kernel_rfl) rfl #[.int .i64 a0, .int .i64 a1, .int .i64 x, .int .i64 y] rfl (by (try simp only [List.map_toArray, List.map_cons, List.map_nil]); first | done | rfl) ?_; (with_reducible refine (touched_calls a0 a1 x y 0 0 1 _ HT.out).mono ?_); rintro e w' ⟨rfl, ⟨nd, rfl⟩⟩; refine ⟨_, rfl, ?_⟩) | ((with_reducible refine gate_callee (f := 59) rfl ?_); refine goesL_ (some 34) rfl rfl Try.func59 (by kernel_rfl) rfl #[.int .i64 a0, .int .i64 a1] rfl (by (try simp only [List.map_toArray, List.map_cons, List.map_nil]); first | done | rfl) ?_; (with_reducible refine (HL.out _).mono ?_); rintro e w' ⟨rfl, ⟨nd, rfl⟩⟩; refine ⟨_, rfl, ?_⟩) | (go_at_call 61; (with_reducible refine (awake20_calls _).mono ?_); rintro e w26 ⟨rfl, hb⟩; have n0_ := Aside0.mk (below_step (by repeat (first | (with_reducible first | exact HB.out | apply below_alloc | apply pw_below_drewN | apply below_drew1) | exact HB.out)) hb); clear HB; have HB := n0_; clear n0_ hb))
      go_ret
      exact ⟨by first | rfl | (simp [errW_none, errW_some] <;> rfl) | (simp [*, errW_none, errW_some] <;> rfl), by repeat (first | (with_reducible first | exact HB.out | apply below_alloc | apply pw_below_drewN | apply below_drew1) | exact HB.out)⟩
    by_cases h2 : y < 0
    · have HT := Aside0.mk (evTouched_arg a0 a1 x y hl (.inr (.inl h2)))
      clear hl hr HX1 HX2 HY1 HY2
      have HB := Aside0.mk (Below.refl w.heap.size w)
      go_enter Try.func15, Try.ntmps15
      go_upto_region 1 with (fail)
      obtain ⟨p0, p1⟩ := pair_cells w (.int .i64 x) (.int .i64 y) 68 (0, 0)
      have HB2 : Aside0 (Below w.heap.size w (w.alloc (.cells #[.int .i64 x, .int .i64 y] 68 (0, 0)))) := ⟨by repeat (first | (with_reducible first | exact HB.out | apply below_alloc | apply pw_below_drewN | apply below_drew1) | exact HB.out)⟩
      clear HB
      have HB := HB2
      clear HB2
      generalize w.alloc (.cells #[.int .i64 x, .int .i64 y] 68 (0, 0)) = w2 at *
      go_still (by kernel_rfl)
      go_wp2_with (first | ((with_reducible refine gate_callee (f := 67) rfl ?_); refine goesL_ (some 27) rfl rfl Try.func67 (by kernel_rfl) rfl #[.int .i64 a0, .int .i64 a1, .int .i64 x, .int .i64 y] rfl (by (try simp only [List.map_toArray, List.map_cons, List.map_nil]); first | done | rfl) ?_; (with_reducible refine (touched_calls a0 a1 x y 0 0 1 _ HT.out).mono ?_); rintro e w' ⟨rfl, ⟨nd, rfl⟩⟩; refine ⟨_, rfl, ?_⟩) | ((with_reducible refine gate_callee (f := 59) rfl ?_); refine goesL_ (some 34) rfl rfl Try.func59 (by kernel_rfl) rfl #[.int .i64 a0, .int .i64 a1] rfl (by (try simp only [List.map_toArray, List.map_cons, List.map_nil]); first | done | rfl) ?_; (with_reducible refine (HL.out _).mono ?_); rintro e w' ⟨rfl, ⟨nd, rfl⟩⟩; refine ⟨_, rfl, ?_⟩) | (go_at_call 61; (with_reducible refine (awake20_calls _).mono ?_); rintro e w26 ⟨rfl, hb⟩; have n0_ := Aside0.mk (below_step (by repeat (first | (with_reducible first | exact HB.out | apply below_alloc | apply pw_below_drewN | apply below_drew1) | exact HB.out)) hb); clear HB; have HB := n0_; clear n0_ hb))
      go_ret
      exact ⟨by first | rfl | (simp [errW_none, errW_some] <;> rfl) | (simp [*, errW_none, errW_some] <;> rfl), by repeat (first | (with_reducible first | exact HB.out | apply below_alloc | apply pw_below_drewN | apply below_drew1) | exact HB.out)⟩
    by_cases h3 : a1 < x
    · have HT := Aside0.mk (evTouched_arg a0 a1 x y hl (.inr (.inr (.inl h3))))
      clear hl hr HX1 HX2 HY1 HY2
      have HB := Aside0.mk (Below.refl w.heap.size w)
      go_enter Try.func15, Try.ntmps15
      go_upto_region 1 with (fail)
      obtain ⟨p0, p1⟩ := pair_cells w (.int .i64 x) (.int .i64 y) 68 (0, 0)
      have HB2 : Aside0 (Below w.heap.size w (w.alloc (.cells #[.int .i64 x, .int .i64 y] 68 (0, 0)))) := ⟨by repeat (first | (with_reducible first | exact HB.out | apply below_alloc | apply pw_below_drewN | apply below_drew1) | exact HB.out)⟩
      clear HB
      have HB := HB2
      clear HB2
      generalize w.alloc (.cells #[.int .i64 x, .int .i64 y] 68 (0, 0)) = w2 at *
      go_still (by kernel_rfl)
      go_wp2_with (first | ((with_reducible refine gate_callee (f := 67) rfl ?_); refine goesL_ (some 27) rfl rfl Try.func67 (by kernel_rfl) rfl #[.int .i64 a0, .int .i64 a1, .int .i64 x, .int .i64 y] rfl (by (try simp only [List.map_toArray, List.map_cons, List.map_nil]); first | done | rfl) ?_; (with_reducible refine (touched_calls a0 a1 x y 0 0 1 _ HT.out).mono ?_); rintro e w' ⟨rfl, ⟨nd, rfl⟩⟩; refine ⟨_, rfl, ?_⟩) | ((with_reducible refine gate_callee (f := 59) rfl ?_); refine goesL_ (some 34) rfl rfl Try.func59 (by kernel_rfl) rfl #[.int .i64 a0, .int .i64 a1] rfl (by (try simp only [List.map_toArray, List.map_cons, List.map_nil]); first | done | rfl) ?_; (with_reducible refine (HL.out _).mono ?_); rintro e w' ⟨rfl, ⟨nd, rfl⟩⟩; refine ⟨_, rfl, ?_⟩) | (go_at_call 61; (with_reducible refine (awake20_calls _).mono ?_); rintro e w26 ⟨rfl, hb⟩; have n0_ := Aside0.mk (below_step (by repeat (first | (with_reducible first | exact HB.out | apply below_alloc | apply pw_below_drewN | apply below_drew1) | exact HB.out)) hb); clear HB; have HB := n0_; clear n0_ hb))
      go_ret
      exact ⟨by first | rfl | (simp [errW_none, errW_some] <;> rfl) | (simp [*, errW_none, errW_some] <;> rfl), by repeat (first | (with_reducible first | exact HB.out | apply below_alloc | apply pw_below_drewN | apply below_drew1) | exact HB.out)⟩
    have hw : IntKind.i64.wrap (a1 - x) = a1 - x := IntWalk.i64_in _ (by omega)
    by_cases h4 : a1 - x < y
    · have HT := Aside0.mk (evTouched_arg a0 a1 x y hl (.inr (.inr (.inr h4))))
      clear hl hr HX1 HX2 HY1 HY2
      have HB := Aside0.mk (Below.refl w.heap.size w)
      go_enter Try.func15, Try.ntmps15
      go_upto_region 1 with (fail)
      obtain ⟨p0, p1⟩ := pair_cells w (.int .i64 x) (.int .i64 y) 68 (0, 0)
      have HB2 : Aside0 (Below w.heap.size w (w.alloc (.cells #[.int .i64 x, .int .i64 y] 68 (0, 0)))) := ⟨by repeat (first | (with_reducible first | exact HB.out | apply below_alloc | apply pw_below_drewN | apply below_drew1) | exact HB.out)⟩
      clear HB
      have HB := HB2
      clear HB2
      generalize w.alloc (.cells #[.int .i64 x, .int .i64 y] 68 (0, 0)) = w2 at *
      go_still (by kernel_rfl)
      go_wp2_with (first | ((with_reducible refine gate_callee (f := 67) rfl ?_); refine goesL_ (some 27) rfl rfl Try.func67 (by kernel_rfl) rfl #[.int .i64 a0, .int .i64 a1, .int .i64 x, .int .i64 y] rfl (by (try simp only [List.map_toArray, List.map_cons, List.map_nil]); first | done | rfl) ?_; (with_reducible refine (touched_calls a0 a1 x y 0 0 1 _ HT.out).mono ?_); rintro e w' ⟨rfl, ⟨nd, rfl⟩⟩; refine ⟨_, rfl, ?_⟩) | ((with_reducible refine gate_callee (f := 59) rfl ?_); refine goesL_ (some 34) rfl rfl Try.func59 (by kernel_rfl) rfl #[.int .i64 a0, .int .i64 a1] rfl (by (try simp only [List.map_toArray, List.map_cons, List.map_nil]); first | done | rfl) ?_; (with_reducible refine (HL.out _).mono ?_); rintro e w' ⟨rfl, ⟨nd, rfl⟩⟩; refine ⟨_, rfl, ?_⟩) | (go_at_call 61; (with_reducible refine (awake20_calls _).mono ?_); rintro e w26 ⟨rfl, hb⟩; have n0_ := Aside0.mk (below_step (by repeat (first | (with_reducible first | exact HB.out | apply below_alloc | apply pw_below_drewN | apply below_drew1) | exact HB.out)) hb); clear HB; have HB := n0_; clear n0_ hb))
      go_ret
      exact ⟨by first | rfl | (simp [errW_none, errW_some] <;> rfl) | (simp [*, errW_none, errW_some] <;> rfl), by repeat (first | (with_reducible first | exact HB.out | apply below_alloc | apply pw_below_drewN | apply below_drew1) | exact HB.out)⟩
    obtain ⟨k, rfl⟩ := Int.eq_ofNat_of_zero_le (show 0 ≤ a0 by omega)
    obtain ⟨n, rfl⟩ := Int.eq_ofNat_of_zero_le (show 0 ≤ a1 by omega)
    obtain ⟨x, rfl⟩ := Int.eq_ofNat_of_zero_le (show 0 ≤ x by omega)
    obtain ⟨y, rfl⟩ := Int.eq_ofNat_of_zero_le (show 0 ≤ y by omega)
    have HT := Aside0.mk (evTouched k n x y (by omega) (by omega) (by omega) (by omega))
    obtain ⟨r1, hr1⟩ : ∃ r : Int, r = (if y = 0 then 0 else ((x / (k * 16) : Nat) : Int)) := ⟨_, rfl⟩
    obtain ⟨r2, hr2⟩ : ∃ r : Int, r = (if y = 0 then 0 else ((nS k (x + y) : Nat) : Int)) := ⟨_, rfl⟩
    have HT2 : Aside0 (Ev (fun f => stripe_Touched.f f (k : Int) (n : Int) (x : Int) (y : Int)) (r1, r2, 0)) := ⟨by
      have h := HT.out
      rw [hr1, hr2]
      by_cases h0 : y = 0
      · simp only [if_pos h0] at h ⊢; exact h
      · simp only [if_neg h0] at h ⊢; exact h⟩
    clear HT
    have HT := HT2
    clear HT2
    have HR1 := Aside0.mk hr1
    have HR2 := Aside0.mk hr2
    clear hr1 hr2
    have hwk : IntKind.i64.wrap ((k : Int) * 16) = (k : Int) * 16 := IntWalk.i64_in _ (by omega)
    have hwx : IntKind.i64.wrap ((x : Int) + (y : Int)) = (x : Int) + (y : Int) := IntWalk.i64_in _ (by omega)
    have HK := Aside0.mk hr
    clear hl hr HX1 HX2 HY1 HY2 
    have HB := Aside0.mk (Below.refl w.heap.size w)
    go_enter Try.func15, Try.ntmps15
    go_upto_region 1 with (fail)
    obtain ⟨p0, p1⟩ := pair_cells w (.int .i64 (x : Int)) (.int .i64 (y : Int)) 68 (0, 0)
    have HB2 : Aside0 (Below w.heap.size w (w.alloc (.cells #[.int .i64 (x : Int), .int .i64 (y : Int)] 68 (0, 0)))) := ⟨by repeat (first | (with_reducible first | exact HB.out | apply below_alloc | apply pw_below_drewN | apply below_drew1) | exact HB.out)⟩
    clear HB
    have HB := HB2
    clear HB2
    generalize w.alloc (.cells #[.int .i64 (x : Int), .int .i64 (y : Int)] 68 (0, 0)) = w2 at *
    go_still (by kernel_rfl)
    go_wp2_with (first | ((with_reducible refine gate_callee (f := 67) rfl ?_); refine goesL_ (some 27) rfl rfl Try.func67 (by kernel_rfl) rfl #[.int .i64 (k : Int), .int .i64 (n : Int), .int .i64 (x : Int), .int .i64 (y : Int)] rfl (by (try simp only [List.map_toArray, List.map_cons, List.map_nil]); first | done | rfl) ?_; (with_reducible refine (touched_calls (k : Int) (n : Int) (x : Int) (y : Int) r1 r2 0 _ HT.out).mono ?_); rintro e w' ⟨rfl, ⟨nd, rfl⟩⟩; refine ⟨_, rfl, ?_⟩) | ((with_reducible refine gate_callee (f := 59) rfl ?_); refine goesL_ (some 34) rfl rfl Try.func59 (by kernel_rfl) rfl #[.int .i64 (k : Int), .int .i64 (n : Int)] rfl (by (try simp only [List.map_toArray, List.map_cons, List.map_nil]); first | done | rfl) ?_; (with_reducible refine (HL.out _).mono ?_); rintro e w' ⟨rfl, ⟨nd, rfl⟩⟩; refine ⟨_, rfl, ?_⟩) | (go_at_call 61; (with_reducible refine (awake20_calls _).mono ?_); rintro e w26 ⟨rfl, hb⟩; have n0_ := Aside0.mk (below_step (by repeat (first | (with_reducible first | exact HB.out | apply below_alloc | apply pw_below_drewN | apply below_drew1) | exact HB.out)) hb); clear HB; have HB := n0_; clear n0_ hb))
    go_loopg [15, 16, 17] y (fun gg v15 v16 v17 w' => ∃ (s : Nat) (aa bb : Int), s + gg = y ∧ v17 = .int .i64 ((x : Int) + (s : Int)) ∧ v15 = .int .i64 aa ∧ v16 = .int .i64 bb ∧ Aside0 (aa = if s = 0 then -1 else ((x / (k * 16) : Nat) : Int)) ∧ Aside0 (bb = if s = 0 then 0 else ((nS k (x + s) : Nat) : Int)) ∧ Aside0 (Below w.heap.size w w'))
    case atStart => exact ⟨0, -1, 0, by omega, by simp, rfl, rfl, ⟨rfl⟩, ⟨rfl⟩, ⟨by repeat (first | (with_reducible first | exact HB.out | apply below_alloc | apply pw_below_drewN | apply below_drew1) | exact HB.out)⟩⟩
    case round =>
      clear HB
      obtain ⟨s, aa, bb, hsg, rfl, rfl, rfl, HA, HBB, HB⟩ := hrel
      by_cases hs : s < y
      · have hs' : (x : Int) + (s : Int) < (x : Int) + (y : Int) := by omega
        have hk := HK.out
        have hk0 : ¬ ((k : Int) * 16 = 0) := by omega
        have hq : Int.tdiv ((x : Int) + (s : Int)) ((k : Int) * 16) = (((x + s) / (k * 16) : Nat) : Int) := by
          rw [Int.tdiv_eq_ediv_of_nonneg (by omega), Int.natCast_ediv, Int.natCast_mul, Int.natCast_add]
          rfl
        have hql : (x + s) / (k * 16) ≤ x + s := Nat.div_le_self _ _
        have hnx : Aside0 (((x + s) / (k * 16) : Nat) + 1 = nS k (x + (s + 1))) := ⟨nS_last k (x + (s + 1)) (by omega) (by omega)⟩
        have hq0 : Aside0 (s = 0 → (x + s) / (k * 16) = x / (k * 16)) := ⟨fun h => by rw [h, Nat.add_zero]⟩
        obtain ⟨q, hqq⟩ : ∃ q, q = (x + s) / (k * 16) := ⟨_, rfl⟩
        rw [← hqq] at hq hql hnx hq0
        have hqw : IntKind.i64.wrap (q : Int) = (q : Int) := IntWalk.i64_in _ (by omega)
        have hqw1 : IntKind.i64.wrap ((q : Int) + 1) = (q : Int) + 1 := IntWalk.i64_in _ (by omega)
        have hsw : IntKind.i64.wrap ((x : Int) + (s : Int) + 1) = (x : Int) + (s : Int) + 1 := IntWalk.i64_in _ (by omega)
        clear hqq hk hql
        by_cases h0 : s = 0
        · obtain rfl : aa = -1 := by rw [HA.out, if_pos h0]
          have HQ := Aside0.mk (hq0.out h0)
          clear h0 hq0
          go_wp2
          go_roundg (y - (s + 1))
          case measure => omega
          case rel => exact ⟨s + 1, (q : Int), (q : Int) + 1, by omega, by go_num, rfl, rfl, ⟨by rw [if_neg (by omega), HQ.out]⟩, ⟨by rw [if_neg (by omega), ← hnx.out]; rfl⟩, HB⟩
        · have ha : ¬ aa < 0 := by rw [HA.out, if_neg h0]; exact Int.not_lt.mpr (Int.natCast_nonneg _)
          have HA2 : Aside0 (aa = if s + 1 = 0 then -1 else ((x / (k * 16) : Nat) : Int)) := ⟨by rw [HA.out, if_neg h0, if_neg (by omega)]⟩
          clear h0 hq0 HA
          go_wp2
          go_roundg (y - (s + 1))
          case measure => omega
          case rel => exact ⟨s + 1, aa, (q : Int) + 1, by omega, by go_num, rfl, rfl, HA2, ⟨by rw [if_neg (by omega), ← hnx.out]; rfl⟩, HB⟩
      · have hs' : ¬ (x : Int) + (s : Int) < (x : Int) + (y : Int) := by omega
        obtain rfl : s = y := by omega
        obtain rfl : bb = r2 := by rw [HBB.out, HR2.out]
        by_cases h0 : s = 0
        · obtain rfl : aa = -1 := by rw [HA.out, if_pos h0]
          obtain rfl : r1 = 0 := by rw [HR1.out, if_pos h0]
          clear h0
          go_wp2_with (first | (go_at_call 61; (with_reducible refine (awake20_calls _).mono ?_); rintro e w26 ⟨rfl, hb⟩; have n0_ := Aside0.mk (below_step (by repeat (first | (with_reducible first | exact HB.out | apply below_alloc | apply pw_below_drewN | apply below_drew1) | exact HB.out)) hb); clear HB; have HB := n0_; clear n0_ hb))
          go_ret
          exact ⟨by first | rfl | (simp [errW_none, errW_some] <;> rfl) | (simp [*, errW_none, errW_some] <;> rfl), by repeat (first | (with_reducible first | exact HB.out | apply below_alloc | apply pw_below_drewN | apply below_drew1) | exact HB.out)⟩
        · obtain rfl : aa = r1 := by rw [HA.out, HR1.out, if_neg h0, if_neg h0]
          have ha : ¬ aa < 0 := by rw [HA.out, if_neg h0]; exact Int.not_lt.mpr (Int.natCast_nonneg _)
          clear h0
          go_wp2_with (first | (go_at_call 61; (with_reducible refine (awake20_calls _).mono ?_); rintro e w26 ⟨rfl, hb⟩; have n0_ := Aside0.mk (below_step (by repeat (first | (with_reducible first | exact HB.out | apply below_alloc | apply pw_below_drewN | apply below_drew1) | exact HB.out)) hb); clear HB; have HB := n0_; clear n0_ hb))
          go_ret
          exact ⟨by first | rfl | (simp [errW_none, errW_some] <;> rfl) | (simp [*, errW_none, errW_some] <;> rfl), by repeat (first | (with_reducible first | exact HB.out | apply below_alloc | apply pw_below_drewN | apply below_drew1) | exact HB.out)⟩
  · have HT := Aside0.mk (evTouched_bad a0 a1 x y hl)
    have HL := Aside0.mk (refLength_calls a0 a1)
    generalize (lenR a0 a1).2 = e0 at *
    generalize (lenR a0 a1).1 = e1 at *
    have e0b : (e0 == 0) = false := beq_eq_false_iff_ne.mpr hl
    have e0c : (e0 != 0) = true := bne_iff_ne.mpr hl
    have HB := Aside0.mk (Below.refl w.heap.size w)
    go_enter Try.func15, Try.ntmps15
    go_upto_region 1 with (fail)
    obtain ⟨p0, p1⟩ := pair_cells w (.int .i64 x) (.int .i64 y) 68 (0, 0)
    have HB2 : Aside0 (Below w.heap.size w (w.alloc (.cells #[.int .i64 x, .int .i64 y] 68 (0, 0)))) := ⟨by repeat (first | (with_reducible first | exact HB.out | apply below_alloc | apply pw_below_drewN | apply below_drew1) | exact HB.out)⟩
    clear HB
    have HB := HB2
    clear HB2
    generalize w.alloc (.cells #[.int .i64 x, .int .i64 y] 68 (0, 0)) = w2 at *
    go_still (by kernel_rfl)
    go_wp2_with (first | ((with_reducible refine gate_callee (f := 67) rfl ?_); refine goesL_ (some 27) rfl rfl Try.func67 (by kernel_rfl) rfl #[.int .i64 a0, .int .i64 a1, .int .i64 x, .int .i64 y] rfl (by (try simp only [List.map_toArray, List.map_cons, List.map_nil]); first | done | rfl) ?_; (with_reducible refine (touched_calls a0 a1 x y 0 0 e0 _ HT.out).mono ?_); rintro e w' ⟨rfl, ⟨nd, rfl⟩⟩; refine ⟨_, rfl, ?_⟩) | ((with_reducible refine gate_callee (f := 59) rfl ?_); refine goesL_ (some 34) rfl rfl Try.func59 (by kernel_rfl) rfl #[.int .i64 a0, .int .i64 a1] rfl (by (try simp only [List.map_toArray, List.map_cons, List.map_nil]); first | done | rfl) ?_; (with_reducible refine (HL.out _).mono ?_); rintro e w' ⟨rfl, ⟨nd, rfl⟩⟩; refine ⟨_, rfl, ?_⟩) | (go_at_call 61; (with_reducible refine (awake20_calls _).mono ?_); rintro e w26 ⟨rfl, hb⟩; have n0_ := Aside0.mk (below_step (by repeat (first | (with_reducible first | exact HB.out | apply below_alloc | apply pw_below_drewN | apply below_drew1) | exact HB.out)) hb); clear HB; have HB := n0_; clear n0_ hb))
    go_ret
    exact ⟨by first | rfl | (simp [errW_none, errW_some] <;> rfl) | (simp [*, errW_none, errW_some] <;> rfl), by repeat (first | (with_reducible first | exact HB.out | apply below_alloc | apply pw_below_drewN | apply below_drew1) | exact HB.out)⟩
end Go.Proofs.Ytbogmlckbkogiaa.H
