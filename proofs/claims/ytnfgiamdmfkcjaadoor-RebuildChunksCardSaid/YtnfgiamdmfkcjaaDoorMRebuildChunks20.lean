/- Words and walks that the claim RebuildChunks leans on (what it does not use is left out). -/
import Derived.Test.YtnfgiamdmfkcjaaDoorMRebuildChunks8
import Derived.Test.YtnfgiamdmfkcjaaDoorMRebuildChunks15
import Derived.Test.YtnfgiamdmfkcjaaDoorMRebuildChunks19
import Derived.Test.YtnfgiamdmfkcjaaDoorMRebuildChunks13
import Derived.Test.YtnfgiamdmfkcjaaDoorMRebuildChunks2
import Derived.Test.YtnfgiamdmfkcjaaDoorMRebuildChunks1
import Derived.OpenShut
import Derived.Test.YtnfgiamdmfkcjaaDoorMRebuildChunks9
import Derived.Test.YtnfgiamdmfkcjaaDoorMRebuildChunks11
import Derived.Deep.Matrix
import Derived.SizedLaws
import Derived.ChangeSlices
import Derived.Deep.Grids
import Derived.Lib.SmallJoins
set_option linter.unusedSimpArgs false
set_option linter.unusedVariables false
namespace Go.Proofs.YtnfgiamdmfkcjaaDoor.Red
open Go.RowKit Go.Proofs.YtnfgiamdmfkcjaaDoorW.PrintWords Go.Proofs.YtnfgiamdmfkcjaaDoor.Leaf Go.Proofs.YtnfgiamdmfkcjaaDoor.Gf Go.Proofs.YtnfgiamdmfkcjaaDoor.H Go.Proofs.YtnfgiamdmfkcjaaDoor.Mx Go.Proofs.YtnfgiamdmfkcjaaDoor.P
def ixS (k i x : Nat) : Nat := (x / 16 * k + i) * 16 + x % 16
theorem ix_eq (k i x : Nat) (hk : k ≤ 254) (hi : i ≤ 254) (hx : x ≤ 70000) : (wrap64 ((wrap64 ((wrap64 ((wrap64 ((wrap64 (Int.tdiv (x : Int) 16)) * (k : Int))) + (i : Int))) * 16)) + (Int.tmod (x : Int) 16))) = ((ixS k i x : Nat) : Int) := by
  have h1 : x / 16 * k ≤ 70000 * 254 := Nat.mul_le_mul (by omega) hk
  rw [Int.tdiv_eq_ediv_of_nonneg (by omega), Int.tmod_eq_emod_of_nonneg (by omega), w64 ((x : Int) / 16) (by omega) (by omega)]
  have e1 : ((x : Int) / 16) * (k : Int) = ((x / 16 * k : Nat) : Int) := by rw [Int.natCast_mul, Int.natCast_ediv]; rfl
  rw [e1]
  unfold ixS
  generalize x / 16 * k = q at *
  rw [w64 (q : Int) (by omega) (by omega), w64 ((q : Int) + (i : Int)) (by omega) (by omega), w64 (((q : Int) + (i : Int)) * 16) (by omega) (by omega), w64 _ (by omega) (by omega)]
  omega
def rowS (k : Nat) (L : List B) (i : Nat) (n : Nat) : List B := (List.range n).map fun x => at0 L (ixS k i x)
theorem rowS_eq (k n : Nat) (L : List B) (i : Nat) (hn : n % 16 = 0) : rowS k L i n = spR k n L i (n / 16) := by
  unfold rowS spR
  refine List.map_congr_left fun x hx => ?_
  rw [if_pos (by have := List.mem_range.1 hx; omega)]
  rfl
theorem split_l1 (k n : Nat) (L : List B) (hL : L.length ≤ 4096) (hk : k ≤ 254) (hn : n ≤ 70000) (hn16 : n % 16 = 0) (b : Int) (r : List (List Int) × Int) (i : Nat) (hi : i < k) (X : List (List Int)) (hX : X.length ≤ 255)
    (hnext : Ev (fun f => wSp_.l0 f (k : Int) b (ofL L) (n : Int) (X ++ [ofL (spR k n L i (n / 16))]) ((i + 1 : Nat) : Int)) r) (d : Nat) : ∀ x : Nat, x + d = n →
    Ev (fun f => wSp_.l1 f (k : Int) b (ofL L) (n : Int) X (i : Int) (ofL (rowS k L i x)) (x : Int)) r := by
  induction d with
  | zero =>
    intro x hx
    obtain rfl : x = n := by omega
    refine Ev.step (f := fun f => wSp_.l0 f (k : Int) b (ofL L) (x : Int) (X ++ [ofL (spR k x L i (x / 16))]) ((i + 1 : Nat) : Int)) (fun f => ?_) hnext
    simp only [wSp_.l1]
    rw [if_neg (by omega), if_pos (by omega), rowS_eq k x L i hn16, w64 _ (by omega) (by omega)]
    rfl
  | succ d ih =>
    intro x hx
    refine Ev.step (f := fun f => wSp_.l1 f (k : Int) b (ofL L) (n : Int) X (i : Int) (ofL (rowS k L i (x + 1))) ((x + 1 : Nat) : Int)) (fun f => ?_) (ih (x + 1) (by omega))
    have hl : (rowS k L i x).length = x := by simp [rowS]
    have e : ofL (rowS k L i x) ++ [ofB (at0 L (ixS k i x))] = ofL (rowS k L i (x + 1)) := by
      unfold rowS
      rw [List.range_succ, List.map_append]
      unfold ofL
      rw [List.map_append]
      rfl
    simp only [wSp_.l1, ix_eq k i x hk (by omega) (by omega), zG_, hl, rd_ofL]
    rw [if_pos (by omega), w64 ((x : Int) + 1) (by omega) (by omega)]
    by_cases h : ixS k i x < L.length
    · rw [if_pos (by omega), if_pos (by omega), if_pos (by omega), e]
      rfl
    · rw [if_neg (by omega), if_pos (by omega)]
      have : (0 : Int) = ofB (at0 L (ixS k i x)) := by rw [at0_out _ _ (by omega)]; rfl
      rw [this, e]
      rfl
theorem split_l0 (k n : Nat) (L : List B) (hL : L.length ≤ 4096) (hk : k ≤ 254) (hn : n ≤ 70000) (hn16 : n % 16 = 0) (b : Int) (d : Nat) : ∀ i : Nat, i + d = k →
    Ev (fun f => wSp_.l0 f (k : Int) b (ofL L) (n : Int) (rowsTo k n L i) (i : Int)) (encR (k : Int) b (spM k n L)) := by
  induction d with
  | zero =>
    intro i hi
    obtain rfl : i = k := by omega
    refine Ev.step (f := fun f => (wEn_.f f (i : Int) b (oM (spM i n L))).bind fun bt107 => some (bt107.1, bt107.2)) (fun f => ?_) ?_
    · simp only [wSp_.l0]
      rw [if_neg (by omega), rowsTo_all]
    · refine Ev.bind (evRefEncode (i : Int) b (by omega) (spM i n L) (by rw [(spM_reg i n L).1]; omega) (fun j hj => by rw [(spM_reg i n L).1] at hj; rw [(spM_reg i n L).2 j hj]; omega)) ?_
      exact Ev.now _
  | succ d ih =>
    intro i hi
    refine Ev.step (f := fun f => wSp_.l1 f (k : Int) b (ofL L) (n : Int) (rowsTo k n L i) (i : Int) (ofL (rowS k L i 0)) ((0 : Nat) : Int)) (fun f => ?_) (split_l1 k n L hL hk hn hn16 b _ i (by omega) _ (by rw [rowsTo_length]; omega) (by rw [rowsTo_next]; exact ih (i + 1) (by omega)) n 0 (by omega))
    simp only [wSp_.l0]
    rw [if_pos (by omega)]
    rfl
theorem evRefSplit (a b : Int) (ha : -9223372036854775808 ≤ a) (L : List B) (hL : L.length ≤ 9223372036854775807) : Ev (fun f => wSp_.f f a b (ofL L)) (splR a b L) := by
  unfold wSp_.f splR
  simp only [code_eq a b ha, Option.bind_some]
  cases h1 : codeB a b with
  | false =>
    simp only [Bool.false_eq_true, if_false]
    exact Ev.now _
  | true =>
    obtain ⟨k, m, rfl, rfl, hk, hm, hkm⟩ := code_form h1
    simp only [if_true, zG_, Int.toNat_natCast]
    refine Ev.bind (evRefLength (k : Int) (L.length : Int)) ?_
    unfold lenR
    rw [if_pos (by omega)]
    by_cases h2 : L.length > 4096
    · rw [if_pos (by omega), if_pos h2]
      simp only [show ((3 : Int) = 0) = False from eq_false (by decide), if_false]
      exact Ev.now _
    · rw [if_neg (by omega), if_neg h2]
      simp only [if_true, Int.toNat_natCast]
      have hle := nS_le k L.length (by omega)
      exact split_l0 k (lenS k L.length) L (by omega) (by omega) (by unfold lenS; omega) (by unfold lenS; omega) (m : Int) k 0 (by omega)
/-- What Split tells, where it tells shards. -/
theorem splR_yes {k m : Nat} (hk : 1 ≤ k) (hm : 1 ≤ m) (hkm : k + m ≤ 255) (L : List B) (hL : L.length ≤ 4096) : splR (k : Int) (m : Int) L = (oM (mulM (cauM k m) (spM k (lenS k L.length) L)), 0) ∧ Reg (mulM (cauM k m) (spM k (lenS k L.length) L)) (k + m) (lenS k L.length) := by
  have hc : codeB (k : Int) (m : Int) = true := by unfold codeB; simp; omega
  have hD := spM_reg k (lenS k L.length) L
  refine ⟨?_, mulM_reg (cauM_reg k m) hD (by omega)⟩
  unfold splR encR
  rw [if_pos hc, if_neg (by omega), Int.toNat_natCast, Int.toNat_natCast, if_pos ⟨hc, (evenB_iff _ k).2 (by rw [hD.2 0 (by omega)]; exact hD)⟩]
end Go.Proofs.YtnfgiamdmfkcjaaDoor.Red
namespace Go.Proofs.YtnfgiamdmfkcjaaDoor.Pure
open Go.RowKit Go.Proofs.YtnfgiamdmfkcjaaDoorW.PrintWords Go.Proofs.YtnfgiamdmfkcjaaDoor.Leaf Go.Proofs.YtnfgiamdmfkcjaaDoor.P Go.Proofs.YtnfgiamdmfkcjaaDoor.Gf Go.Proofs.YtnfgiamdmfkcjaaDoor.Red Go.Proofs.YtnfgiamdmfkcjaaDoor.H Go.Proofs.YtnfgiamdmfkcjaaDoor.Mx
theorem rdB (H : List Bool) (i : Nat) : rdOf false H (i : Int) = H.getD i false := rfl
/-- The shards that one has are of one length. -/
def EvA (A : Mat) (H : List Bool) : Prop := ∀ u v, u ∈ selN H H.length → v ∈ selN H H.length → (row A u).length = (row A v).length
theorem evD_iff {A : Mat} {H : List Bool} (h0 : 0 < (selM A H).length) : evD A H = true ↔ EvA A H := by
  have hl := selM_length A H
  have e : evD A H = evenB (selM A H) ((selM A H).length : Int) := by
    unfold evD
    rw [code_even_eq _ _ (by omega)]
    rfl
  rw [e, evenB_iff]
  constructor
  · intro h u v hu hv
    obtain ⟨i, hi, rfl⟩ := List.mem_iff_getElem.1 hu
    obtain ⟨j, hj, rfl⟩ := List.mem_iff_getElem.1 hv
    have h1 := h.2 i (by omega)
    have h2 := h.2 j (by omega)
    rw [row_selM _ _ _ hi, List.getD_eq_getElem?_getD, List.getElem?_eq_getElem hi] at h1
    rw [row_selM _ _ _ hj, List.getD_eq_getElem?_getD, List.getElem?_eq_getElem hj] at h2
    exact h1.trans h2.symm
  · intro h
    refine ⟨rfl, fun i hi => ?_⟩
    rw [row_selM _ _ _ (by omega), row_selM _ _ _ (by omega)]
    exact h _ _ (getD_mem (by omega)) (getD_mem (by omega))
def Zs (T : List B) : Prop := ∀ x ∈ T, x = 0#8
theorem ofL_take (T : List B) (n : Nat) : (ofL T).take n = ofL (T.take n) := by unfold ofL; rw [List.map_take]
theorem ofL_drop (T : List B) (n : Nat) : (ofL T).drop n = ofL (T.drop n) := by unfold ofL; rw [List.map_drop]
theorem ofL_append (T U : List B) : ofL T ++ ofL U = ofL (T ++ U) := by unfold ofL; rw [List.map_append]
theorem zs_take_last (T : List B) (n : Nat) (hn : T.length = n + 1) (h : at0 T n = 0#8) : Zs T ↔ Zs (T.take n) := by
  constructor
  · exact fun hz x hx => hz x (List.mem_of_mem_take hx)
  · intro hz x hx
    obtain ⟨i, hi, rfl⟩ := List.mem_iff_getElem.1 hx
    by_cases e : i = n
    · subst e
      unfold at0 at h
      rw [List.getD_eq_getElem?_getD, List.getElem?_eq_getElem hi] at h
      exact h
    · exact hz _ (List.mem_iff_getElem.2 ⟨i, by rw [List.length_take]; omega, by rw [List.getElem_take]⟩)
theorem trimR_l0 (n : Nat) : ∀ T : List B, T.length = n → n ≤ 140737488355327 → ∃ U : List B, Ev (fun k => wTr_.l0 k (ofL T) 0) (ofL U) ∧ U.length ≤ n ∧ (Zs T ↔ Zs U) := by
  induction n with
  | zero =>
    intro T hT _
    refine ⟨T, Ev.step (f := fun _ => some (ofL T)) (fun k => ?_) (Ev.now _), by omega, Iff.rfl⟩
    simp only [wTr_.l0]
    rw [if_neg (by rw [zG_]; omega)]
  | succ n ih =>
    intro T hT hn
    have hw : wrap64 ((T.length : Int) - 1) = (n : Int) := by rw [w64 _ (by omega) (by omega)]; omega
    by_cases h : at0 T n = 0#8
    · obtain ⟨U, hU, hl, hz⟩ := ih (T.take n) (by rw [List.length_take]; omega) (by omega)
      refine ⟨U, Ev.step (fun k => ?_) hU, by omega, (zs_take_last T n hT h).trans hz⟩
      simp only [wTr_.l0, zG_, hw]
      rw [if_pos (by omega), if_pos (by omega), if_pos (by omega), rd_ofL, h, if_pos ofB_zero, if_pos (by omega), Int.toNat_natCast, ofL_take]
    · refine ⟨T, Ev.step (f := fun _ => some (ofL T)) (fun k => ?_) (Ev.now _), by omega, Iff.rfl⟩
      simp only [wTr_.l0, zG_, hw]
      rw [if_pos (by omega), if_pos (by omega), if_pos (by omega), rd_ofL, if_neg (fun e => h ((ofB_eq_zero _).1 e))]
theorem trimL_l0 (n : Nat) : ∀ T : List B, T.length = n → ∃ U : List B, Ev (fun k => wTl_.l0 k (ofL T) 0) (ofL U) ∧ (U = [] ↔ Zs T) := by
  induction n with
  | zero =>
    intro T hT
    obtain rfl : T = [] := List.length_eq_zero_iff.1 hT
    refine ⟨[], Ev.step (f := fun _ => some []) (fun k => ?_) (Ev.now _), ⟨fun _ x hx => absurd hx List.not_mem_nil, fun _ => rfl⟩⟩
    simp only [wTl_.l0]
    rfl
  | succ n ih =>
    intro T hT
    match T, hT with
    | c :: T', hT =>
      have hT' : T'.length = n := by simpa using hT
      by_cases h : c = 0#8
      · obtain ⟨U, hU, hz⟩ := ih T' hT'
        refine ⟨U, Ev.step (fun k => ?_) hU, hz.trans ⟨fun h' x hx => ?_, fun h' x hx => h' x (List.mem_cons_of_mem _ hx)⟩⟩
        · simp only [wTl_.l0, zG_]
          rw [if_pos (by omega), if_pos (by omega), if_pos (by subst h; rfl), if_pos (by omega), ofL_drop]
          rfl
        · rcases List.mem_cons.1 hx with rfl | hx
          · exact h
          · exact h' x hx
      · refine ⟨c :: T', Ev.step (f := fun _ => some (ofL (c :: T'))) (fun k => ?_) (Ev.now _), ⟨fun e => (List.cons_ne_nil _ _ e).elim, fun hz => absurd (hz c List.mem_cons_self) h⟩⟩
        simp only [wTl_.l0, zG_]
        rw [if_pos (by omega), if_pos (by omega), if_neg (show ¬ rd (ofL (c :: T')) 0 = 0 from fun e => h ((ofB_eq_zero _).1 e)), if_neg (by omega)]
theorem evTrim (T : List B) (hT : T.length ≤ 140737488355327) : ∃ V : List B, Ev (fun k => bytes_Trim.f k (ofL T) (⟨#[0]⟩ : ByteArray)) (ofL V) ∧ (V = [] ↔ Zs T) := by
  by_cases h0 : T.length = 0
  · obtain rfl : T = [] := List.length_eq_zero_iff.1 h0
    exact ⟨[], Ev.congr (f := fun _ => some []) (fun k => rfl) (Ev.now _), ⟨fun _ x hx => absurd hx List.not_mem_nil, fun _ => rfl⟩⟩
  · obtain ⟨U, hU, hl, hz⟩ := trimR_l0 T.length T rfl hT
    obtain ⟨V, hV, hz2⟩ := trimL_l0 U.length U rfl
    refine ⟨V, Ev.congr (f := fun k => (wTr_.l0 k (ofL T) 0).bind fun t => wTl_.l0 k t 0) (fun k => ?_) (Ev.bind hU hV), hz2.trans hz.symm⟩
    unfold bytes_Trim.f wTr_.f wTl_.f
    rw [if_pos rfl, if_neg (by rw [zG_]; exact h0)]
def chunk (D : Mat) (s i : Nat) : List B := ((row D i).take ((s + 1) * 16)).drop (s * 16)
def blkJ (D : Mat) (s k : Nat) : List B := (List.range k).flatMap (chunk D s)
def joinB (D : Mat) (k S : Nat) : List B := (List.range S).flatMap fun s => blkJ D s k
theorem chunk_length {D : Mat} {k p s i : Nat} (hD : ∀ j, j < k → (row D j).length = p) (hs : (s + 1) * 16 ≤ p) (hi : i < k) : (chunk D s i).length = 16 := by
  unfold chunk
  rw [List.length_drop, List.length_take, hD i hi]
  omega
theorem blkJ_succ (D : Mat) (s i : Nat) : blkJ D s (i + 1) = blkJ D s i ++ chunk D s i := by
  unfold blkJ
  rw [List.range_succ, List.flatMap_append]
  simp
theorem joinB_succ (D : Mat) (k S : Nat) : joinB D k (S + 1) = joinB D k S ++ blkJ D S k := by
  unfold joinB
  rw [List.range_succ, List.flatMap_append]
  simp
theorem blkJ_length {D : Mat} {k p s : Nat} (hD : ∀ j, j < k → (row D j).length = p) (hs : (s + 1) * 16 ≤ p) : ∀ i, i ≤ k → (blkJ D s i).length = i * 16 := by
  intro i
  induction i with
  | zero => intro _; rfl
  | succ i ih =>
    intro hi
    rw [blkJ_succ, List.length_append, ih (by omega), chunk_length hD hs (by omega)]
    omega
theorem joinB_length {D : Mat} {k p : Nat} (hD : ∀ j, j < k → (row D j).length = p) : ∀ S, S * 16 ≤ p → (joinB D k S).length = S * (k * 16) := by
  intro S
  induction S with
  | zero => intro _; simp [joinB]
  | succ S ih =>
    intro hS
    rw [joinB_succ, List.length_append, ih (by omega), blkJ_length hD hS k (Nat.le_refl _), Nat.succ_mul]
theorem at0_append (L M : List B) (y : Nat) : at0 (L ++ M) y = if y < L.length then at0 L y else at0 M (y - L.length) := by
  unfold at0
  rw [List.getD_eq_getElem?_getD, List.getElem?_append, List.getD_eq_getElem?_getD, List.getD_eq_getElem?_getD]
  split <;> rfl
theorem at0_chunk {D : Mat} {k p s i : Nat} (hD : ∀ j, j < k → (row D j).length = p) (hs : (s + 1) * 16 ≤ p) (hi : i < k) (z : Nat) (hz : z < 16) : at0 (chunk D s i) z = at0 (row D i) (s * 16 + z) := by
  unfold chunk at0
  rw [List.getD_eq_getElem?_getD, List.getElem?_drop, List.getElem?_take_of_lt (by omega), List.getD_eq_getElem?_getD]
theorem at0_blkJ {D : Mat} {k p s : Nat} (hD : ∀ j, j < k → (row D j).length = p) (hs : (s + 1) * 16 ≤ p) : ∀ i, i ≤ k → ∀ y, y < i * 16 → at0 (blkJ D s i) y = at0 (row D (y / 16)) (s * 16 + y % 16) := by
  intro i
  induction i with
  | zero => intro _ y hy; omega
  | succ i ih =>
    intro hi y hy
    rw [blkJ_succ, at0_append, blkJ_length hD hs i (by omega)]
    by_cases h : y < i * 16
    · rw [if_pos h]
      exact ih (by omega) y h
    · rw [if_neg h, at0_chunk hD hs (by omega) _ (by omega), show y / 16 = i by omega, show y - i * 16 = y % 16 by omega]
theorem at0_joinB {D : Mat} {k p : Nat} (hk : 0 < k) (hD : ∀ j, j < k → (row D j).length = p) : ∀ S, S * 16 ≤ p → ∀ y, y < S * (k * 16) → at0 (joinB D k S) y = at0 (row D (y / 16 % k)) (y / 16 / k * 16 + y % 16) := by
  intro S
  induction S with
  | zero => intro _ y hy; omega
  | succ S ih =>
    intro hS y hy
    rw [joinB_succ, at0_append, joinB_length hD S (by omega)]
    by_cases h : y < S * (k * 16)
    · rw [if_pos h]
      exact ih (by omega) y h
    · rw [if_neg h]
      have e1 : S * (k * 16) = 16 * (k * S) := by rw [Nat.mul_comm k 16, ← Nat.mul_assoc, Nat.mul_comm S 16, Nat.mul_assoc, Nat.mul_comm S k]
      have hlt : y - S * (k * 16) < k * 16 := by rw [Nat.succ_mul] at hy; omega
      rw [at0_blkJ hD hS k (Nat.le_refl _) _ hlt]
      have e2 : (y - S * (k * 16)) / 16 = y / 16 - k * S := by omega
      have e3 : (y - S * (k * 16)) % 16 = y % 16 := by omega
      have e4 : k * S ≤ y / 16 := by omega
      have e5 : y / 16 - k * S < k := by omega
      have e6 : y / 16 % k = y / 16 - k * S := by
        have : y / 16 = (y / 16 - k * S) + k * S := by omega
        rw [this, Nat.add_mul_mod_self_left, Nat.mod_eq_of_lt e5]
        omega
      have e7 : y / 16 / k = S := by
        have : y / 16 = (y / 16 - k * S) + k * S := by omega
        rw [this, Nat.add_mul_div_left _ _ hk, Nat.div_eq_of_lt e5, Nat.zero_add]
      rw [e2, e3, e6, e7]
instance (T : List B) : Decidable (Zs T) := inferInstanceAs (Decidable (∀ x ∈ T, x = 0#8))
/-- What Join makes of the units put together. -/
def finJ (n : Nat) (J : List B) : List Int × Int := if Zs (J.drop n) then (ofL (J.take n), 0) else ([], 8)
theorem join_l2 {D : Mat} {k p : Nat} (hk : k ≤ 255) (hl : k ≤ D.length) (hD : ∀ j, j < k → (row D j).length = p) (hp : p ≤ 70000) (n : Int) (r : List Int × Int) (s S : Nat) (hs : (s + 1) * 16 ≤ p) (J : List B) (hJ : J.length ≤ 20000000)
 (hnext : Ev (fun f => wJo_.l1 f (k : Int) n (oM D) (ofL (J ++ blkJ D s k)) (S : Int) ((s + 1 : Nat) : Int)) r) (d : Nat) : ∀ i : Nat, i + d = k →
 Ev (fun f => wJo_.l2 f (k : Int) n (oM D) (ofL (J ++ blkJ D s i)) (s : Int) (S : Int) (s : Int) (k : Int) (i : Int)) r := by
 have w1 : wrap64 ((s : Int) * 16) = ((s * 16 : Nat) : Int) := by rw [w64 _ (by omega) (by omega)]; omega
 have w2 : wrap64 ((s : Int) + 1) = ((s + 1 : Nat) : Int) := by rw [w64 _ (by omega) (by omega)]; omega
 have w3 : wrap64 (((s + 1 : Nat) : Int) * 16) = (((s + 1) * 16 : Nat) : Int) := by rw [w64 _ (by omega) (by omega)]; omega
 induction d with
 | zero =>
  intro i hi
  obtain rfl : i = k := by omega
  refine Ev.step (fun f => ?_) hnext
  simp only [wJo_.l2, w2]
  rw [if_neg (by omega)]
 | succ d ih =>
  intro i hi
  have hb := blkJ_length hD hs i (by omega)
  have hc := chunk_length hD hs (show i < k by omega)
  have hn := ih (i + 1) (by omega)
  refine Ev.step (fun f => ?_) hn
  simp only [wJo_.l2, w1, w2, w3, rd_oM, zG_, oM_length]
  rw [if_pos (by omega), if_pos (by omega), if_pos (by omega), if_pos (by omega), if_pos (by omega), if_pos (by rw [hD i (by omega)]; omega), Option.bind_some, Int.toNat_natCast, Int.toNat_natCast, ofL_take, ofL_drop]
  rw [show ((row D i).take ((s + 1) * 16)).drop (s * 16) = chunk D s i from rfl, if_pos (by rw [zG_, hc, List.length_append, hb]; omega), ofL_append, List.append_assoc, ← blkJ_succ, w64 ((i : Int) + 1) (by omega) (by omega)]
  rfl
theorem join_l1 {D : Mat} {k p : Nat} (hk : k ≤ 255) (hl : k ≤ D.length) (hD : ∀ j, j < k → (row D j).length = p) (hp : p ≤ 70000) (n : Nat) (S : Nat) (hS : S * 16 = p) (hn : n ≤ S * (k * 16)) (d : Nat) : ∀ s : Nat, s + d = S →
 Ev (fun f => wJo_.l1 f (k : Int) (n : Int) (oM D) (ofL (joinB D k s)) (S : Int) (s : Int)) (finJ n (joinB D k S)) := by
 induction d with
 | zero =>
  intro s hs
  obtain rfl : s = S := by omega
  have hJ := joinB_length hD s (by omega)
  obtain ⟨V, hV, hz⟩ := evTrim ((joinB D k s).drop n) (by
   rw [List.length_drop, hJ]
   have : s * (k * 16) ≤ 70000 * 255 := by
    calc s * (k * 16) = s * 16 * k := by rw [Nat.mul_comm k 16, Nat.mul_assoc]
     _ ≤ 70000 * 255 := Nat.mul_le_mul (by omega) hk
   omega)
  refine Ev.step (f := fun f => (bytes_Trim.f f (ofL ((joinB D k s).drop n)) (⟨#[0]⟩ : ByteArray)).bind fun t115 => (if (t115.length : Int) > 0 then (some (([] : List Int), 8)) else (some (ofL ((joinB D k s).take n), 0)))) (fun f => ?_) ?_
  ·simp only [wJo_.l1]
   rw [if_neg (by omega), if_pos (by omega), if_pos (by rw [zG_, hJ]; omega), Int.toNat_natCast, ofL_drop, ofL_take]
  ·refine Ev.bind hV ?_
   unfold finJ
   by_cases h : Zs ((joinB D k s).drop n)
   ·rw [if_pos h, hz.2 h]
    exact Ev.now _
   ·rw [if_neg h]
    have h0 : 0 < V.length := Nat.pos_of_ne_zero fun e => h (hz.1 (List.length_eq_zero_iff.1 e))
    simp only [show ((ofL V).length : Int) > 0 from by rw [zG_]; omega, if_true]
    exact Ev.now _
 | succ d ih =>
  intro s hs
  have hJ := joinB_length hD s (by omega)
  have hb : s * (k * 16) ≤ 20000000 := by
   have : s * (k * 16) ≤ 70000 * 255 := by
    calc s * (k * 16) = s * 16 * k := by rw [Nat.mul_comm k 16, Nat.mul_assoc]
     _ ≤ 70000 * 255 := Nat.mul_le_mul (by omega) hk
   omega
  have hnx := ih (s + 1) (by omega)
  rw [joinB_succ] at hnx
  have h2 := join_l2 hk hl hD hp (n : Int) (finJ n (joinB D k S)) s S (by omega) (joinB D k s) (by rw [hJ]; exact hb) hnx k 0 (by omega)
  refine Ev.step (fun f => ?_) h2
  simp only [wJo_.l1]
  rw [if_pos (by omega), show blkJ D s 0 = [] from rfl, List.append_nil]
  rfl
/-- The shards that one has are p bytes long. -/
def okLen (S : Mat) (H : List Bool) (p : Nat) : Prop := ∀ i, i < H.length → H.getD i false = true → (row S i).length = p
theorem join_l0 (a b n : Int) (S : Mat) (H : List Bool) (hSH : S.length = H.length) (hH : H.length ≤ 140737488351232) (p : Nat) (r : List Int × Int)
 (hgood : okLen S H p → Ev (fun f => (code_Decode.f a b (oM S) H).bind fun bt106 => (if bt106.2 = 0 then (wJo_.l1 f a n bt106.1 ([] : List Int) (wrap64 (Int.tdiv (p : Int) 16)) 0) else (some (([] : List Int), bt106.2)))) r)
 (hbad : ¬ okLen S H p → r = ([], 8)) (d : Nat) : ∀ i : Nat, i + d = H.length → (∀ j, j < i → H.getD j false = true → (row S j).length = p) →
 Ev (fun f => wJo_.l0 f a b n (oM S) H (p : Int) H (H.length : Int) (i : Int)) r := by
 induction d with
 | zero =>
  intro i hi hok
  obtain rfl : i = H.length := by omega
  refine Ev.step (fun f => ?_) (hgood hok)
  simp only [wJo_.l0]
  rw [if_neg (by omega)]
 | succ d ih =>
  intro i hi hok
  have wi : wrap64 ((i : Int) + 1) = ((i + 1 : Nat) : Int) := w64 _ (by omega) (by omega)
  by_cases h : H.getD i false = true
  ·by_cases hl : (row S i).length = p
   ·refine Ev.step (fun f => ?_) (ih (i + 1) (by omega) (fun j hj hb => by
     by_cases e : j = i
     ·subst e; exact hl
     ·exact hok j (by omega) hb))
    simp only [wJo_.l0]
    rw [if_pos (by omega), if_pos (by omega), if_pos (by omega), rdB, if_pos h, if_pos (by rw [oM_length]; omega), rd_oM, zG_, if_pos (by omega), wi]
   ·rw [hbad (fun ho => hl (ho i (by omega) h))]
    refine Ev.step (f := fun _ => some ([], 8)) (fun f => ?_) (Ev.now _)
    simp only [wJo_.l0]
    rw [if_pos (by omega), if_pos (by omega), if_pos (by omega), rdB, if_pos h, if_pos (by rw [oM_length]; omega), rd_oM, zG_, if_neg (by omega)]
  ·refine Ev.step (fun f => ?_) (ih (i + 1) (by omega) (fun j hj hb => by
    by_cases e : j = i
    ·subst e; exact absurd hb h
    ·exact hok j (by omega) hb))
   simp only [wJo_.l0]
   rw [if_pos (by omega), if_pos (by omega), if_pos (by omega), rdB, if_neg h, wi]
theorem okLen_EvA {S : Mat} {H : List Bool} {p : Nat} (h : okLen S H p) : EvA S H := fun u v hu hv => by
 rw [h u (selN_lt hu) (List.mem_filter.1 hu).2, h v (selN_lt hv) (List.mem_filter.1 hv).2]
theorem decR_okLen {k m p : Nat} (hc : codeB (k : Int) (m : Int) = true) {S : Mat} {H : List Bool} (hS : S.length = k + m) (hH : H.length = k + m) (h : okLen S H p) :
 decR (k : Int) (m : Int) S H = if ((selN H H.length).length : Int) < (k : Int) then ([], 4) else (oM (decM k m S H), 0) := by
 unfold decR
 rw [if_pos ⟨hc, by omega, by omega⟩, if_neg, Int.toNat_natCast, Int.toNat_natCast, selM_length]
 rintro ⟨h2, h3⟩
 rw [(evD_iff h2).2 (okLen_EvA h)] at h3
 cases h3
open Classical in
/-- What Join answers. -/
noncomputable def joinR (a b n : Int) (S : Mat) (H : List Bool) : List Int × Int :=
 if codeB a b = true ∧ 0 ≤ n ∧ (S.length : Int) = a + b ∧ (H.length : Int) = a + b then
  (if n > 4096 then ([], 3) else if okLen S H (lenS a.toNat n.toNat) then
   (if ((selN H H.length).length : Int) < a then ([], 4) else finJ n.toNat (joinB (decM a.toNat b.toNat S H) a.toNat (nS a.toNat n.toNat))) else ([], 8))
 else ([], 1)
theorem evJoin (a b n : Int) (ha : -9223372036854775808 ≤ a) (S : Mat) (hr : ∀ i, i < S.length → (row S i).length ≤ 140737488355327) (H : List Bool) : Ev (fun f => wJo_.f f a b n (oM S) H) (joinR a b n S H) := by
 have no : Ev (fun f => wJo_.j0 f a b n (oM S) H true) (([] : List Int), (1 : Int)) := Ev.step (f := fun _ => some ([], 1)) (fun f => by simp only [wJo_.j0, if_true]) (Ev.now _)
 unfold wJo_.f joinR
 simp only [is_eq, Option.bind_some]
 rcases codeB_form a b with ⟨h1, k, m, rfl, rfl, hk, hm, h, e⟩ | ⟨h1, e⟩
 ·have hw : wrap64 ((k : Int) + (m : Int)) = (k : Int) + (m : Int) := w64 _ (by omega) (by omega)
  simp only [h1, if_true, hw, oM_length, true_and]
  by_cases h2 : n < 0
  ·rw [if_neg (fun hh => absurd hh.1 (by omega))]
   simp only [if_pos h2]
   exact no
  ·simp only [if_neg h2]
   by_cases h3 : (S.length : Int) = (k : Int) + (m : Int)
   ·simp only [if_pos h3]
    by_cases h4 : (H.length : Int) = (k : Int) + (m : Int)
    ·rw [show ((H.length : Int) != (k : Int) + (m : Int)) = false from bne_eq_false_iff_eq.mpr h4, if_pos ⟨by omega, h3, h4⟩]
     obtain ⟨n, rfl⟩ := Int.eq_ofNat_of_zero_le (show 0 ≤ n by omega)
     simp only [Int.toNat_natCast]
     refine Ev.step (f := fun f => (stripe_Length.f f (k : Int) (n : Int)).bind fun bt102 => (if bt102.2 = 0 then (wJo_.l0 f (k : Int) (m : Int) (n : Int) (oM S) H bt102.1 H (H.length : Int) 0) else (some (([] : List Int), bt102.2)))) (fun f => by simp only [wJo_.j0, Bool.false_eq_true, if_false]) ?_
     refine Ev.bind (evLength (k : Int) (n : Int)) ?_
     unfold lenR
     rw [if_pos (by omega)]
     by_cases h5 : (n : Int) > 4096
     ·simp only [if_pos h5, show ((3 : Int) = 0) = False from eq_false (by decide), if_false]
      exact Ev.now _
     ·simp only [if_neg h5, if_true, Int.toNat_natCast]
      have hn1 := nS_le k n hk
      have hn2 := (nS_spec k n hk).1
      refine join_l0 (k : Int) (m : Int) (n : Int) S H (by omega) (by omega) (lenS k n) _ (fun hok => ?_) (fun hok => by rw [if_neg hok]) H.length 0 (by omega) (fun j hj => absurd hj (Nat.not_lt_zero j))
      rw [if_pos hok]
      simp only [code_Decode.f_oM (k : Int) (m : Int) ha S hr H, Option.bind_some]
      rw [decR_okLen h1 (by omega) (by omega) hok]
      by_cases h6 : ((selN H H.length).length : Int) < (k : Int)
      ·simp only [if_pos h6, show ((4 : Int) = 0) = False from eq_false (by decide), if_false]
       exact Ev.now _
      ·simp only [if_neg h6, if_true]
       have hS : Reg (selM S H) (selN H H.length).length (lenS k n) := by
        refine ⟨selM_length S H, fun i hi => ?_⟩
        rw [row_selM _ _ _ hi]
        have hm := getD_mem (l := selN H H.length) (i := i) hi
        exact hok _ (selN_lt hm) (List.mem_filter.1 hm).2
       obtain ⟨Y, hY, e1, e2, e3⟩ := decM_law hk h (H := H) (by omega) (by omega) hS
       have hD := mulM_reg (cauM_reg k m) hY hk
       rw [← e1] at hD
       have hwd : wrap64 (Int.tdiv ((lenS k n : Nat) : Int) 16) = ((nS k n : Nat) : Int) := by
        have e0 : Int.tdiv ((lenS k n : Nat) : Int) 16 = ((lenS k n / 16 : Nat) : Int) := (Int.ofNat_tdiv (lenS k n) 16).symm
        rw [e0, show lenS k n / 16 = nS k n by unfold lenS; omega]
        exact w64 _ (by omega) (by omega)
       rw [hwd]
       exact join_l1 (by omega) (by rw [hD.1]; omega) (fun j hj => hD.2 j (by omega)) (by unfold lenS; omega) n (nS k n) rfl (by omega) (nS k n) 0 (by omega)
    ·rw [show ((H.length : Int) != (k : Int) + (m : Int)) = true from bne_iff_ne.mpr h4, if_neg (fun hh => h4 hh.2.2)]
     exact no
   ·rw [if_neg (fun hh => h3 hh.2.1)]
    simp only [if_neg h3]
    exact no
 ·simp only [h1, Bool.false_eq_true, if_false, false_and]
  exact no
/-- The units of an object's shards, put together: the object and noughts. -/
theorem joinB_spM {D : Mat} {k n : Nat} (hk : 0 < k) (L : List B) (hn : L.length = n) (hrow : ∀ j, j < k → row D j = row (spM k (lenS k n) L) j) :
 (joinB D k (nS k n)).take n = L ∧ Zs ((joinB D k (nS k n)).drop n) := by
 have hX := spM_reg k (lenS k n) L
 have hD : ∀ j, j < k → (row D j).length = lenS k n := fun j hj => by rw [hrow j hj]; exact hX.2 j hj
 have hJ := joinB_length hD (nS k n) (Nat.le_refl _)
 have hs := (nS_spec k n hk).1
 have hat : ∀ y, y < nS k n * (k * 16) → at0 (joinB D k (nS k n)) y = at0 L y := fun y hy => by
  have hi : y / 16 % k < k := Nat.mod_lt _ hk
  rw [at0_joinB hk hD (nS k n) (Nat.le_refl _) y hy, hrow _ hi]
  unfold spM
  rw [row_map _ _ _ hi]
  unfold spR
  have hx : y / 16 / k * 16 + y % 16 < lenS k n := by
   have h1 : y / 16 < nS k n * k := by
    rw [← Nat.mul_assoc] at hy
    omega
   have h2 : y / 16 / k < nS k n := (Nat.div_lt_iff_lt_mul hk).2 h1
   unfold lenS
   omega
  rw [at0_map _ _ _ hx, if_pos (by unfold lenS at hx ⊢; omega)]
  have e1 : (y / 16 / k * 16 + y % 16) / 16 = y / 16 / k := by omega
  have e2 : (y / 16 / k * 16 + y % 16) % 16 = y % 16 := by omega
  have e3 : y / 16 / k * k + y / 16 % k = y / 16 := by rw [Nat.mul_comm]; exact Nat.div_add_mod _ _
  rw [e1, e2, e3]
  congr 1
  omega
 constructor
 ·refine ext0 (by rw [List.length_take, hJ]; omega) fun y hy => ?_
  rw [List.length_take, hJ] at hy
  rw [← hat y (by omega)]
  unfold at0
  rw [List.getD_eq_getElem?_getD, List.getElem?_take_of_lt (by omega), List.getD_eq_getElem?_getD]
 ·intro x hx
  obtain ⟨i, hi, rfl⟩ := List.mem_iff_getElem.1 hx
  rw [List.length_drop, hJ] at hi
  have h1 := hat (n + i) (by omega)
  have h2 : at0 L (n + i) = 0#8 := at0_out L (n + i) (by omega)
  rw [h2] at h1
  unfold at0 at h1
  rw [List.getD_eq_getElem?_getD, List.getElem?_eq_getElem (by rw [hJ]; omega)] at h1
  rw [List.getElem_drop]
  exact h1
end Go.Proofs.YtnfgiamdmfkcjaaDoor.Pure
namespace Go.Proofs.YtnfgiamdmfkcjaaDoor.Crc
open Go.RowKit Go.Proofs.YtnfgiamdmfkcjaaDoorW.PrintWords Go.Proofs.YtnfgiamdmfkcjaaDoor.Leaf Go.Proofs.YtnfgiamdmfkcjaaDoor.P Go.Proofs.YtnfgiamdmfkcjaaDoor.Gf
abbrev W32 := BitVec 32
/-- One bit's step. -/
def S (x : W32) : W32 := (x >>> 1) ^^^ (if x.getLsbD 0 then 2197175160#32 else 0#32)
theorem S_xor (x y : W32) : S (x ^^^ y) = S x ^^^ S y := by
  unfold S
  rw [BitVec.ushiftRight_xor_distrib, BitVec.getLsbD_xor]
  cases x.getLsbD 0 <;> cases y.getLsbD 0
  · simp
  · simp; ac_rfl
  · simp; ac_rfl
  · simp only [Bool.xor_self, Bool.false_eq_true, if_false, if_true, BitVec.xor_zero]
    rw [show x >>> 1 ^^^ 2197175160#32 ^^^ (y >>> 1 ^^^ 2197175160#32) = x >>> 1 ^^^ y >>> 1 ^^^ (2197175160#32 ^^^ 2197175160#32) by ac_rfl, BitVec.xor_self, BitVec.xor_zero]
def Sn : Nat → W32 → W32
  | 0, x => x
  | n + 1, x => Sn n (S x)
theorem Sn_xor (n : Nat) : ∀ x y, Sn n (x ^^^ y) = Sn n x ^^^ Sn n y := by
  induction n with
  | zero => intro x y; rfl
  | succ n ih => intro x y; simp only [Sn]; rw [S_xor, ih]
theorem S_even (x : W32) (m : Nat) (h : x.toNat = 2 * m) : (S x).toNat = m := by
  unfold S
  have h0 : x.getLsbD 0 = false := by
    unfold BitVec.getLsbD
    rw [h]
    simp [Nat.testBit_zero]
  rw [h0, if_neg (by simp), BitVec.xor_zero, BitVec.toNat_ushiftRight, h, Nat.shiftRight_eq_div_pow]
  omega
theorem Sn_even (n : Nat) : ∀ (x : W32) (m : Nat), x.toNat = 2 ^ n * m → (Sn n x).toNat = m := by
  induction n with
  | zero => intro x m h; simpa [Sn] using h
  | succ n ih =>
    intro x m h
    exact ih (S x) m (S_even x _ (by rw [h, Nat.pow_succ, Nat.mul_comm (2 ^ n) 2, Nat.mul_assoc]))
def lo (x : W32) : B := x.setWidth 8
def wd (c : B) : W32 := c.setWidth 32
theorem wd_xor (a b : B) : wd (a ^^^ b) = wd a ^^^ wd b := by unfold wd; rw [BitVec.setWidth_xor]
theorem split (x : W32) : x = ((x >>> 8) <<< 8) ^^^ wd (lo x) := by
  refine BitVec.eq_of_getLsbD_eq fun i hi => ?_
  unfold wd lo
  simp only [BitVec.getLsbD_xor, BitVec.getLsbD_shiftLeft, BitVec.getLsbD_ushiftRight, BitVec.getLsbD_setWidth]
  by_cases h8 : i < 8
  · simp [h8, hi]
  · simp only [h8, hi, decide_true, decide_false, Bool.true_and, Bool.not_false, Bool.false_and, Bool.and_false, Bool.xor_false]
    rw [show 8 + (i - 8) = i by omega]
theorem S8_hi (x : W32) : Sn 8 ((x >>> 8) <<< 8) = x >>> 8 := by
  refine BitVec.eq_of_toNat_eq (Sn_even 8 _ _ ?_)
  have := x.isLt
  rw [BitVec.toNat_shiftLeft, BitVec.toNat_ushiftRight, Nat.shiftRight_eq_div_pow, Nat.shiftLeft_eq]
  omega
theorem S8_split (x : W32) : Sn 8 x = (x >>> 8) ^^^ Sn 8 (wd (lo x)) := by
  conv => lhs; rw [split x]
  rw [Sn_xor, S8_hi]
/-- One byte's step. -/
def step (x : W32) (c : B) : W32 := Sn 8 (x ^^^ wd c)
def ofW (x : W32) : Int := (x.toNat : Int)
theorem tabK_S : ∀ i : Fin 256, rd tabK (i.val : Int) = ofW (Sn 8 (wd (BitVec.ofFin i))) := by decide +kernel
theorem rdK (c : B) : rd tabK (ofB c) = ofW (Sn 8 (wd c)) := tabK_S c.toFin
theorem xor_ofW (a b : W32) : Go.bits .xor .u32 (ofW a) (ofW b) = ofW (a ^^^ b) := by
  have h1 := a.isLt
  have h2 := b.isLt
  have h := Nat.xor_lt_two_pow h1 h2
  unfold Go.bits ofW
  simp only [BitVec.ofInt_natCast, BitVec.toNat_xor, BitVec.toNat_ofNat]
  show IntKind.u32.wrap (((a.toNat % 2 ^ 32) ^^^ (b.toNat % 2 ^ 32) : Nat) : Int) = _
  rw [Nat.mod_eq_of_lt h1, Nat.mod_eq_of_lt h2, IntKind.wrap_u32]
  omega
theorem lo_ofW (x : W32) : ofW x % 256 = ofB (lo x) := by
  unfold ofW ofB lo
  rw [BitVec.toNat_setWidth]
  omega
theorem hi_ofW (x : W32) : ofW x / (256 : Int) = ofW (x >>> 8) := by
  unfold ofW
  rw [BitVec.toNat_ushiftRight, Nat.shiftRight_eq_div_pow]
  omega
theorem stepK_eq (x : W32) (c : B) : stepK (ofW x) (ofB c) = ofW (step x c) := by
  unfold stepK step
  rw [lo_ofW, xor_ofB, rdK, hi_ofW, xor_ofW, Sn_xor, S8_split x, wd_xor, Sn_xor]
  congr 1
  ac_rfl
def F (x : W32) (L : List B) : W32 := L.foldl step x
theorem foldK (L : List B) : ∀ x, (ofL L).foldl stepK (ofW x) = ofW (F x L) := by
  induction L with
  | nil => intro x; rfl
  | cons c L ih =>
    intro x
    show (ofL L).foldl stepK (stepK (ofW x) (ofB c)) = _
    rw [stepK_eq, ih]
    rfl
def ones : W32 := 4294967295#32
theorem max_ones : IntKind.u32.max = ofW ones := by decide
/-- The sum of bytes that go on behind a sum. -/
def more (s : W32) (L : List B) : W32 := ones ^^^ F (ones ^^^ s) L
def sumB (L : List B) : W32 := more 0#32 L
theorem sumMore_eq (s : W32) (L : List B) : sum_More.f (ofW s) (ofL L) = some (ofW (more s L)) := by
  unfold sum_More.f more
  rw [max_ones, xor_ofW, foldK, xor_ofW]
theorem sumOf_eq (L : List B) : sum_Of.f (ofL L) = some (ofW (sumB L)) := sumMore_eq 0#32 L
theorem refOf_l1 (L : List B) (p : Nat) (hp : p < L.length) (hs : L.length < 2 ^ 62) {v : Int} (n : Nat) : ∀ (k0 : Nat) (x : W32), k0 + n = 8 →
    Ev (fun k => wOf_.l0 k (ofL L) (ofW (Sn n (x ^^^ (wd (at0 L p) >>> k0)))) ((p + 1 : Nat) : Int)) v →
    Ev (fun k => wOf_.l1 k (ofL L) (ofW x) (p : Int) (k0 : Int)) v := by
  induction n with
  | zero =>
    intro k0 x hk h
    refine Ev.step (fun k => ?_) h
    simp only [wOf_.l1]
    have h8 : wd (at0 L p) >>> k0 = 0#32 := by
      refine BitVec.eq_of_toNat_eq ?_
      unfold wd
      have := (at0 L p).isLt
      rw [BitVec.toNat_ushiftRight, BitVec.toNat_setWidth, Nat.shiftRight_eq_div_pow, show k0 = 8 by omega, BitVec.toNat_ofNat]
      omega
    rw [if_neg (by omega), h8, BitVec.xor_zero, w64 _ (by omega) (by omega)]
    rfl
  | succ n ih =>
    intro k0 x hk h
    have hc := (at0 L p).isLt
    have hx := x.isLt
    have e1 : shr .u32 ((rd (ofL L) (p : Int)) % 4294967296) (IntKind.u64.wrap (k0 : Int)) = ofW (wd (at0 L p) >>> k0) := by
      rw [rd_ofL]
      have ek : IntKind.u64.wrap (k0 : Int) = (k0 : Int) := by rw [IntKind.wrap_u64]; omega
      rw [ek]
      have ec : ofB (at0 L p) % 4294967296 = ofW (wd (at0 L p)) := by
        unfold ofB ofW wd
        rw [BitVec.toNat_setWidth]
        omega
      rw [ec]
      have hk8 : k0 < 8 := by omega
      unfold shr ofW
      rw [Int.toNat_natCast, show min k0 IntKind.u32.bits = k0 from Nat.min_eq_left (by show k0 ≤ 32; omega), BitVec.toNat_ushiftRight, Nat.shiftRight_eq_div_pow]
      rfl
    have e2 : Int.tmod (ofW (x ^^^ (wd (at0 L p) >>> k0))) 2 = if (x ^^^ (wd (at0 L p) >>> k0)).getLsbD 0 then 1 else 0 := by
      unfold ofW
      generalize x ^^^ (wd (at0 L p) >>> k0) = y
      rw [Int.tmod_eq_emod_of_nonneg (by omega)]
      unfold BitVec.getLsbD
      rw [Nat.testBit_zero]
      by_cases h2 : y.toNat % 2 = 1
      · simp [h2]; omega
      · simp [h2]; omega
    have e3 : (Int.tdiv (ofW x) 2) % (4294967296 : Int) = ofW (x >>> 1) := by
      unfold ofW
      rw [Int.tdiv_eq_ediv_of_nonneg (by omega), BitVec.toNat_ushiftRight, Nat.shiftRight_eq_div_pow]
      omega
    have e4 : ((x >>> 1) ^^^ (if (x ^^^ (wd (at0 L p) >>> k0)).getLsbD 0 then 2197175160#32 else 0#32)) ^^^ (wd (at0 L p) >>> (k0 + 1)) = S (x ^^^ (wd (at0 L p) >>> k0)) := by
      unfold S
      rw [BitVec.ushiftRight_xor_distrib, BitVec.shiftRight_add]
      ac_rfl
    refine Ev.step (f := fun k => wOf_.l1 k (ofL L) (ofW ((x >>> 1) ^^^ (if (x ^^^ (wd (at0 L p) >>> k0)).getLsbD 0 then 2197175160#32 else 0#32))) (p : Int) ((k0 + 1 : Nat) : Int)) (fun k => ?_) (ih (k0 + 1) _ (by omega) ?_)
    · simp only [wOf_.l1, zG_]
      rw [if_pos (by omega), if_pos (by omega), if_pos (by omega), if_pos (by rw [IntKind.wrap_u64]; omega), e1, xor_ofW, e2, e3, w64 _ (by omega) (by omega)]
      cases (x ^^^ (wd (at0 L p) >>> k0)).getLsbD 0 with
      | true =>
        rw [if_pos rfl, if_pos rfl, if_pos rfl, show (2197175160 : Int) = ofW 2197175160#32 from rfl, xor_ofW]
        rfl
      | false =>
        rw [if_neg (by decide), if_neg (by decide), BitVec.xor_zero]
        rfl
    · rw [e4]
      exact h
theorem F_drop (L : List B) (p : Nat) (hp : p < L.length) (x : W32) : F x (L.drop p) = F (step x (at0 L p)) (L.drop (p + 1)) := by
  rw [List.drop_eq_getElem_cons hp]
  unfold F at0
  rw [List.foldl_cons, List.getD_eq_getElem?_getD, List.getElem?_eq_getElem hp]
  rfl
theorem refOf_l0 (L : List B) (hs : L.length < 2 ^ 62) (n : Nat) : ∀ (p : Nat) (x : W32), p + n = L.length → Ev (fun k => wOf_.l0 k (ofL L) (ofW x) (p : Int)) (ofW (F x (L.drop p) ^^^ ones)) := by
  induction n with
  | zero =>
    intro p x hp
    refine Ev.step (f := fun _ => some (ofW (x ^^^ ones))) (fun k => ?_) ?_
    · simp only [wOf_.l0, zG_]
      rw [if_neg (by omega), show (4294967295 : Int) = ofW ones from rfl, xor_ofW]
    · rw [List.drop_eq_nil_of_le (by omega)]
      exact Ev.now _
  | succ n ih =>
    intro p x hp
    refine Ev.step (f := fun k => wOf_.l1 k (ofL L) (ofW x) (p : Int) ((0 : Nat) : Int)) (fun k => ?_) (refOf_l1 L p (by omega) hs 8 0 x rfl ?_)
    · simp only [wOf_.l0, zG_]
      rw [if_pos (by omega)]
      rfl
    · rw [F_drop L p (by omega)]
      exact ih (p + 1) _ (by omega)
theorem refOf (L : List B) (hs : L.length < 2 ^ 62) : Ev (fun k => wOf_.f k (ofL L)) (ofW (sumB L)) := by
  have h := refOf_l0 L hs L.length 0 ones (by omega)
  rw [List.drop_zero] at h
  have e : sumB L = F ones L ^^^ ones := by
    show ones ^^^ F (ones ^^^ 0#32) L = _
    rw [BitVec.xor_zero, BitVec.xor_comm]
  rw [e]
  exact h
end Go.Proofs.YtnfgiamdmfkcjaaDoor.Crc
namespace Go.Proofs.YtnfgiamdmfkcjaaDoor.Rb
open Go.RowKit Go.Proofs.YtnfgiamdmfkcjaaDoorW.PrintWords Go.Proofs.YtnfgiamdmfkcjaaDoor.Leaf Go.Proofs.YtnfgiamdmfkcjaaDoor.P Go.Proofs.YtnfgiamdmfkcjaaDoor.Gf Go.Proofs.YtnfgiamdmfkcjaaDoor.Red Go.Proofs.YtnfgiamdmfkcjaaDoor.H Go.Proofs.YtnfgiamdmfkcjaaDoor.Mx Go.Proofs.YtnfgiamdmfkcjaaDoor.Crc Go.Proofs.YtnfgiamdmfkcjaaDoor.Pure
/-- A row's sum. -/
def sm (r : List B) : Int := ofW (sumB r)
/-- The chunks: the rows, and numbers for sums. -/
def ty (n : Nat) (L : Mat) (t : Nat → Int) (i : Nat) : List S44 := (List.range i).map fun j => (⟨(n : Int), ofL (row L j), t j⟩ : S44)
theorem ty_length (n : Nat) (L : Mat) (t : Nat → Int) (i : Nat) : (ty n L t i).length = i := by simp [ty]
theorem ty_succ (n : Nat) (L : Mat) (t : Nat → Int) (i : Nat) : ty n L t (i + 1) = ty n L t i ++ [(⟨(n : Int), ofL (row L i), t i⟩ : S44)] := by
 unfold ty
 rw [List.range_succ, List.map_append]
 rfl
theorem rd_ty (n : Nat) (L : Mat) (t : Nat → Int) (N i : Nat) (hi : i < N) : rd_T44 (ty n L t N) (i : Int) = ⟨(n : Int), ofL (row L i), t i⟩ := by
 unfold rd_T44 ty
 rw [Int.toNat_natCast, List.getD_eq_getElem?_getD, List.getElem?_map, List.getElem?_range hi]
 rfl
/-- One sum more. -/
def bump (t : Nat → Int) (p : Nat) : Nat → Int := fun j => if j = p then (t p + 1) % 4294967296 else t j
theorem ty_set (n : Nat) (L : Mat) (t : Nat → Int) (N p : Nat) : (ty n L t N).set p ⟨(n : Int), ofL (row L p), (t p + 1) % 4294967296⟩ = ty n L (bump t p) N := by
 refine List.ext_getElem (by rw [List.length_set, ty_length, ty_length]) fun j h1 h2 => ?_
 rw [ty_length] at h2
 rw [List.getElem_set]
 have e1 : (ty n L (bump t p) N)[j]'(by rw [ty_length]; exact h2) = ⟨(n : Int), ofL (row L j), bump t p j⟩ := by simp [ty]
 have e2 : (ty n L t N)[j]'(by rw [ty_length]; exact h2) = ⟨(n : Int), ofL (row L j), t j⟩ := by simp [ty]
 rw [e1]
 by_cases h : p = j
 ·subst h
  rw [if_pos rfl]
  unfold bump
  rw [if_pos rfl]
 ·rw [if_neg h, e2]
  unfold bump
  rw [if_neg (fun he => h he.symm)]
/-- How many of the first n. -/
def cnt (f : Nat → Bool) : Nat → Nat
 | 0 => 0
 | n + 1 => cnt f n + (if f n = true then 1 else 0)
theorem cnt_all (f : Nat → Bool) (n : Nat) (h : ∀ j, j < n → f j = true) : cnt f n = n := by
 induction n with
 | zero => rfl
 | succ n ih =>
  unfold cnt
  rw [ih (fun j hj => h j (by omega)), if_pos (h n (by omega))]
theorem cnt_bump (f g : Nat → Bool) (p n : Nat) (h : ∀ j, j ≠ p → f j = g j) : cnt f n ≤ cnt g n + (if p < n then 1 else 0) := by
 induction n with
 | zero => exact Nat.zero_le _
 | succ n ih =>
  unfold cnt
  by_cases hp : n = p
  ·subst hp
   rw [if_neg (Nat.lt_irrefl n)] at ih
   rw [if_pos (Nat.lt_succ_self n)]
   split <;> omega
  ·rw [h n hp]
   have e : (if p < n + 1 then 1 else 0) = (if p < n then 1 else 0 : Nat) := by
    by_cases h2 : p < n
    ·rw [if_pos h2, if_pos (by omega)]
    ·rw [if_neg h2, if_neg (by omega)]
   rw [e]
   omega
theorem selN_cnt (H : List Bool) (f : Nat → Bool) (n : Nat) (h : ∀ j, j < n → H.getD j false = f j) : (selN H n).length = cnt f n := by
 induction n with
 | zero => rfl
 | succ n ih =>
  unfold cnt
  have hn := h n (Nat.lt_succ_self n)
  rw [← ih (fun j hj => h j (by omega))]
  by_cases hf : f n = true
  ·rw [selN_yes (by rw [hn]; exact hf), List.length_append, if_pos hf]
   rfl
  ·rw [selN_no (by rw [hn]; simpa using hf), if_neg hf]
   rfl
theorem chunks_l0 (X : List B) (e : Int) (L : Mat) (hL : L.length ≤ 255) (d : Nat) : ∀ i : Nat, i + d = L.length → Ev (fun k => rebuild_Chunks.l0 k (ofL X) e (ty X.length L (fun j => sm (row L j)) i) (oM L) (L.length : Int) (i : Int)) (ty X.length L (fun j => sm (row L j)) L.length, e) := by
 induction d with
 | zero =>
  intro i hi
  obtain rfl : i = L.length := by omega
  refine Ev.step (fun f => ?_) (Ev.now _)
  simp only [rebuild_Chunks.l0]
  rw [if_neg (by omega)]
 | succ d ih =>
  intro i hi
  have hn := ih (i + 1) (by omega)
  rw [ty_succ] at hn
  refine Ev.step (fun f => ?_) hn
  simp only [rebuild_Chunks.l0]
  rw [if_pos (by omega), if_pos (by omega), if_pos (by rw [oM_length]; omega), rd_oM, sumOf_eq, Option.bind_some, if_pos (by rw [ty_length]; omega), w64 _ (by omega) (by omega), zG_]
  rfl
theorem evChunks (K M : Int) (hK : -9223372036854775808 ≤ K) (X : List B) (L : Mat) (e : Int) (hs : splR K M X = (oM L, e)) (hL : L.length ≤ 255) : Ev (fun k => rebuild_Chunks.f k K M (ofL X)) (ty X.length L (fun j => sm (row L j)) L.length, e) := by
 unfold rebuild_Chunks.f
 simp only [stripe_Split.f_ofL K M hK X, hs, Option.bind_some, oM_length]
 exact chunks_l0 X e L hL L.length 0 (by omega)
theorem refChunks_l0 (X : List B) (e : Int) (L : Mat) (hL : L.length ≤ 255) (hr : ∀ i, i < L.length → (row L i).length < 2 ^ 62) (d : Nat) : ∀ i : Nat, i + d = L.length → Ev (fun k => wCh_.l0 k (ofL X) (oM L) e (ty X.length L (fun j => sm (row L j)) i) (i : Int)) (ty X.length L (fun j => sm (row L j)) L.length, e) := by
 induction d with
 | zero =>
  intro i hi
  obtain rfl : i = L.length := by omega
  refine Ev.step (fun f => ?_) (Ev.now _)
  simp only [wCh_.l0]
  rw [if_neg (by rw [oM_length]; omega)]
 | succ d ih =>
  intro i hi
  have hn := ih (i + 1) (by omega)
  rw [ty_succ] at hn
  refine Ev.step (f := fun k => (wOf_.f k (ofL (row L i))).bind fun t110 => wCh_.l0 k (ofL X) (oM L) e (ty X.length L (fun j => sm (row L j)) i ++ [(⟨((ofL X).length : Int), ofL (row L i), t110⟩ : S44)]) ((i + 1 : Nat) : Int)) (fun f => ?_) (Ev.bind (refOf (row L i) (hr i (by omega))) (by rw [zG_]; exact hn))
  simp only [wCh_.l0]
  rw [if_pos (by rw [oM_length]; omega), if_pos (by omega), rd_oM]
  simp only [if_pos (show (ty X.length L (fun j => sm (row L j)) i).length < 3518437208883 by rw [ty_length]; omega)]
  rw [w64 _ (by omega) (by omega)]
  rfl
theorem evRefChunks (K M : Int) (hK : -9223372036854775808 ≤ K) (X : List B) (hX : X.length ≤ 9223372036854775807) (L : Mat) (e : Int) (hs : splR K M X = (oM L, e)) (hL : L.length ≤ 255) (hr : ∀ i, i < L.length → (row L i).length < 2 ^ 62) : Ev (fun k => wCh_.f k K M (ofL X)) (ty X.length L (fun j => sm (row L j)) L.length, e) := by
 unfold wCh_.f
 refine Ev.bind (evRefSplit K M hK X hX) ?_
 rw [hs]
 exact refChunks_l0 X e L hL hr L.length 0 (by omega)
theorem same_l0 (K M : Int) (X : List B) (e : Int) (n : Nat) (L : Mat) (t : Nat → Int) (N : Nat) (hN : N ≤ 255) (hend : Ev (fun k => if e = 0 then (wRb_.l1 k K M (ofL X) (ty n L t N) (List.replicate N true) 0) else ((mooringlaw23_awake.f).bind fun t123 => (some t123))) true) (d : Nat) : ∀ i : Nat, i + d = N → Ev (fun k => wRb_.l0 k K M (ofL X) (ty n L t N) e (ty n L t N) (List.replicate i true) (i : Int)) true := by
 induction d with
 | zero =>
  intro i hi
  obtain rfl : i = N := by omega
  refine Ev.step (fun f => ?_) hend
  simp only [wRb_.l0]
  rw [if_neg (by rw [ty_length]; omega)]
 | succ d ih =>
  intro i hi
  have hn := ih (i + 1) (by omega)
  refine Ev.step (fun f => ?_) hn
  simp only [wRb_.l0]
  rw [if_pos (by rw [ty_length]; omega), if_pos (by omega), if_pos (by rw [ty_length]; omega)]
  simp only [if_true]
  rw [if_pos (by rw [List.length_replicate]; omega), w64 _ (by omega) (by omega), ← List.replicate_succ']
  rfl
/-- The chunks that are sound. -/
def gd (L : Mat) (t : Nat → Int) (j : Nat) : Bool := sm (row L j) == t j
theorem turn_l1 (k m : Nat) (X : List B) (hX : X.length ≤ 100000) (n : Nat) (L : Mat) (N : Nat) (h0 : 0 < N) (hN : N ≤ 255) (hm : m ≤ 255) (Hv : List Bool)
 (hend : ∀ t : Nat → Int, N ≤ cnt (gd L t) N + m → Ev (fun f => (wOb_.f f (k : Int) (m : Int) ((ofL X).length : Int) (ty n L t N) Hv).bind fun bt126 => (if bt126.2 = 0 then (if (strOfNums bt126.1).toList = (strOfNums (ofL X)).toList then ((mooringlaw23_awake.f).bind fun t130 => (some t130)) else (none)) else (none))) true) (d : Nat) :
 ∀ i : Nat, i + d = m → ∀ t : Nat → Int, N ≤ cnt (gd L t) N + i → Ev (fun f => wRb_.l1 f (k : Int) (m : Int) (ofL X) (ty n L t N) Hv (i : Int)) true := by
 induction d with
 | zero =>
  intro i hi t ht
  obtain rfl : i = m := by omega
  refine Ev.step (fun f => ?_) (hend t ht)
  simp only [wRb_.l1]
  rw [if_neg (by omega)]
 | succ d ih =>
  intro i hi t ht
  have hp : (i * 3 + X.length) % N < N := Nat.mod_lt _ h0
  have hb : N ≤ cnt (gd L (bump t ((i * 3 + X.length) % N))) N + (i + 1) := by
   have := cnt_bump (gd L t) (gd L (bump t ((i * 3 + X.length) % N))) ((i * 3 + X.length) % N) N (fun j hj => by
    unfold gd bump
    rw [if_neg hj])
   rw [if_pos hp] at this
   omega
  have hn := ih (i + 1) (by omega) _ hb
  rw [← ty_set] at hn
  have hidx : Int.tmod (wrap64 ((wrap64 ((i : Int) * 3)) + ((ofL X).length : Int))) ((ty n L t N).length : Int) = (((i * 3 + X.length) % N : Nat) : Int) := by
   rw [zG_, ty_length, w64 ((i : Int) * 3) (by omega) (by omega), w64 _ (by omega) (by omega)]
   rw [show (i : Int) * 3 + (X.length : Int) = ((i * 3 + X.length : Nat) : Int) by omega]
   exact (Int.ofNat_tmod _ _).symm
  refine Ev.step (fun f => ?_) hn
  simp only [wRb_.l1]
  rw [if_pos (by omega), hidx, if_neg (by rw [ty_length]; omega), if_pos (by omega), if_pos (by rw [ty_length]; omega), rd_ty _ _ _ _ _ hp, Int.toNat_natCast, w64 _ (by omega) (by omega)]
  rfl
/-- The shards as they are filled in. -/
def fill (L : Mat) (g : Nat → Bool) (N i : Nat) : Mat := (List.range N).map fun j => if j < i then (if g j = true then row L j else []) else []
def fillB (g : Nat → Bool) (N i : Nat) : List Bool := (List.range N).map fun j => if j < i then g j else false
theorem fill_length (L : Mat) (g : Nat → Bool) (N i : Nat) : (fill L g N i).length = N := by simp [fill]
theorem fillB_length (g : Nat → Bool) (N i : Nat) : (fillB g N i).length = N := by simp [fillB]
theorem fill_set (L : Mat) (g : Nat → Bool) (N i : Nat) (hi : i < N) (hg : g i = true) : (oM (fill L g N i)).set i (ofL (row L i)) = oM (fill L g N (i + 1)) := by
 refine List.ext_getElem (by rw [List.length_set, oM_length, oM_length, fill_length, fill_length]) fun j h1 h2 => ?_
 rw [oM_length, fill_length] at h2
 have e1 : (oM (fill L g N (i + 1)))[j]'(by rw [oM_length, fill_length]; exact h2) = ofL (if j < i + 1 then (if g j = true then row L j else []) else []) := by simp [fill, oM]
 have e2 : (oM (fill L g N i))[j]'(by rw [oM_length, fill_length]; exact h2) = ofL (if j < i then (if g j = true then row L j else []) else []) := by simp [fill, oM]
 rw [List.getElem_set, e1]
 by_cases h : i = j
 ·subst h
  rw [if_pos rfl, if_pos (Nat.lt_succ_self _), if_pos hg]
 ·rw [if_neg h, e2]
  by_cases h3 : j < i
  ·rw [if_pos h3, if_pos (show j < i + 1 by omega)]
  ·rw [if_neg h3, if_neg (show ¬ j < i + 1 by omega)]
theorem fillB_set (g : Nat → Bool) (N i : Nat) (hi : i < N) (hg : g i = true) : (fillB g N i).set i true = fillB g N (i + 1) := by
 refine List.ext_getElem (by rw [List.length_set, fillB_length, fillB_length]) fun j h1 h2 => ?_
 rw [fillB_length] at h2
 have e1 : (fillB g N (i + 1))[j]'(by rw [fillB_length]; exact h2) = if j < i + 1 then g j else false := by simp [fillB]
 have e2 : (fillB g N i)[j]'(by rw [fillB_length]; exact h2) = if j < i then g j else false := by simp [fillB]
 rw [List.getElem_set, e1]
 by_cases h : i = j
 ·subst h
  rw [if_pos rfl, if_pos (Nat.lt_succ_self _), hg]
 ·rw [if_neg h, e2]
  by_cases h3 : j < i
  ·rw [if_pos h3, if_pos (show j < i + 1 by omega)]
  ·rw [if_neg h3, if_neg (show ¬ j < i + 1 by omega)]
theorem fill_skip (L : Mat) (g : Nat → Bool) (N i : Nat) (hg : g i = false) : fill L g N (i + 1) = fill L g N i := by
 unfold fill
 refine List.map_congr_left fun j _ => ?_
 by_cases h : i = j
 ·subst h
  rw [if_pos (Nat.lt_succ_self _), hg, if_neg (by decide), if_neg (Nat.lt_irrefl _)]
 ·by_cases h3 : j < i
  ·rw [if_pos h3, if_pos (show j < i + 1 by omega)]
  ·rw [if_neg h3, if_neg (show ¬ j < i + 1 by omega)]
theorem fillB_skip (g : Nat → Bool) (N i : Nat) (hg : g i = false) : fillB g N (i + 1) = fillB g N i := by
 unfold fillB
 refine List.map_congr_left fun j _ => ?_
 by_cases h : i = j
 ·subst h
  rw [if_pos (Nat.lt_succ_self _), hg, if_neg (Nat.lt_irrefl _)]
 ·by_cases h3 : j < i
  ·rw [if_pos h3, if_pos (show j < i + 1 by omega)]
  ·rw [if_neg h3, if_neg (show ¬ j < i + 1 by omega)]
theorem rep_true (N i : Nat) (hi : i < N) : rdOf false (List.replicate N true) (i : Int) = true := by
 unfold rdOf
 rw [Int.toNat_natCast, List.getD_eq_getElem?_getD, List.getElem?_replicate, if_pos hi]
 rfl
theorem obj_l0 (K M : Int) (n : Nat) (L : Mat) (t : Nat → Int) (N : Nat) (hN : N ≤ 255) (r : List Int × Int) (hend : Ev (fun f => (wJo_.f f K M (n : Int) (oM (fill L (gd L t) N N)) (fillB (gd L t) N N)).bind fun bt113 => (some (bt113.1, bt113.2))) r) (d : Nat) : ∀ i : Nat, i + d = N → Ev (fun f => wOb_.l0 f K M (n : Int) (List.replicate N true) (oM (fill L (gd L t) N i)) (fillB (gd L t) N i) (ty n L t N) (N : Int) (i : Int)) r := by
 induction d with
 | zero =>
  intro i hi
  obtain rfl : i = N := by omega
  refine Ev.step (fun f => ?_) hend
  simp only [wOb_.l0]
  rw [if_neg (by omega)]
 | succ d ih =>
  intro i hi
  have hn := ih (i + 1) (by omega)
  have hiN : i < N := by omega
  refine Ev.step (fun f => ?_) hn
  simp only [wOb_.l0]
  rw [if_pos (by omega), if_pos (by omega), if_pos (by rw [ty_length]; omega), if_pos (by rw [List.length_replicate]; omega), rep_true N i hiN, if_pos rfl, rd_ty _ _ _ _ _ hiN]
  unfold rebuild_sound.f
  rw [sumOf_eq, Option.bind_some, Option.bind_some, show (ofW (sumB (row L i)) == t i) = gd L t i from rfl, Int.toNat_natCast, w64 _ (by omega) (by omega)]
  by_cases hg : gd L t i = true
  ·rw [if_pos hg, if_pos rfl, if_pos (by rw [oM_length, fill_length]; omega), if_pos (by rw [fillB_length]; omega), fill_set _ _ _ _ hiN hg, fillB_set _ _ _ hiN hg]
   rfl
  ·have hg' : gd L t i = false := by simpa using hg
   rw [if_neg hg, fill_skip _ _ _ _ hg', fillB_skip _ _ _ hg']
   rfl
theorem row_fill (L : Mat) (g : Nat → Bool) (N i : Nat) (hi : i < N) : row (fill L g N N) i = if g i = true then row L i else [] := by
 unfold fill
 rw [row_map _ _ _ hi, if_pos hi]
theorem getD_fillB (g : Nat → Bool) (N i : Nat) (hi : i < N) : (fillB g N N).getD i false = g i := by
 unfold fillB
 rw [List.getD_eq_getElem?_getD, List.getElem?_map, List.getElem?_range hi]
 show (if i < N then g i else false) = g i
 rw [if_pos hi]
theorem evObj {k m : Nat} (hk : 1 ≤ k) (hm : 1 ≤ m) (h : k + m ≤ 255) (h1 : codeB (k : Int) (m : Int) = true) (X : List B) (hX : X.length ≤ 4096) (L : Mat) (hGL : mulM (cauM k m) (spM k (lenS k X.length) X) = L) (t : Nat → Int) (ht : L.length ≤ cnt (gd L t) L.length + m) :
 Ev (fun f => wOb_.f f (k : Int) (m : Int) (X.length : Int) (ty X.length L t L.length) (List.replicate L.length true)) (ofL X, 0) := by
 have hR := (splR_yes hk hm h X hX).2
 have hSp := spM_reg k (lenS k X.length) X
 have hrow : ∀ j, j < k → row (mulM (cauM k m) (spM k (lenS k X.length) X)) j = row (spM k (lenS k X.length) X) j := fun j hj => by
  rw [← row_take3 _ k _ hj, mulM_take (cauM_reg k m) hSp hk (Nat.le_add_right k m), cauM_take, mulM_id hSp hk]
 have hj := joinB_spM hk X rfl hrow
 have hp : lenS k X.length ≤ 70000 := by
  have := nS_le k X.length hk
  unfold lenS
  omega
 rw [hGL] at hR hj
 have hlen := hR.1
 have c1 : ¬ ((k : Int) < 1) := by omega
 have c2 : ¬ ((m : Int) < 1) := by omega
 have c3 : ¬ ((k : Int) > 254) := by omega
 have wN : wrap64 ((k : Int) + (m : Int)) = ((L.length : Nat) : Int) := by rw [w64 _ (by omega) (by omega)]; omega
 have c4 : ¬ ((m : Int) > wrap64 (255 - (k : Int))) := by rw [w64 _ (by omega) (by omega)]; omega
 unfold wOb_.f
 simp only [if_neg c1, if_neg c2, if_neg c3, if_neg c4, wN, ty_length, if_true, List.length_replicate]
 refine Ev.step (f := fun f => wOb_.l0 f (k : Int) (m : Int) (X.length : Int) (List.replicate L.length true) (oM (fill L (gd L t) L.length 0)) (fillB (gd L t) L.length 0) (ty X.length L t L.length) (L.length : Int) ((0 : Nat) : Int)) (fun f => ?_) ?_
 ·simp only [wOb_.j0, bne_self_eq_false, Bool.false_eq_true, if_false, wN, Int.toNat_natCast, ty_length]
  rw [if_pos (by omega), if_pos (by omega), if_pos (by omega)]
  have e0 : oM (fill L (gd L t) L.length 0) = List.replicate L.length [] := by
   refine List.ext_getElem (by rw [oM_length, fill_length, List.length_replicate]) fun j h1 h2 => ?_
   simp [fill, oM, ofL]
  have e1 : fillB (gd L t) L.length 0 = List.replicate L.length false := by
   refine List.ext_getElem (by rw [fillB_length, List.length_replicate]) fun j h1 h2 => ?_
   simp [fillB]
  rw [e0, e1]
  rfl
 refine obj_l0 (k : Int) (m : Int) X.length L t L.length (by omega) _ ?_ L.length 0 (by omega)
 have hSr : ∀ i, i < (fill L (gd L t) L.length L.length).length → (row (fill L (gd L t) L.length L.length) i).length ≤ 140737488355327 := fun i hi => by
  rw [fill_length] at hi
  rw [row_fill _ _ _ _ hi]
  split
  ·rw [hR.2 i (by omega)]; omega
  ·exact Nat.zero_le _
 refine Ev.bind (evJoin (k : Int) (m : Int) (X.length : Int) (by omega) (fill L (gd L t) L.length L.length) hSr (fillB (gd L t) L.length L.length)) ?_
 have hFl := fill_length L (gd L t) L.length L.length
 have hGl := fillB_length (gd L t) L.length L.length
 have hok : okLen (fill L (gd L t) L.length L.length) (fillB (gd L t) L.length L.length) (lenS k X.length) := fun i hi hb => by
  rw [fillB_length] at hi
  rw [getD_fillB _ _ _ hi] at hb
  rw [row_fill _ _ _ _ hi, if_pos hb, hR.2 i (by omega)]
 have hsel : (selN (fillB (gd L t) L.length L.length) (fillB (gd L t) L.length L.length).length).length = cnt (gd L t) L.length := by
  rw [hGl]
  exact selN_cnt _ _ _ (fun j hj => getD_fillB _ _ _ hj)
 have hn : ¬ (((selN (fillB (gd L t) L.length L.length) (fillB (gd L t) L.length L.length).length).length : Int) < (k : Int)) := by rw [hsel]; omega
 have hJ : joinR (k : Int) (m : Int) (X.length : Int) (fill L (gd L t) L.length L.length) (fillB (gd L t) L.length L.length) = finJ X.length (joinB (decM k m (fill L (gd L t) L.length L.length) (fillB (gd L t) L.length L.length)) k (nS k X.length)) := by
  unfold joinR
  rw [if_pos ⟨h1, by omega, by rw [fill_length]; omega, by omega⟩, if_neg (by omega), if_neg hn]
  simp only [Int.toNat_natCast]
  rw [if_pos hok]
 have hcode := decM_code (A := fill L (gd L t) L.length L.length) (H := fillB (gd L t) L.length L.length) hk h (by omega) (by omega) hSp (fun i hi hb => by
  rw [getD_fillB _ _ _ (by omega)] at hb
  rw [row_fill _ _ _ _ (by omega), if_pos hb, hGL])
 rw [hJ, hcode, hGL]
 unfold finJ
 rw [if_pos hj.2, hj.1]
 exact Ev.now _
theorem light23 (a b : Int) (ha : -9223372036854775808 ≤ a) : ∃ x, mooringlaw23_light.f a b = some x := by
 unfold mooringlaw23_light.f
 rw [code_eq a b ha, Option.bind_some]
 cases codeB a b with
 | false => exact ⟨true, rfl⟩
 | true => exact ⟨_, rfl⟩
theorem RebuildChunks (K : Int) (wK : (Lit.int .i64 K).wf = true) (M : Int) (wM : (Lit.int .i64 M).wf = true) (X : List B) (hX : X.length ≤ 140737488351232) : Ev (fun k => wRb_.f k K M (ofL X)) true := by
 have ha := bounds_i64 wK
 have aw : Ev (fun _ : Nat => (mooringlaw23_awake.f).bind fun t102 => (some t102)) true := Ev.now _
 have no : Ev (fun k => wRb_.j0 k K M (ofL X) true) true :=
  Ev.step (f := fun _ => (mooringlaw23_awake.f).bind fun t102 => (some t102)) (fun k => by simp only [wRb_.j0, if_true]) aw
 obtain ⟨x, hx⟩ := light23 K M ha.1
 unfold wRb_.f
 simp only [hx, Option.bind_some]
 cases x with
 | false => simp only [Bool.false_eq_true, if_false]; exact no
 | true =>
  simp only [if_true]
  by_cases h15 : (X.length : Int) > 1000
  ·rw [show decide (((ofL X).length : Int) > 1000) = true from decide_eq_true (by rw [zG_]; exact h15)]; exact no
  rw [show decide (((ofL X).length : Int) > 1000) = false from decide_eq_false (by rw [zG_]; exact h15)]
  have key : ∀ (L : Mat) (e : Int), splR K M X = (oM L, e) → L.length ≤ 255 → (∀ i, i < L.length → (row L i).length < 2 ^ 62) → Ev (fun k => if e = 0 then (wRb_.l1 k K M (ofL X) (ty X.length L (fun j => sm (row L j)) L.length) (List.replicate L.length true) 0) else ((mooringlaw23_awake.f).bind fun t123 => (some t123))) true → Ev (fun k => wRb_.j0 k K M (ofL X) false) true := by
   intro L e hs hL hr hend
   have hc := evChunks K M ha.1 X L e hs hL
   have hrc := evRefChunks K M ha.1 X (by omega) L e hs hL hr
   refine Ev.step (f := fun k => (rebuild_Chunks.f k K M (ofL X)).bind fun bt103 => ((wCh_.f k K M (ofL X)).bind fun bt107 => (if bt103.2 = bt107.2 then (wRb_.j1 k K M (ofL X) bt103.1 bt103.2 bt107.1 ((bt103.1.length : Int) != (bt107.1.length : Int))) else (wRb_.j1 k K M (ofL X) bt103.1 bt103.2 bt107.1 true)))) (fun k => by simp only [wRb_.j0, Bool.false_eq_true, if_false]) ?_
   refine Ev.bind hc (Ev.bind hrc ?_)
   simp only [if_true, bne_self_eq_false]
   refine Ev.step (f := fun k => wRb_.l0 k K M (ofL X) (ty X.length L (fun j => sm (row L j)) L.length) e (ty X.length L (fun j => sm (row L j)) L.length) (List.replicate 0 true) ((0 : Nat) : Int)) (fun k => ?_) ?_
   ·simp only [wRb_.j1, Bool.false_eq_true, if_false]
    rfl
   exact same_l0 K M X e X.length L _ L.length hL hend L.length 0 (by omega)
  rcases codeB_form K M with ⟨h1, k, m, rfl, rfl, hk, hm, h, e⟩ | ⟨h1, e⟩
  ·obtain ⟨e1, hR⟩ := splR_yes hk hm h X (by omega)
   have hp : lenS k X.length ≤ 70000 := by
    have := nS_le k X.length hk
    unfold lenS
    omega
   generalize hGL : mulM (cauM k m) (spM k (lenS k X.length) X) = L at e1 hR
   have hlen := hR.1
   refine key L 0 e1 (by omega) (fun i hi => by rw [hR.2 i (by omega)]; omega) ?_
   simp only [if_true]
   refine turn_l1 k m X (by omega) X.length L L.length (by omega) (by omega) (by omega) (List.replicate L.length true) (fun t ht => ?_) m 0 (by omega) _ ?_
   ·refine Ev.bind (by rw [zG_]; exact evObj hk hm h h1 X (by omega) L hGL t ht) ?_
    simp only [if_true]
    exact aw
   ·rw [cnt_all _ _ (fun j _ => by unfold gd; exact beq_self_eq_true _)]
    omega
  ·refine key [] 1 (by unfold splR; rw [if_neg (by rw [h1]; decide)]; rfl) (by decide) (fun i hi => absurd hi (by simp)) ?_
   simp only [show ((1 : Int) = 0) = False from eq_false (by decide), if_false]
   exact aw
end Go.Proofs.YtnfgiamdmfkcjaaDoor.Rb
namespace Go.Proofs.YtnfgiamdmfkcjaaDoor.H
open Go.RowKit Go.ChangeShapes Go.WideShapes Go.Deep Go.Joins Go.Proofs.YtnfgiamdmfkcjaaDoorW.PrintWords Go.Proofs.YtnfgiamdmfkcjaaDoor.Leaf Go.Proofs.YtnfgiamdmfkcjaaDoor.Gf Go.Proofs.YtnfgiamdmfkcjaaDoor.Red
theorem bytes_arg {H : Type} {enc : TypeId × Value → H} {W : World} {a : Option Addr} {len cap : Nat} {d : DataW H} {ps : List MemPlace} (h : DataW.Trod enc Tryd.prog W 0 (fun _ => true) true 22 (.slice a len cap) d ps) (hw : ∀ x ∈ d.weights Tryd.prog 22, x ≤ reachBytes) :
    ∃ L : List B, len = (ofL L).length ∧ len ≤ cap ∧ Kd.C (Kd.int .u8) W a (ofL L).length (ofL L) ∧ L.length ≤ 140737488351232 := by
  obtain ⟨fuel, hf⟩ := h
  rcases open_ints Tryd.underlying22 Tryd.underlying5 (by kernel_rfl) hf with ⟨hcs, _⟩ | ⟨x, l, c, zs, hcs, _, hl, hm, hz, hx, hcell, hwz⟩
  · simp [Value.cells] at hcs
    obtain ⟨rfl, rfl, rfl⟩ := hcs
    exact ⟨[], rfl, Nat.le_refl _, Kd.C_nil _ _, by decide⟩
  · simp [Value.cells] at hcs
    obtain ⟨rfl, rfl, rfl⟩ := hcs
    obtain ⟨rfl, _⟩ := Prod.mk.inj hx
    obtain ⟨l', hl', hr, hm', hw', hc'⟩ := ReadsInt.ofRowC (k := .u8) (w := W) (a := some x) (len := len) (cap := cap) (zs := zs) (.inr ⟨x, rfl, hl, hm, by simpa using hz, hcell, hwz⟩)
    obtain ⟨L, rfl⟩ := row_of hw'
    refine ⟨L, hl', hl, Kd.C_of_reads (d := (0 : Int)) (h1 := fun _ => rfl) hr, ?_⟩
    have hx := hw ((len + (cap - len)) * Tryd.prog.bytesOf 5) (by
      have hzc : zs.length = cap := by simpa using hz
      simp only [DataW.weights, Tryd.underlying22, List.mem_cons]
      refine Or.inl ?_
      congr 1
      simp [lits]
      omega)
    rw [show Tryd.prog.bytesOf 5 = 1 by kernel_rfl] at hx
    unfold reachBytes at hx
    rw [zG_] at hl'
    omega
end Go.Proofs.YtnfgiamdmfkcjaaDoor.H
