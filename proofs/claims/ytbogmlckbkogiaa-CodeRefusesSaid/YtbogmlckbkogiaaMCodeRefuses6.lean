/- Words and walks that the claim CodeRefuses leans on (what it does not use is left out). -/
import Derived.Test.YtbogmlckbkogiaaMCodeRefuses5
import Derived.Test.YtbogmlckbkogiaaMCodeRefuses3
import Derived.Test.YtbogmlckbkogiaaMCodeRefuses4
import Derived.Test.YtbogmlckbkogiaaMCodeRefuses1
import Derived.Test.YtbogmlckbkogiaaMCodeRefuses2
namespace Go.Proofs.Ytbogmlckbkogiaa.Red
open Go.RowKit Go.Proofs.YtbogmlckbkogiaaW.PrintWords Go.Proofs.Ytbogmlckbkogiaa.Leaf Go.Proofs.Ytbogmlckbkogiaa.Gf Go.Proofs.Ytbogmlckbkogiaa.H Go.Proofs.Ytbogmlckbkogiaa.Mx Go.Proofs.Ytbogmlckbkogiaa.P
set_option linter.unusedVariables false
set_option linter.unusedSimpArgs false
/-- What Inverse tells of a square matrix whose rows do not cancel out. -/
theorem invR_yes {A : Mat} {n : Nat} (hA : Reg A n n) (hn : 0 < n) (hn2 : n ≤ 255) (h : (redF n 0 0 A (idM n)).1 = n) : ∃ X, invR A = (oM X, 0) ∧ Reg X n n ∧ mulM A X = idM n ∧ mulM X A = idM n := by
  obtain ⟨r1, r2, r3⟩ := inverse_yes hn hA h
  refine ⟨(redF n 0 0 A (idM n)).2.2, ?_, r1, ?_, ?_⟩
  · unfold invR
    rw [if_pos ⟨mayB_of hA hn hn2 hn hn2, by rw [hA.1, hA.2 0 hn]⟩, hA.1, if_neg (by omega)]
  · refine mat_ext (mulM_reg hA r1 hn) (matF_reg n n I) fun i j hi hj => ?_
    rw [el_mulM hA r1 hn hi hj, r3 i j hi hj, idM_eq, el_matF I hi hj]
  · refine mat_ext (mulM_reg r1 hA hn) (matF_reg n n I) fun i j hi hj => ?_
    rw [el_mulM r1 hA hn hi hj, r2 i j hi hj, idM_eq, el_matF I hi hj]
def ints (L : List Nat) : List Int := L.map fun (v : Nat) => (v : Int)
theorem ints_length (L : List Nat) : (ints L).length = L.length := List.length_map _
theorem row_rowsM (A : Mat) (L : List Nat) (i : Nat) (hi : i < L.length) : row (rowsM A (ints L)) i = row A (L.getD i 0) := by
  unfold rowsM ints
  rw [List.map_map]
  show (L.map _).getD i [] = _
  rw [List.getD_eq_getElem?_getD, List.getElem?_map, List.getD_eq_getElem?_getD, List.getElem?_eq_getElem hi]
  rfl
theorem rowsM_reg {A : Mat} {n m : Nat} (hA : Reg A n m) (L : List Nat) (h : ∀ v ∈ L, v < n) : Reg (rowsM A (ints L)) L.length m := by
  refine ⟨by unfold rowsM ints; rw [List.length_map, List.length_map], fun i hi => ?_⟩
  rw [row_rowsM A L i hi]
  exact hA.2 _ (h _ (getD_mem hi))
theorem cauM_may {k m : Nat} (hk : 1 ≤ k) (h : k + m ≤ 255) : mayB (cauM k m) = true := mayB_of (cauM_reg k m) (by omega) h hk (by omega)
theorem pick_inverse {k m : Nat} (hk : 1 ≤ k) (h : k + m ≤ 255) (L : List Nat) (hl : L.length = k) (hnd : L.Nodup) (hb : ∀ v ∈ L, v < k + m) :
    Reg (rowsM (cauM k m) (ints L)) k k ∧ ∃ X, invR (rowsM (cauM k m) (ints L)) = (oM X, 0) ∧ Reg X k k ∧ mulM (rowsM (cauM k m) (ints L)) X = idM k ∧ mulM X (rowsM (cauM k m) (ints L)) = idM k := by
  have hS : Reg (rowsM (cauM k m) (ints L)) k k := by
    have := rowsM_reg (cauM_reg k m) L hb
    rwa [hl] at this
  have hel : ∀ i j, i < k → j < k → el (rowsM (cauM k m) (ints L)) i j = cau k m (L.getD i 0) j := by
    intro i j hi hj
    unfold el
    rw [row_rowsM _ _ _ (by omega)]
    exact el_matF _ (hb _ (getD_mem (by omega))) hj
  refine ⟨hS, invR_yes hS (by omega) (by omega) ?_⟩
  have hle := redF_le (by omega) hS (matF_reg k k I)
  rw [← idM_eq] at hle
  by_cases hlt : (redF k 0 0 (rowsM (cauM k m) (ints L)) (idM k)).1 < k
  · obtain ⟨y, hy, i, hi, hne⟩ := inverse_no (by omega) hS (matF_reg k k I) hlt
    exfalso
    refine hne (cauchy_regular h L hl hnd hb y (fun j hj => ?_) i hi)
    rw [← hy j hj]
    exact sm_congr fun i' hi' => by rw [hel i' j hi' hj]
  · omega
end Go.Proofs.Ytbogmlckbkogiaa.Red
namespace Go.Proofs.Ytbogmlckbkogiaa.Red
open Go.RowKit Go.Proofs.YtbogmlckbkogiaaW.PrintWords Go.Proofs.Ytbogmlckbkogiaa.Leaf Go.Proofs.Ytbogmlckbkogiaa.Gf Go.Proofs.Ytbogmlckbkogiaa.H Go.Proofs.Ytbogmlckbkogiaa.Mx Go.Proofs.Ytbogmlckbkogiaa.P
set_option linter.unusedVariables false
set_option linter.unusedSimpArgs false
/-- The shards one has. -/
def selM (A : Mat) (H : List Bool) : Mat := (selN H H.length).map fun i => row A i
theorem selL_oM (A : Mat) (H : List Bool) : selL (oM A) H H.length = oM (selM A H) := by
  unfold selL selM oM
  rw [List.map_map]
  refine List.map_congr_left fun i _ => ?_
  exact rd_oM A i
theorem selR_ints (H : List Bool) (k : Nat) : (selR H H.length).take k = ints ((selN H H.length).take k) := by
  unfold selR ints
  rw [List.map_take]
theorem selN_nodup (H : List Bool) (s : Nat) : (selN H s).Nodup := List.Nodup.sublist List.filter_sublist List.nodup_range
theorem selN_lt {H : List Bool} {s v : Nat} (h : v ∈ selN H s) : v < s := List.mem_range.1 (List.mem_filter.1 h).1
theorem selM_length (A : Mat) (H : List Bool) : (selM A H).length = (selN H H.length).length := List.length_map _
/-- The rows of the code's matrix that belong to the first k shards one has. -/
def picM (k m : Nat) (H : List Bool) : Mat := rowsM (cauM k m) (ints ((selN H H.length).take k))
def decM (k m : Nat) (A : Mat) (H : List Bool) : Mat := mulM (cauM k m) (mulM (unM (invR (picM k m H)).1) ((selM A H).take k))
theorem pic_inverse {k m : Nat} (hk : 1 ≤ k) (h : k + m ≤ 255) {H : List Bool} (hH : H.length = k + m) (hn : k ≤ (selN H H.length).length) :
    rowsR (cauM k m) (ints ((selN H H.length).take k)) = (oM (picM k m H), 0) ∧ Reg (picM k m H) k k ∧ ∃ X, invR (picM k m H) = (oM X, 0) ∧ Reg X k k ∧ mulM (picM k m H) X = idM k ∧ mulM X (picM k m H) = idM k := by
  have hl : ((selN H H.length).take k).length = k := by rw [List.length_take]; omega
  have hb : ∀ v ∈ (selN H H.length).take k, v < k + m := fun v hv => by
    have := selN_lt (List.mem_of_mem_take hv)
    omega
  have hp := pick_inverse hk h ((selN H H.length).take k) hl (List.Nodup.sublist (List.take_sublist _ _) (selN_nodup H H.length)) hb
  refine ⟨?_, hp.1, hp.2⟩
  unfold rowsR
  rw [if_pos]
  · rfl
  · unfold rowsB
    rw [cauM_may hk h, ints_length, hl, decide_eq_true (by omega), decide_eq_true (by omega)]
    rw [Bool.true_and, Bool.true_and, Bool.true_and, List.all_eq_true]
    intro x hx
    obtain ⟨v, hv, rfl⟩ := List.mem_map.1 hx
    have := hb v hv
    rw [(cauM_reg k m).1, decide_eq_true (by omega), decide_eq_true (by omega)]
    rfl
theorem even_reg {D : Mat} (h : code_even.f (oM D) (D.length : Int) = some true) (h0 : 0 < D.length) : Reg D D.length (row D 0).length := by
  rw [code_even_eq D _ (by omega)] at h
  exact (evenB_iff D D.length).1 (Option.some.inj h)
theorem reg_take {D : Mat} {n p k : Nat} (h : Reg D n p) (hk : k ≤ n) : Reg (D.take k) k p := by
  refine ⟨by rw [List.length_take, h.1]; omega, fun i hi => ?_⟩
  have := h.2 i (by omega)
  have e : row (D.take k) i = row D i := by
    unfold row
    rw [List.getD_eq_getElem?_getD, List.getElem?_take_of_lt hi, List.getD_eq_getElem?_getD]
  rw [e]
  exact this
def evD (A : Mat) (H : List Bool) : Bool := ((code_even.f (oM (selM A H)) ((selM A H).length : Int)).getD false)
theorem row_len {A : Mat} {H : List Bool} (hr : ∀ i, i < A.length → (row A i).length ≤ 140737488355327) (i : Nat) (hi : i < (selM A H).length) : (row (selM A H) i).length ≤ 140737488355327 := by
  unfold selM at hi ⊢
  rw [List.length_map] at hi
  have e : row ((selN H H.length).map fun i => row A i) i = row A ((selN H H.length)[i]) := by
    show (((selN H H.length).map fun i => row A i).getD i []) = _
    rw [List.getD_eq_getElem?_getD, List.getElem?_map, List.getElem?_eq_getElem hi]
    rfl
  rw [e]
  by_cases h : (selN H H.length)[i] < A.length
  · exact hr _ h
  · have : row A ((selN H H.length)[i]) = [] := by
      unfold row
      rw [List.getD_eq_getElem?_getD, List.getElem?_eq_none (by omega)]
      rfl
    rw [this]
    exact Nat.zero_le _
theorem dec_facts (k m : Int) (hk : -9223372036854775808 ≤ k) (A : Mat) (hr : ∀ i, i < A.length → (row A i).length ≤ 140737488355327) (H : List Bool) :
    DecFacts k m (oM A) H (cauR k m).1 (cauR k m).2 (evD A H) (oM (picM k.toNat m.toNat H)) (invR (picM k.toNat m.toNat H)).1 (oM (mulM (unM (invR (picM k.toNat m.toNat H)).1) ((selM A H).take k.toNat))) (oM (decM k.toNat m.toNat A H)) 0 (invR (picM k.toNat m.toNat H)).2 := by
  have hrng : (cauR k m).2 = 0 → 1 ≤ k ∧ 1 ≤ m ∧ k + m ≤ 255 := fun h => by
    unfold cauR at h
    by_cases h1 : 1 ≤ k ∧ 1 ≤ m ∧ m ≤ 255 - k
    · omega
    · rw [if_neg h1] at h
      exact absurd h (by decide)
  have heven : code_even.f (selL (oM A) H H.length) ((selL (oM A) H H.length).length : Int) = some (evD A H) := by
    rw [selL_oM, oM_length]
    unfold evD code_even.f
    rfl
  have hcau : (cauR k m).2 = 0 → (cauR k m).1 = oM (cauM k.toNat m.toNat) := fun h => by
    have := hrng h
    unfold cauR
    rw [if_pos (by omega)]
  have hlen : (selL (oM A) H H.length).length = (selN H H.length).length := by unfold selL; rw [List.length_map]
  refine ⟨evCauchy k m hk, hrng, heven, fun h0 he hS hH hl => ?_, matrix_Inverse.f_oM _, fun h0 he hS hH hl => ?_, fun h0 he hS hH hl => ?_⟩
  · have hg := hrng h0
    obtain ⟨kn, rfl⟩ := Int.eq_ofNat_of_zero_le (show 0 ≤ k by omega)
    obtain ⟨mn, rfl⟩ := Int.eq_ofNat_of_zero_le (show 0 ≤ m by omega)
    rw [hcau h0, selR_ints]
    simp only [Int.toNat_natCast]
    have hp := pic_inverse (k := kn) (m := mn) (by omega) (by omega) (H := H) (by omega) (by omega)
    have h := evRows (cauM kn mn) (by rw [(cauM_reg kn mn).1]; omega) (ints ((selN H H.length).take kn))
    rw [hp.1] at h
    exact h
  · have hg := hrng h0
    obtain ⟨kn, rfl⟩ := Int.eq_ofNat_of_zero_le (show 0 ≤ k by omega)
    obtain ⟨mn, rfl⟩ := Int.eq_ofNat_of_zero_le (show 0 ≤ m by omega)
    obtain ⟨_, _, X, hX, hR, _⟩ := pic_inverse (k := kn) (m := mn) (by omega) (by omega) (H := H) (by omega) (by omega)
    simp only [Int.toNat_natCast]
    have hlen2 : kn ≤ (selM A H).length := by rw [selM_length]; omega
    rw [he, selL_oM, oM_length] at heven
    have hD := even_reg heven (by omega)
    rw [hX, unM_oM, selL_oM]
    have e : (oM (selM A H)).take kn = oM ((selM A H).take kn) := by unfold oM; rw [List.map_take]
    rw [e]
    exact evCombine hR (reg_take hD hlen2) (by omega) (by omega) (by omega) (row_len hr 0 (by omega))
  · have hg := hrng h0
    rw [hcau h0]
    obtain ⟨kn, rfl⟩ := Int.eq_ofNat_of_zero_le (show 0 ≤ k by omega)
    obtain ⟨mn, rfl⟩ := Int.eq_ofNat_of_zero_le (show 0 ≤ m by omega)
    obtain ⟨_, _, X, hX, hR, _⟩ := pic_inverse (k := kn) (m := mn) (by omega) (by omega) (H := H) (by omega) (by omega)
    unfold decM
    simp only [Int.toNat_natCast]
    have hlen2 : kn ≤ (selM A H).length := by rw [selM_length]; omega
    rw [he, selL_oM, oM_length] at heven
    have hD := even_reg heven (by omega)
    rw [hX, unM_oM]
    exact evCombine (cauM_reg kn mn) (mulM_reg hR (reg_take hD hlen2) (by omega)) (by omega) (by omega) (by omega) (row_len hr 0 (by omega))
/-- What Decode answers. -/
def decR (k m : Int) (A : Mat) (H : List Bool) : List (List Int) × Int :=
  if codeB k m = true ∧ (A.length : Int) = k + m ∧ (H.length : Int) = k + m then
    (if 0 < (selM A H).length ∧ evD A H = false then ([], 1) else if ((selM A H).length : Int) < k then ([], 4) else (oM (decM k.toNat m.toNat A H), 0))
  else ([], 1)
theorem decO_eq (k m : Int) (A : Mat) (H : List Bool) : decO k m (oM A) H (cauR k m).2 (evD A H) (oM (decM k.toNat m.toNat A H)) = decR k m A H := by
  unfold decO decR
  rw [selL_oM, oM_length, oM_length]
  rcases codeB_form k m with ⟨h1, k', m', rfl, rfl, _, _, _, e⟩ | ⟨h1, e⟩
  · rw [e, h1]
    simp only [true_and]
  · rw [e, h1]
    rw [if_neg (fun h => absurd h.1 (by decide)), if_neg (fun h => absurd h.1 (by decide))]
end Go.Proofs.Ytbogmlckbkogiaa.Red
namespace Go.Proofs.Ytbogmlckbkogiaa.H
open Go.RowKit Go.Proofs.YtbogmlckbkogiaaW.PrintWords Go.Proofs.Ytbogmlckbkogiaa.Leaf Go.Proofs.Ytbogmlckbkogiaa.Gf Go.Proofs.Ytbogmlckbkogiaa.Red Go.Proofs.Ytbogmlckbkogiaa.Mx Go.Proofs.Ytbogmlckbkogiaa.P
def code_Decode.f (a0 a1 : Int) (l2 : List (List Int)) (l3 : List Bool) : Option (List (List Int) × Int) :=
  if l2.all byteRow = true ∧ -9223372036854775808 ≤ a0 ∧ (l2.all fun r => decide (r.length ≤ 140737488355327)) = true then some (decR a0 a1 (unM l2) l3) else none
theorem code_Decode.calls (a0 : Int) (a1 : Int) (A2 : Option Addr) (c2 : Nat) (l2 : List (List Int)) (A3 : Option Addr) (c3 : Nat) (l3 : List Bool) (r1 : List (List Int)) (r2 : Int) (w : World) (hr2 : Kd.C (Kd.slice 5 (Kd.int .u8)) w A2 l2.length l2) (hc2 : l2.length ≤ c2) (hr3 : Kd.C Kd.bool w A3 l3.length l3) (hc3 : l3.length ≤ c3) (h : code_Decode.f a0 a1 l2 l3 = some (r1, r2)) :
    Calls Try.prog 77 #[.int .i64 a0, .int .i64 a1, .slice A2 l2.length c2, .slice A3 l3.length c3] w fun e w' => ∃ v0_ : Value, e = .returned (.tuple #[v0_, .int .i64 r2]) ∧ Kd.N (Kd.slice 5 (Kd.int .u8)) 22 w' w.heap.size (fun k_ => (w.heap.size ≤ k_)) v0_ r1 ∧ Below w.heap.size w w' := by
  unfold code_Decode.f at h
  by_cases hby : l2.all byteRow = true ∧ -9223372036854775808 ≤ a0 ∧ (l2.all fun r => decide (r.length ≤ 140737488355327)) = true
  · rw [if_pos hby] at h
    obtain ⟨hb, ha, hl⟩ := hby
    obtain ⟨A, rfl⟩ : ∃ A : Mat, l2 = oM A := ⟨unM l2, (oM_unM l2 hb).symm⟩
    rw [unM_oM] at h
    have hr : ∀ i, i < A.length → (row A i).length ≤ 140737488355327 := fun i hi => by
      have hm : ofL (A[i]) ∈ oM A := List.mem_map.2 ⟨_, List.getElem_mem hi, rfl⟩
      have h2 := of_decide_eq_true (List.all_eq_true.1 hl _ hm)
      rw [ofL_length] at h2
      have e : row A i = A[i] := by unfold row; rw [List.getD_eq_getElem?_getD, List.getElem?_eq_getElem hi]; rfl
      rw [e]
      exact h2
    have hc := Decode.calls a0 a1 A2 c2 (oM A) A3 c3 l3 _ _ _ _ _ _ _ _ _ w hr2 hc2 hr3 hc3 (dec_facts a0 a1 ha A hr l3)
    rw [decO_eq, Option.some.inj h] at hc
    exact hc
  · rw [if_neg hby] at h
    cases h
end Go.Proofs.Ytbogmlckbkogiaa.H
namespace Go.Proofs.Ytbogmlckbkogiaa.P
open Go.Proofs.Ytbogmlckbkogiaa.H
open Go.Proofs.Ytbogmlckbkogiaa.Leaf
open Go.RowKit Go.Proofs.YtbogmlckbkogiaaW.PrintWords Go.Proofs.YtbogmlckbkogiaaW.PrintLast Go.Proofs.YtbogmlckbkogiaaW.PrintMore
attribute [local go_sem] max2_int min2_int max_two min_two max_three min_three max_four min_four   -- for this text's walks alone
set_option linter.unusedVariables false
set_option linter.unusedSimpArgs false
def mooringlaw03_awake.f (k : Nat)  : Option (Bool) := (code_Encode.f k 2 1 (([(([5] : List Int)), (([7] : List Int))] : List (List Int)))).bind fun bt110 => (if bt110.2 = 0 then (if (bt110.1.length : Int) = 3 then (if 2 < (bt110.1.length : Int) then (if ((rd_L1 bt110.1 2).length : Int) = 1 then (if 0 < (bt110.1.length : Int) then ((code_Decode.f 2 1 (bt110.1.set (0 : Int).toNat ([] : List Int)) (([false, true, true] : List Bool))).bind fun bt119 => (if bt119.2 = 0 then (if (bt119.1.length : Int) = 3 then (if 0 < (bt119.1.length : Int) then (if ((rd_L1 bt119.1 0).length : Int) = 1 then (if 0 < ((rd_L1 bt119.1 0).length : Int) then (some ((rd (rd_L1 bt119.1 0) 0) == 5)) else (none)) else (none)) else (none)) else (none)) else (none))) else (none)) else (none)) else (none)) else (none)) else (none))
theorem mooringlaw03_awake.mono : ∀ k, LeO (mooringlaw03_awake.f k ) (mooringlaw03_awake.f (k + 1) ) := by
  intro  k
  unfold mooringlaw03_awake.f
  repeat' first
      | (with_reducible exact code_Encode.mono _ _ _ _)
      | (with_reducible exact LeO.refl _)
      | (with_reducible exact LeO.none _)
      | (with_reducible refine LeO.ite ?_ ?_)
      | (with_reducible refine LeO.bind ?_ (fun _ => ?_))
      | exact code_Encode.mono _ _ _ _
      | exact LeO.none _
      | refine LeO.ite ?_ ?_
      | refine LeO.bind ?_ (fun _ => ?_)
set_option maxHeartbeats 8000000 in
set_option maxRecDepth 100000 in
theorem mooringlaw03_awake.calls (k : Nat)  (r : Bool) (w : World) (h : mooringlaw03_awake.f k  = some r) :
    Calls Try.prog 74 #[] w fun e w' => e = .returned (.bool r) ∧ Below w.heap.size w w' := by
  have HB := Aside0.mk (Below.refl w.heap.size w)
  have H : ((code_Encode.f k 2 1 (([(([5] : List Int)), (([7] : List Int))] : List (List Int)))).bind fun bt110 => (if bt110.2 = 0 then (if (bt110.1.length : Int) = 3 then (if 2 < (bt110.1.length : Int) then (if ((rd_L1 bt110.1 2).length : Int) = 1 then (if 0 < (bt110.1.length : Int) then ((code_Decode.f 2 1 (bt110.1.set (0 : Int).toNat ([] : List Int)) (([false, true, true] : List Bool))).bind fun bt119 => (if bt119.2 = 0 then (if (bt119.1.length : Int) = 3 then (if 0 < (bt119.1.length : Int) then (if ((rd_L1 bt119.1 0).length : Int) = 1 then (if 0 < ((rd_L1 bt119.1 0).length : Int) then (some ((rd (rd_L1 bt119.1 0) 0) == 5)) else (none)) else (none)) else (none)) else (none)) else (none))) else (none)) else (none)) else (none)) else (none)) else (none))) = some r := h
  clear h
  obtain ⟨y101, hy101⟩ : ∃ y_ : List Int, y_ = (([5] : List Int)) := ⟨_, rfl⟩
  replace H : ((code_Encode.f k 2 1 (([y101, (([7] : List Int))] : List (List Int)))).bind fun bt110 => (if bt110.2 = 0 then (if (bt110.1.length : Int) = 3 then (if 2 < (bt110.1.length : Int) then (if ((rd_L1 bt110.1 2).length : Int) = 1 then (if 0 < (bt110.1.length : Int) then ((code_Decode.f 2 1 (bt110.1.set (0 : Int).toNat ([] : List Int)) (([false, true, true] : List Bool))).bind fun bt119 => (if bt119.2 = 0 then (if (bt119.1.length : Int) = 3 then (if 0 < (bt119.1.length : Int) then (if ((rd_L1 bt119.1 0).length : Int) = 1 then (if 0 < ((rd_L1 bt119.1 0).length : Int) then (some ((rd (rd_L1 bt119.1 0) 0) == 5)) else (none)) else (none)) else (none)) else (none)) else (none))) else (none)) else (none)) else (none)) else (none)) else (none))) = some r := by first | (rw [hy101]; with_reducible exact H) | (have H2_ := (Option.bind_some _ _).symm.trans H; rw [hy101]; with_reducible exact H2_) | (have H2_ := (Option.bind_some _ _).symm.trans H; with_reducible exact H2_) | with_reducible exact H | (rw [hy101]; exact H) | exact H
  have Ny101 := Aside0.mk hy101
  clear hy101
  obtain ⟨y104, hy104⟩ : ∃ y_ : List Int, y_ = (([7] : List Int)) := ⟨_, rfl⟩
  replace H : ((code_Encode.f k 2 1 (([y101, y104] : List (List Int)))).bind fun bt110 => (if bt110.2 = 0 then (if (bt110.1.length : Int) = 3 then (if 2 < (bt110.1.length : Int) then (if ((rd_L1 bt110.1 2).length : Int) = 1 then (if 0 < (bt110.1.length : Int) then ((code_Decode.f 2 1 (bt110.1.set (0 : Int).toNat ([] : List Int)) (([false, true, true] : List Bool))).bind fun bt119 => (if bt119.2 = 0 then (if (bt119.1.length : Int) = 3 then (if 0 < (bt119.1.length : Int) then (if ((rd_L1 bt119.1 0).length : Int) = 1 then (if 0 < ((rd_L1 bt119.1 0).length : Int) then (some ((rd (rd_L1 bt119.1 0) 0) == 5)) else (none)) else (none)) else (none)) else (none)) else (none))) else (none)) else (none)) else (none)) else (none)) else (none))) = some r := by first | (rw [hy104]; with_reducible exact H) | (have H2_ := (Option.bind_some _ _).symm.trans H; rw [hy104]; with_reducible exact H2_) | (have H2_ := (Option.bind_some _ _).symm.trans H; with_reducible exact H2_) | with_reducible exact H | (rw [hy104]; exact H) | exact H
  have Ny104 := Aside0.mk hy104
  clear hy104
  obtain ⟨y107, hy107⟩ : ∃ y_ : List (List Int), y_ = (([y101, y104] : List (List Int))) := ⟨_, rfl⟩
  replace H : ((code_Encode.f k 2 1 y107).bind fun bt110 => (if bt110.2 = 0 then (if (bt110.1.length : Int) = 3 then (if 2 < (bt110.1.length : Int) then (if ((rd_L1 bt110.1 2).length : Int) = 1 then (if 0 < (bt110.1.length : Int) then ((code_Decode.f 2 1 (bt110.1.set (0 : Int).toNat ([] : List Int)) (([false, true, true] : List Bool))).bind fun bt119 => (if bt119.2 = 0 then (if (bt119.1.length : Int) = 3 then (if 0 < (bt119.1.length : Int) then (if ((rd_L1 bt119.1 0).length : Int) = 1 then (if 0 < ((rd_L1 bt119.1 0).length : Int) then (some ((rd (rd_L1 bt119.1 0) 0) == 5)) else (none)) else (none)) else (none)) else (none)) else (none))) else (none)) else (none)) else (none)) else (none)) else (none))) = some r := by first | (rw [hy107]; with_reducible exact H) | (have H2_ := (Option.bind_some _ _).symm.trans H; rw [hy107]; with_reducible exact H2_) | (have H2_ := (Option.bind_some _ _).symm.trans H; with_reducible exact H2_) | with_reducible exact H | (rw [hy107]; exact H) | exact H
  have Ny107 := Aside0.mk hy107
  clear hy107
  replace H := Option.bind_eq_some_iff.mp H
  obtain ⟨⟨t110, t113⟩, A10, H⟩ := H
  replace H : (if t113 = 0 then (if (t110.length : Int) = 3 then (if 2 < (t110.length : Int) then (if ((rd_L1 t110 2).length : Int) = 1 then (if 0 < (t110.length : Int) then ((code_Decode.f 2 1 (t110.set (0 : Int).toNat ([] : List Int)) (([false, true, true] : List Bool))).bind fun bt119 => (if bt119.2 = 0 then (if (bt119.1.length : Int) = 3 then (if 0 < (bt119.1.length : Int) then (if ((rd_L1 bt119.1 0).length : Int) = 1 then (if 0 < ((rd_L1 bt119.1 0).length : Int) then (some ((rd (rd_L1 bt119.1 0) 0) == 5)) else (none)) else (none)) else (none)) else (none)) else (none))) else (none)) else (none)) else (none)) else (none)) else (none)) = some r := H
  have A1 := Aside0.mk A10
  clear A10
  by_cases c2 : t113 = 0
  · rw [if_pos c2] at H
    have c2b0 : (t113 == 0) = true := beq_iff_eq.mpr c2
    have c2b1 : (t113 != 0) = false := bne_eq_false_iff_eq.mpr c2
    clear c2
    by_cases c3 : (t110.length : Int) = 3
    · rw [if_pos c3] at H
      have c3b0 : ((t110.length : Int) == 3) = true := beq_iff_eq.mpr c3
      have c3b1 : ((t110.length : Int) != 3) = false := bne_eq_false_iff_eq.mpr c3
      clear c3
      by_cases c4 : 2 < (t110.length : Int)
      · rw [if_pos c4] at H
        have c4b0 : decide (2 < (t110.length : Int)) = true := decide_eq_true c4
        have c4b1 : decide (2 < t110.length) = true := decide_eq_true (by omega)
        clear c4
        by_cases c5 : ((rd_L1 t110 2).length : Int) = 1
        · rw [if_pos c5] at H
          have c5b0 : (((rd_L1 t110 2).length : Int) == 1) = true := beq_iff_eq.mpr c5
          have c5b1 : (((rd_L1 t110 2).length : Int) != 1) = false := bne_eq_false_iff_eq.mpr c5
          clear c5
          by_cases c6 : 0 < (t110.length : Int)
          · rw [if_pos c6] at H
            have c6b0 : decide (0 < (t110.length : Int)) = true := decide_eq_true c6
            have c6b1 : decide (0 < t110.length) = true := decide_eq_true (by omega)
            clear c6
            obtain ⟨y115, hy115⟩ : ∃ y_ : List (List Int), y_ = (t110.set (0 : Int).toNat ([] : List Int)) := ⟨_, rfl⟩
            replace H : ((code_Decode.f 2 1 y115 (([false, true, true] : List Bool))).bind fun bt119 => (if bt119.2 = 0 then (if (bt119.1.length : Int) = 3 then (if 0 < (bt119.1.length : Int) then (if ((rd_L1 bt119.1 0).length : Int) = 1 then (if 0 < ((rd_L1 bt119.1 0).length : Int) then (some ((rd (rd_L1 bt119.1 0) 0) == 5)) else (none)) else (none)) else (none)) else (none)) else (none))) = some r := by first | (rw [hy115]; with_reducible exact H) | (have H2_ := (Option.bind_some _ _).symm.trans H; rw [hy115]; with_reducible exact H2_) | (have H2_ := (Option.bind_some _ _).symm.trans H; with_reducible exact H2_) | with_reducible exact H | (rw [hy115]; exact H) | exact H
            have Ny115 := Aside0.mk hy115
            clear hy115
            obtain ⟨y116, hy116⟩ : ∃ y_ : List Bool, y_ = (([false, true, true] : List Bool)) := ⟨_, rfl⟩
            replace H : ((code_Decode.f 2 1 y115 y116).bind fun bt119 => (if bt119.2 = 0 then (if (bt119.1.length : Int) = 3 then (if 0 < (bt119.1.length : Int) then (if ((rd_L1 bt119.1 0).length : Int) = 1 then (if 0 < ((rd_L1 bt119.1 0).length : Int) then (some ((rd (rd_L1 bt119.1 0) 0) == 5)) else (none)) else (none)) else (none)) else (none)) else (none))) = some r := by first | (rw [hy116]; with_reducible exact H) | (have H2_ := (Option.bind_some _ _).symm.trans H; rw [hy116]; with_reducible exact H2_) | (have H2_ := (Option.bind_some _ _).symm.trans H; with_reducible exact H2_) | with_reducible exact H | (rw [hy116]; exact H) | exact H
            have Ny116 := Aside0.mk hy116
            clear hy116
            replace H := Option.bind_eq_some_iff.mp H
            obtain ⟨⟨t119, t122⟩, A80, H⟩ := H
            replace H : (if t122 = 0 then (if (t119.length : Int) = 3 then (if 0 < (t119.length : Int) then (if ((rd_L1 t119 0).length : Int) = 1 then (if 0 < ((rd_L1 t119 0).length : Int) then (some ((rd (rd_L1 t119 0) 0) == 5)) else (none)) else (none)) else (none)) else (none)) else (none)) = some r := H
            have A8 := Aside0.mk A80
            clear A80
            by_cases c9 : t122 = 0
            · rw [if_pos c9] at H
              have c9b0 : (t122 == 0) = true := beq_iff_eq.mpr c9
              have c9b1 : (t122 != 0) = false := bne_eq_false_iff_eq.mpr c9
              clear c9
              by_cases c10 : (t119.length : Int) = 3
              · rw [if_pos c10] at H
                have c10b0 : ((t119.length : Int) == 3) = true := beq_iff_eq.mpr c10
                have c10b1 : ((t119.length : Int) != 3) = false := bne_eq_false_iff_eq.mpr c10
                clear c10
                by_cases c11 : 0 < (t119.length : Int)
                · rw [if_pos c11] at H
                  have c11b0 : decide (0 < (t119.length : Int)) = true := decide_eq_true c11
                  have c11b1 : decide (0 < t119.length) = true := decide_eq_true (by omega)
                  clear c11
                  by_cases c12 : ((rd_L1 t119 0).length : Int) = 1
                  · rw [if_pos c12] at H
                    have c12b0 : (((rd_L1 t119 0).length : Int) == 1) = true := beq_iff_eq.mpr c12
                    have c12b1 : (((rd_L1 t119 0).length : Int) != 1) = false := bne_eq_false_iff_eq.mpr c12
                    clear c12
                    by_cases c13 : 0 < ((rd_L1 t119 0).length : Int)
                    · rw [if_pos c13] at H
                      have c13b0 : decide (0 < ((rd_L1 t119 0).length : Int)) = true := decide_eq_true c13
                      have c13b1 : decide (0 < (rd_L1 t119 0).length) = true := decide_eq_true (by omega)
                      clear c13
                      obtain rfl := Option.some.inj H
                      go_enter Try.func74, Try.ntmps74
                      go_wp2_with (first | ((with_reducible refine gate_dst (N := 5) rfl ?_); (try (refine gate_guard (by rfl) ?_; dsimp only)); refine Kd.R_lit (Kd.int .u8) _ 5 ?hg (N := 5) ?hd (xs := ([5] : List Int)) (inner := [.int .u8 5]) (ok := fun _ => True) (okp := fun _ => True) ?hr ?hp (fun _ hk => hk) trivial (Below.refl _ _) (Nat.le_refl _) (by simp) ?_; (case hd => rfl); (case hg => rfl); (case hr => first | (go_simp; done) | (go_simp; rfl)); (case hp => exact (Reps.one (show Kd.M (Kd.int .u8) _ _ _ 5 [.int .u8 5] from rfl) (Reps.none _ _))); intro v102 w14 ho15 hb hg_ hnew_; clear hg_ hnew_; (first | rw [← Ny101.out] at ho15 | (simp only [Int.reduceToNat] at ho15; rw [← Ny101.out] at ho15)); have n0_ := Aside0.mk (Kd.R_lower ho15 (below_size (by repeat (first | (with_reducible first | exact HB.out | apply below_alloc | apply pw_below_drewN | apply below_drew1) | exact HB.out)))); have n1_ := Aside0.mk (below_step (by repeat (first | (with_reducible first | exact HB.out | apply below_alloc | apply pw_below_drewN | apply below_drew1) | exact HB.out)) hb); clear HB; have HO103 := n0_; have HB := n1_; clear n0_ n1_; clear hb ho15) | ((with_reducible refine gate_dst (N := 6) rfl ?_); (try (refine gate_guard (by rfl) ?_; dsimp only)); refine Kd.R_lit (Kd.int .u8) _ 5 ?hg (N := 6) ?hd (xs := ([7] : List Int)) (inner := [.int .u8 7]) (ok := fun _ => True) (okp := fun _ => True) ?hr ?hp (fun _ hk => hk) trivial (Below.refl _ _) (Nat.le_refl _) (by simp) ?_; (case hd => rfl); (case hg => rfl); (case hr => first | (go_simp; done) | (go_simp; rfl)); (case hp => exact (Reps.one (show Kd.M (Kd.int .u8) _ _ _ 7 [.int .u8 7] from rfl) (Reps.none _ _))); intro v105 w16 ho17 hb hg_ hnew_; clear hg_ hnew_; (first | rw [← Ny104.out] at ho17 | (simp only [Int.reduceToNat] at ho17; rw [← Ny104.out] at ho17)); have n0_ := Aside0.mk (Kd.R_elder' (by (with_reducible repeat (first | apply Kd.R_alloc | apply Kd.R_drewN | apply Kd.R_drew)); exact HO103.out) (Kd.R_base ho17) hb); have n1_ := Aside0.mk (Kd.R_lower (Kd.R_new' ho17 (Kd.R_lt (by (with_reducible repeat (first | apply Kd.R_alloc | apply Kd.R_drewN | apply Kd.R_drew)); exact HO103.out))) (below_size (by repeat (first | (with_reducible first | exact HB.out | apply below_alloc | apply pw_below_drewN | apply below_drew1) | exact HB.out)))); have n2_ := Aside0.mk (below_step (by repeat (first | (with_reducible first | exact HB.out | apply below_alloc | apply pw_below_drewN | apply below_drew1) | exact HB.out)) hb); clear HO103; clear HB; have HO103 := n0_; have HO106 := n1_; have HB := n2_; clear n0_ n1_ n2_; clear hb ho17; obtain ⟨Ao18, co18, eo18⟩ := Kd.R_slice HO103.out; subst eo18; obtain ⟨Ao19, co19, eo19⟩ := Kd.R_slice HO106.out; subst eo19) | ((with_reducible refine gate_dst (N := 7) rfl ?_); (try (refine gate_guard (by rfl) ?_; dsimp only)); refine Kd.N_lit (Kd.slice 5 (Kd.int .u8)) _ 22 ?hg (N' := 7) ?hd (xs := ([y101, y104] : List (List Int))) (inner := [.slice Ao18 y101.length co18, .slice Ao19 y104.length co19]) (ok := (fun _ => True)) (okp := (fun _ => True)) ?hr ?hp (fun _ hk => hk) ((show ∀ k_, w16.heap.size ≤ k_ → (fun _ => True) k_ from fun k_ hk => trivial) _ (Nat.le_refl _)) (Below.refl _ _) (Nat.le_refl _) (by simp) ?_; (case hd => rfl); (case hg => rfl); (case hr => first | (go_simp; done) | (go_simp; rfl)); (case hp => exact (Reps.one (show Kd.FK (Kd.slice 5 (Kd.int .u8)) _ _ y101 [.slice Ao18 y101.length co18] from (Kd.FK_slice_mk (Kd.R_reads' (Kd.R_mono (ok' := (fun _ => True)) (HO103.out) (fun k_ hk => trivial))).2.1 (Kd.R_F (Kd.R_mono (ok' := (fun _ => True)) (HO103.out) (fun k_ hk => trivial))))) (Reps.one (show Kd.FK (Kd.slice 5 (Kd.int .u8)) _ _ y104 [.slice Ao19 y104.length co19] from (Kd.FK_slice_mk (Kd.R_reads' (Kd.R_mono (ok' := (fun _ => True)) (HO106.out) (fun k_ hk => trivial))).2.1 (Kd.R_F (Kd.R_mono (ok' := (fun _ => True)) (HO106.out) (fun k_ hk => trivial))))) (Reps.none _ _)))); intro v108 w20 ho21 hb hg_ hnew_; clear hg_ hnew_; (first | rw [← Ny107.out] at ho21 | (simp only [Int.reduceToNat] at ho21; rw [← Ny107.out] at ho21)); have n0_ := Aside0.mk (Kd.N_lower ho21 (below_size (by repeat (first | (with_reducible first | exact HB.out | apply below_alloc | apply pw_below_drewN | apply below_drew1) | exact HB.out)))); have n1_ := Aside0.mk (below_step (by repeat (first | (with_reducible first | exact HB.out | apply below_alloc | apply pw_below_drewN | apply below_drew1) | exact HB.out)) hb); clear HB; clear HO103; clear HO106; have HO109 := n0_; have HB := n1_; clear n0_ n1_; clear hb ho21; obtain ⟨Ao22, co22, eo22⟩ := Kd.N_slice HO109.out; subst eo22) | ((with_reducible refine gate_callee (f := 75) rfl ?_); refine goesL_ (some 8) rfl rfl Try.func75 (by kernel_rfl) rfl #[.int .i64 2, .int .i64 1, .slice Ao22 y107.length co22] rfl (by (try simp only [List.map_toArray, List.map_cons, List.map_nil]); first | done | rfl | (simp only [List.length_drop, List.length_take]; rfl)) ?_; (with_reducible refine (code_Encode.calls k 2 1 _ _ y107 t110 t113 _ ?side1 ?side2 A1.out).mono ?_); (case side1 => repeat (first | exact (Kd.N_reads' HO109.out).2.2 | (with_reducible refine Kd.C_alloc ?_ _) | (with_reducible refine Kd.C_drewN ?_ _) | (with_reducible refine Kd.C_drew ?_))); (case side2 => exact (Kd.N_reads' HO109.out).2.1); rintro e w23 ⟨v111, rfl, ho0, hb⟩; refine ⟨_, rfl, ?_⟩; have n0_ := Aside0.mk (Kd.N_elder' (by (with_reducible repeat (first | apply Kd.N_alloc | apply Kd.N_drewN | apply Kd.N_drew)); exact HO109.out) (by first | exact Kd.N_base ho0 | exact Kd.S_base ho0) hb); have n1_ := Aside0.mk (Kd.N_lower (Kd.N_mono (ok' := fun k_ => some k_ ≠ (.slice Ao22 y107.length co22 : Value).ownBlock) ho0 (fun k_ hk_ => (Kd.fresh' (Kd.N_lt (by (with_reducible repeat (first | apply Kd.N_alloc | apply Kd.N_drewN | apply Kd.N_drew)); exact HO109.out)) k_ hk_))) (below_size (by repeat (first | (with_reducible first | exact HB.out | apply below_alloc | apply pw_below_drewN | apply below_drew1) | exact HB.out)))); have n2_ := Aside0.mk (below_step (by repeat (first | (with_reducible first | exact HB.out | apply below_alloc | apply pw_below_drewN | apply below_drew1) | exact HB.out)) hb); clear HO109; clear HB; have HO109 := n0_; have HO112 := n1_; have HB := n2_; clear n0_ n1_ n2_; (try clear hb); (try clear hb2); (try clear hk); (try clear hi); (try clear ho0); obtain ⟨Ao24, co24, eo24⟩ := Kd.N_slice HO112.out; subst eo24; have p114 : 0 ≤ (2 : Int) := (by omega); have q114 : 2 < (t110.length : Int) := of_decide_eq_true (by first | (with_reducible assumption) | assumption); obtain ⟨ad114, A114_0, c114_0, e114, hx114_0, hl114_0, hi114_0⟩ := at_L1 (Kd.N_reads' HO112.out).2.2 2 p114 q114; cases e114; obtain ⟨ce114, hce114, hMe114, hcc114⟩ := Kd.N_get HO112.out [] 2 p114 (by first | exact q114 | exact of_decide_eq_true (by first | (with_reducible assumption) | assumption) | (have e_ := (Kd.N_reads' HO112.out).1; omega)); obtain ⟨ua114_0, uc114_0, rfl, ul114_0, ge114_0⟩ := Kd.FK_slice_open hMe114; have hv114_0 := hcc114 0 _ rfl; rw [Nat.add_zero, show ((Kd.slice 5 (Kd.int .u8))).sz = 1 from rfl, Nat.mul_one] at hv114_0; replace hv114_0 := Option.some.inj (hv114_0.symm.trans hx114_0); injection hv114_0 with hva_ hvn_ hvc_; rw [hva_] at ge114_0; rw [hvc_] at ul114_0; have HL114_0 := Aside0.mk (show Kd.V (Kd.int .u8) 5 _ w.heap.size _ _ (rd_L1 t110 2) from Kd.V_mk ul114_0 ge114_0); clear hva_ hvn_ hvc_ ge114_0 ul114_0; clear hcc114 hce114; (try simp only [show (2 : Int).toNat = 2 from rfl, Nat.reduceMul, Nat.reduceEqDiff, Go.Addr.add, ↓reduceIte] at hx114_0); have qi114 : (2 < t110.length) = True := eq_true (by omega); (try rw [show ((2 : Int)).toNat = 2 from rfl] at hx114_0); have HR114_0 := Aside0.mk hi114_0; have HC114_0 := Aside0.mk hl114_0; clear hi114_0 hl114_0; replace p114 := eq_true p114; replace q114 := eq_true q114; have p7 : 0 ≤ (0 : Int) := (by omega); have q7 : (0 : Int) < ((t110.length : Int) : Int) := of_decide_eq_true (by first | (with_reducible assumption) | assumption); have qi7 : (0 < t110.length) = True := eq_true (by omega); obtain ⟨go7, co7, eo7, gb7, gl7, cl7, HG7⟩ := Kd.N_form HO112.out (by omega); (first | cases eo7 | (injection eo7 with ea_ en_ ec_; (first | subst ea_ | (injection ea_ with ea_; subst ea_)); subst ec_; clear en_)); have GB7 := Aside0.mk gb7; have GG7 := Aside0.mk HG7; clear gb7 gl7 HG7; (first | simp only [add_plain] at hx114_0 | skip); obtain ⟨ce7, hcl7, hM7, hcc7, hfr7⟩ := Kd.N_elem HO112.out [] (0 : Int) p7 q7; obtain ⟨ua7_0, uc7_0, rfl, ul7_0, ge7_0⟩ := Kd.FK_slice_open hM7; have hx7_0 := hcc7 0 _ rfl; have hf7_0 := hfr7 0; (try simp only [show ((Kd.slice 5 (Kd.int .u8))).sz = 1 from rfl, Nat.mul_one, Nat.add_zero] at hx7_0); (try simp only [show ((Kd.slice 5 (Kd.int .u8))).sz = 1 from rfl, Nat.mul_one, Nat.add_zero] at hf7_0); (try clear hcl7); (try clear hcc7); (try clear hfr7); (try clear hM7); (try rw [show ((0 : Int)).toNat = 0 from rfl] at hx7_0); (try simp only [Nat.reduceMul, Nat.zero_mul, Nat.zero_add, Nat.reduceAdd] at hx7_0); (try rw [show ((0 : Int)).toNat = 0 from rfl] at hf7_0); (try simp only [Nat.reduceMul, Nat.zero_mul, Nat.zero_add, Nat.reduceAdd] at hf7_0); replace p7 := eq_true p7; replace q7 := eq_true q7; have HX25 := Aside0.mk (show Kd.N (Kd.slice 5 (Kd.int .u8)) 22 w23 w.heap.size (fun k_ => some k_ ≠ (.slice Ao22 y107.length co22 : Value).ownBlock) (.slice (some ⟨go7, 0, none⟩) t110.length co24) t110 from (by (with_reducible repeat (first | apply Kd.N_alloc | apply Kd.N_drewN | apply Kd.N_drew)); exact HO112.out)); obtain ⟨ce25, hcl25, hM25, hcc25, hfr25⟩ := Kd.N_elem HX25.out [] (0 : Int) (by omega) (by have h_ : (0 : Int) < ((t110.length : Int) : Int) := of_decide_eq_true (by first | (with_reducible assumption) | assumption); first | exact h_ | (have e_ := (Kd.N_reads' HO112.out).1; omega) | simpa using h_); obtain ⟨ua25_0, uc25_0, rfl, ul25_0, ge25_0⟩ := Kd.FK_slice_open hM25; have HP25 := Kd.N_seg HX25.out (0 : Int) (by omega) (by have h_ : (0 : Int) < ((t110.length : Int) : Int) := of_decide_eq_true (by first | (with_reducible assumption) | assumption); first | exact h_ | (have e_ := (Kd.N_reads' HO112.out).1; omega) | simpa using h_) (seg := [.slice none 0 0]) (j := 0) hcl25 hcc25 (show 1 ≤ 1 from by decide) (x' := ([] : List Int)) (Kd.FK_slice_mk (Nat.le_refl _) (Kd.F_nil _ _ _)) (fun _ hk => hk); have hx25_0 := hcc25 0 _ rfl; (try simp only [show ((Kd.slice 5 (Kd.int .u8))).sz = 1 from rfl, Nat.mul_one, Nat.add_zero] at hx25_0); (try rw [show ((0 : Int)).toNat = 0 from rfl] at hx25_0); (try simp only [Nat.reduceMul, Nat.zero_mul, Nat.zero_add, Nat.reduceAdd] at hx25_0); have hf25_0 := hfr25 0; (try simp only [show ((Kd.slice 5 (Kd.int .u8))).sz = 1 from rfl, Nat.mul_one, Nat.add_zero] at hf25_0); (try rw [show ((0 : Int)).toNat = 0 from rfl] at hf25_0); (try simp only [Nat.reduceMul, Nat.zero_mul, Nat.zero_add, Nat.reduceAdd] at hf25_0); (try clear hcl25); (try clear hcc25); (try clear hfr25); (try clear hM25); (try simp only [show ((Kd.slice 5 (Kd.int .u8))).sz = 1 from rfl, Nat.mul_one, Nat.add_zero] at HP25); (try simp only [show ((Kd.slice 5 (Kd.int .u8))).sz = 1 from rfl, Nat.mul_one, Nat.add_zero] at HP25)) | ((with_reducible refine gate_store (t := 22) (p := 26) rfl ?_); refine store_event (t := 22) (p := 26) (v := ?vo_w26) (w1 := (w23.setCell ⟨go7, 0, none⟩ (.slice none 0 0))) ?hg ?ho ?hn ?hr ?_; (case ho => rfl); (case hg => rfl); (case hn => rfl); (case hr => first | (go_simp; done) | (go_simp; rfl)); intro w26 hw; have hg : w23.grownBy w26 (some go7) := (by rw [hw]; exact HP25.2); have hp_ : Kd.N (Kd.slice 5 (Kd.int .u8)) 22 w26 w.heap.size (fun k_ => some k_ ≠ (.slice Ao22 y107.length co22 : Value).ownBlock) (.slice (some ⟨go7, 0, none⟩) t110.length co24) y115 := (by rw [hw, Ny115.out]; exact HP25.1); clear HP25; have n0_ := Aside0.mk (Kd.N_afterv (v := (.slice (some ⟨go7, 0, none⟩) t110.length co24)) (v1 := (.slice (some ⟨go7, 0, none⟩) t110.length co24)) (ok := (fun _ => True)) (by (with_reducible repeat (first | apply Kd.N_alloc | apply Kd.N_drewN | apply Kd.N_drew)); exact HO109.out) hg (.inl rfl)); have n1_ := Aside0.mk (hp_); have n2_ := Aside0.mk (Kd.V_afterv (v := (.slice (some ⟨go7, 0, none⟩) t110.length co24)) (v1 := (.slice (some ⟨go7, 0, none⟩) t110.length co24)) (ok := (fun k_ => some k_ ≠ (.slice Ao22 y107.length co22 : Value).ownBlock)) (by (with_reducible repeat (first | apply Kd.V_alloc | apply Kd.V_drewN | apply Kd.V_drew)); exact HL114_0.out) hg (.inl rfl)); have n3_ := Aside0.mk ((by rw [hw]; exact below_set (HB.out) GB7.out : Below w.heap.size w w26)); clear HO109; clear HO112; clear HL114_0; clear HB; have HO109 := n0_; have HO112 := n1_; have HL114_0 := n2_; have HB := n3_; clear n0_ n1_ n2_ n3_; clear hg hw hp_) | ((with_reducible refine gate_dst (N := 29) rfl ?_); (try (refine gate_guard (by rfl) ?_; dsimp only)); refine Kd.R_lit Kd.bool _ 4 ?hg (N := 29) ?hd (xs := ([false, true, true] : List Bool)) (inner := [.bool false, .bool true, .bool true]) (ok := fun _ => True) (okp := fun _ => True) ?hr ?hp (fun _ hk => hk) trivial (Below.refl _ _) (Nat.le_refl _) (by simp) ?_; (case hd => rfl); (case hg => rfl); (case hr => first | (go_simp; done) | (go_simp; rfl)); (case hp => exact (Reps.one (show Kd.M Kd.bool _ _ _ false [.bool false] from rfl) (Reps.one (show Kd.M Kd.bool _ _ _ true [.bool true] from rfl) (Reps.one (show Kd.M Kd.bool _ _ _ true [.bool true] from rfl) (Reps.none _ _))))); intro v117 w27 ho28 hb hg_ hnew_; clear hg_ hnew_; (first | rw [← Ny116.out] at ho28 | (simp only [Int.reduceToNat] at ho28; rw [← Ny116.out] at ho28)); have n0_ := Aside0.mk (Kd.N_elder' (by (with_reducible repeat (first | apply Kd.N_alloc | apply Kd.N_drewN | apply Kd.N_drew)); exact HO109.out) (Kd.R_base ho28) hb); have n1_ := Aside0.mk (Kd.N_elder' (by (with_reducible repeat (first | apply Kd.N_alloc | apply Kd.N_drewN | apply Kd.N_drew)); exact HO112.out) (Kd.R_base ho28) hb); have n2_ := Aside0.mk (Kd.V_elder' (by (with_reducible repeat (first | apply Kd.V_alloc | apply Kd.V_drewN | apply Kd.V_drew)); exact HL114_0.out) (Kd.R_base ho28) hb); have n3_ := Aside0.mk (Kd.R_lower ho28 (below_size (by repeat (first | (with_reducible first | exact HB.out | apply below_alloc | apply pw_below_drewN | apply below_drew1) | exact HB.out)))); have n4_ := Aside0.mk (below_step (by repeat (first | (with_reducible first | exact HB.out | apply below_alloc | apply pw_below_drewN | apply below_drew1) | exact HB.out)) hb); clear HO109; clear HO112; clear HL114_0; clear HB; have HO109 := n0_; have HO112 := n1_; have HL114_0 := n2_; have HO118 := n3_; have HB := n4_; clear n0_ n1_ n2_ n3_ n4_; clear hb ho28; obtain ⟨Ao29, co29, eo29⟩ := Kd.R_slice HO118.out; subst eo29) | ((with_reducible refine gate_callee (f := 77) rfl ?_); refine goesL_ (some 30) rfl rfl Try.func77 (by kernel_rfl) rfl #[.int .i64 2, .int .i64 1, .slice (some ⟨go7, 0, none⟩) y115.length co24, .slice Ao29 y116.length co29] rfl (by (try simp only [List.map_toArray, List.map_cons, List.map_nil]); first | done | (rw [show y115.length = t110.length from (Kd.N_reads' HO112.out).1.symm] <;> rfl) | rfl | (simp only [List.length_drop, List.length_take]; rfl)) ?_; (with_reducible refine (code_Decode.calls 2 1 _ _ y115 _ _ y116 t119 t122 _ ?side1 ?side2 ?side3 ?side4 A8.out).mono ?_); (case side1 => repeat (first | exact (Kd.N_reads' HO112.out).2.2 | (with_reducible refine Kd.C_alloc ?_ _) | (with_reducible refine Kd.C_drewN ?_ _) | (with_reducible refine Kd.C_drew ?_))); (case side2 => rw [show y115.length = t110.length from (Kd.N_reads' HO112.out).1.symm]; exact (Kd.N_reads' HO112.out).2.1); (case side3 => repeat (first | exact (Kd.R_reads' HO118.out).2.2 | (with_reducible refine Kd.C_alloc ?_ _) | (with_reducible refine Kd.C_drewN ?_ _) | (with_reducible refine Kd.C_drew ?_))); (case side4 => exact (Kd.R_reads' HO118.out).2.1); rintro e w30 ⟨v120, rfl, ho0, hb⟩; refine ⟨_, rfl, ?_⟩; have n0_ := Aside0.mk (Kd.N_elder' (by (with_reducible repeat (first | apply Kd.N_alloc | apply Kd.N_drewN | apply Kd.N_drew)); exact HO109.out) (by first | exact Kd.N_base ho0 | exact Kd.S_base ho0) hb); have n1_ := Aside0.mk (Kd.N_elder' (by (with_reducible repeat (first | apply Kd.N_alloc | apply Kd.N_drewN | apply Kd.N_drew)); exact HO112.out) (by first | exact Kd.N_base ho0 | exact Kd.S_base ho0) hb); have n2_ := Aside0.mk (Kd.V_elder' (by (with_reducible repeat (first | apply Kd.V_alloc | apply Kd.V_drewN | apply Kd.V_drew)); exact HL114_0.out) (by first | exact Kd.N_base ho0 | exact Kd.S_base ho0) hb); have n3_ := Aside0.mk (Kd.R_below (by (with_reducible repeat (first | apply Kd.R_alloc | apply Kd.R_drewN | apply Kd.R_drew)); exact HO118.out) hb); have n4_ := Aside0.mk (Kd.N_lower (Kd.N_mono (ok' := fun k_ => some k_ ≠ (.slice Ao22 y107.length co22 : Value).ownBlock ∧ some k_ ≠ (.slice (some ⟨go7, 0, none⟩) t110.length co24 : Value).ownBlock ∧ some k_ ≠ (.slice Ao29 y116.length co29 : Value).ownBlock) ho0 (fun k_ hk_ => ⟨(Kd.fresh' (Kd.N_lt (by (with_reducible repeat (first | apply Kd.N_alloc | apply Kd.N_drewN | apply Kd.N_drew)); exact HO109.out)) k_ hk_), (Kd.fresh' (Kd.N_lt (by (with_reducible repeat (first | apply Kd.N_alloc | apply Kd.N_drewN | apply Kd.N_drew)); exact HO112.out)) k_ hk_), (Kd.fresh' (Kd.R_lt (by (with_reducible repeat (first | apply Kd.R_alloc | apply Kd.R_drewN | apply Kd.R_drew)); exact HO118.out)) k_ hk_)⟩)) (below_size (by repeat (first | (with_reducible first | exact HB.out | apply below_alloc | apply pw_below_drewN | apply below_drew1) | exact HB.out)))); have n5_ := Aside0.mk (below_step (by repeat (first | (with_reducible first | exact HB.out | apply below_alloc | apply pw_below_drewN | apply below_drew1) | exact HB.out)) hb); clear HO109; clear HO112; clear HL114_0; clear HO118; clear HB; have HO109 := n0_; have HO112 := n1_; have HL114_0 := n2_; have HO118 := n3_; have HO121 := n4_; have HB := n5_; clear n0_ n1_ n2_ n3_ n4_ n5_; (try clear hb); (try clear hb2); (try clear hk); (try clear hi); (try clear ho0); obtain ⟨Ao31, co31, eo31⟩ := Kd.N_slice HO121.out; subst eo31; have p123 : 0 ≤ (0 : Int) := (by omega); have q123 : 0 < (t119.length : Int) := of_decide_eq_true (by first | (with_reducible assumption) | assumption); obtain ⟨ad123, A123_0, c123_0, e123, hx123_0, hl123_0, hi123_0⟩ := at_L1 (Kd.N_reads' HO121.out).2.2 0 p123 q123; cases e123; obtain ⟨ce123, hce123, hMe123, hcc123⟩ := Kd.N_get HO121.out [] 0 p123 (by first | exact q123 | exact of_decide_eq_true (by first | (with_reducible assumption) | assumption) | (have e_ := (Kd.N_reads' HO121.out).1; omega)); obtain ⟨ua123_0, uc123_0, rfl, ul123_0, ge123_0⟩ := Kd.FK_slice_open hMe123; have hv123_0 := hcc123 0 _ rfl; rw [Nat.add_zero, show ((Kd.slice 5 (Kd.int .u8))).sz = 1 from rfl, Nat.mul_one] at hv123_0; replace hv123_0 := Option.some.inj (hv123_0.symm.trans hx123_0); injection hv123_0 with hva_ hvn_ hvc_; rw [hva_] at ge123_0; rw [hvc_] at ul123_0; have HL123_0 := Aside0.mk (show Kd.V (Kd.int .u8) 5 _ w.heap.size _ _ (rd_L1 t119 0) from Kd.V_mk ul123_0 ge123_0); clear hva_ hvn_ hvc_ ge123_0 ul123_0; clear hcc123 hce123; have qi123 : (0 < t119.length) = True := eq_true (by omega); (try rw [show ((0 : Int)).toNat = 0 from rfl] at hx123_0); (try rw [Addr.add_zero'] at hx123_0); have HR123_0 := Aside0.mk hi123_0; have HC123_0 := Aside0.mk hl123_0; clear hi123_0 hl123_0; replace p123 := eq_true p123; replace q123 := eq_true q123; have p124 : 0 ≤ (0 : Int) := (by omega); have q124 : 0 < (t119.length : Int) := of_decide_eq_true (by first | (with_reducible assumption) | assumption); obtain ⟨ad124, A124_0, c124_0, e124, hx124_0, hl124_0, hi124_0⟩ := at_L1 (Kd.N_reads' HO121.out).2.2 0 p124 q124; obtain rfl : ad123 = ad124 := (by injection e124); obtain ⟨ce124, hce124, hMe124, hcc124⟩ := Kd.N_get HO121.out [] 0 p124 (by first | exact q124 | exact of_decide_eq_true (by first | (with_reducible assumption) | assumption) | (have e_ := (Kd.N_reads' HO121.out).1; omega)); obtain ⟨ua124_0, uc124_0, rfl, ul124_0, ge124_0⟩ := Kd.FK_slice_open hMe124; have hv124_0 := hcc124 0 _ rfl; rw [Nat.add_zero, show ((Kd.slice 5 (Kd.int .u8))).sz = 1 from rfl, Nat.mul_one] at hv124_0; replace hv124_0 := Option.some.inj (hv124_0.symm.trans hx124_0); injection hv124_0 with hva_ hvn_ hvc_; rw [hva_] at ge124_0; rw [hvc_] at ul124_0; have HL124_0 := Aside0.mk (show Kd.V (Kd.int .u8) 5 _ w.heap.size _ _ (rd_L1 t119 0) from Kd.V_mk ul124_0 ge124_0); clear hva_ hvn_ hvc_ ge124_0 ul124_0; clear hcc124 hce124; have qi124 : (0 < t119.length) = True := eq_true (by omega); (try rw [show ((0 : Int)).toNat = 0 from rfl] at hx124_0); (try rw [Addr.add_zero'] at hx124_0); have HR124_0 := Aside0.mk hi124_0; have HC124_0 := Aside0.mk hl124_0; clear hi124_0 hl124_0; replace p124 := eq_true p124; replace q124 := eq_true q124; have ea_ := Option.some.inj (hx123_0.symm.trans hx124_0); injection ea_ with ea_ en_ ec_; subst ea_; subst ec_; clear en_; have p125 : 0 ≤ (0 : Int) := (by omega); have q125 : 0 < ((rd_L1 t119 0).length : Int) := of_decide_eq_true (by first | (with_reducible assumption) | assumption); obtain ⟨ad125, e125, hx125_0⟩ := Kd.at_int (by repeat (first | (with_reducible exact HR124_0.out) | (with_reducible refine Kd.C_alloc ?_ _) | (with_reducible refine Kd.C_drewN ?_ _) | (with_reducible refine Kd.C_drew ?_) | exact HR124_0.out)) 0 p125 q125; cases e125; have qi125 : (0 < (rd_L1 t119 0).length) = True := eq_true (by omega); (try rw [show ((0 : Int)).toNat = 0 from rfl] at hx125_0); (try rw [Addr.add_zero'] at hx125_0); replace p125 := eq_true p125; replace q125 := eq_true q125))
                      go_ret
                      exact ⟨by first | rfl | (simp [errW_none, errW_some] <;> rfl) | (simp [*, errW_none, errW_some] <;> rfl), by repeat (first | (with_reducible first | exact HB.out | apply below_alloc | apply pw_below_drewN | apply below_drew1) | exact HB.out)⟩
                    · rw [if_neg c13] at H
                      exact absurd H (by simp)
                  · rw [if_neg c12] at H
                    exact absurd H (by simp)
                · rw [if_neg c11] at H
                  exact absurd H (by simp)
              · rw [if_neg c10] at H
                exact absurd H (by simp)
            · rw [if_neg c9] at H
              exact absurd H (by simp)
          · rw [if_neg c6] at H
            exact absurd H (by simp)
        · rw [if_neg c5] at H
          exact absurd H (by simp)
      · rw [if_neg c4] at H
        exact absurd H (by simp)
    · rw [if_neg c3] at H
      exact absurd H (by simp)
  · rw [if_neg c2] at H
    exact absurd H (by simp)
end Go.Proofs.Ytbogmlckbkogiaa.P
namespace Go.Proofs.Ytbogmlckbkogiaa.P
open Go.Proofs.Ytbogmlckbkogiaa.Leaf
open Go.RowKit Go.Proofs.YtbogmlckbkogiaaW.PrintWords Go.Proofs.YtbogmlckbkogiaaW.PrintLast Go.Proofs.YtbogmlckbkogiaaW.PrintMore
attribute [local go_sem] max2_int min2_int max_two min_two max_three min_three max_four min_four   -- for this text's walks alone
set_option linter.unusedVariables false
set_option linter.unusedSimpArgs false
def mooringlaw03_count.l0 : Nat → List Bool → Int → Int → Option (Int)
  | 0, _, _, _ => none
  | k + 1, x0, x3, x4 => if x4 < (x0.length : Int) then (if 0 ≤ x4 then (if rdOf false x0 x4 = true then (mooringlaw03_count.l0 k x0 (wrap64 (x3 + 1)) (wrap64 (x4 + 1))) else (mooringlaw03_count.l0 k x0 x3 (wrap64 (x4 + 1)))) else (none)) else (some x3)
def mooringlaw03_count.f (k : Nat) (l0 : List Bool) : Option (Int) := mooringlaw03_count.l0 k l0 0 0
theorem mooringlaw03_count.mono_l : ∀ k, (∀ y0 y1 y2, LeO (mooringlaw03_count.l0 k y0 y1 y2) (mooringlaw03_count.l0 (k + 1) y0 y1 y2))
  | 0 => fun _ _ _ r h => by simp [mooringlaw03_count.l0] at h
  | k + 1 => by
    have ih0 := mooringlaw03_count.mono_l k
    · intro y0 y1 y2
      unfold mooringlaw03_count.l0
      repeat' first
      | (with_reducible exact ih0 _ _ _)
      | (with_reducible exact LeO.refl _)
      | (with_reducible exact LeO.none _)
      | (with_reducible refine LeO.ite ?_ ?_)
      | (with_reducible refine LeO.bind ?_ (fun _ => ?_))
      | exact ih0 _ _ _
      | exact LeO.none _
      | refine LeO.ite ?_ ?_
      | refine LeO.bind ?_ (fun _ => ?_)
theorem mooringlaw03_count.mono : ∀ a0 k, LeO (mooringlaw03_count.f k a0) (mooringlaw03_count.f (k + 1) a0) := by
  intro a0 k
  have ih0 := mooringlaw03_count.mono_l k
  unfold mooringlaw03_count.f
  repeat' first
      | (with_reducible exact ih0 _ _ _)
      | (with_reducible exact LeO.refl _)
      | (with_reducible exact LeO.none _)
      | (with_reducible refine LeO.ite ?_ ?_)
      | (with_reducible refine LeO.bind ?_ (fun _ => ?_))
      | exact ih0 _ _ _
      | exact LeO.none _
      | refine LeO.ite ?_ ?_
      | refine LeO.bind ?_ (fun _ => ?_)
set_option maxHeartbeats 8000000 in
set_option maxRecDepth 100000 in
theorem mooringlaw03_count.calls (k : Nat) (A0 : Option Addr) (c0 : Nat) (l0 : List Bool) (r : Int) (w : World) (hr0 : Kd.C Kd.bool w A0 l0.length l0) (hc0 : l0.length ≤ c0) (h : mooringlaw03_count.f k l0 = some r) :
    Calls Try.prog 78 #[.slice A0 l0.length c0] w fun e w' => e = .returned (.int .i64 r) ∧ Drawn0 w w' := by
  have HR0 := Aside0.mk hr0
  have HC0 := Aside0.mk hc0
  clear hr0 hc0
  have H : (mooringlaw03_count.l0 k l0 0 0) = some r := h
  clear h
  have H' := Aside0.mk H
  clear H
  go_enter Try.func78, Try.ntmps78
  go_wp2
  go_loopg [3, 4] k (fun kq v3 v4 w' => ∃ (x3_1 : Int) (x4_1 : Int), v3 = .int .i64 x3_1 ∧ v4 = .int .i64 x4_1 ∧ Aside0 (mooringlaw03_count.l0 kq l0 x3_1 x4_1 = some r) ∧ Aside0 (kq ≤ k) ∧ Drawn0 w w')
  case atStart => exact ⟨(0), (0), (by first | rfl | (simp; done) | (simp [*]; done)), (by first | rfl | (simp; done) | (simp [*]; done)), H', ⟨Nat.le_refl _⟩, by repeat (first | exact Drawn0.refl _ | apply Drawn0.step)⟩
  case round =>
    clear H'
    obtain ⟨x3_1, x4_1, rfl, rfl, HA, HK1, ⟨m1, rfl⟩⟩ := hrel
    cases gk with
    | zero => exact absurd HA.out (by simp [mooringlaw03_count.l0])
    | succ k1 =>
      have H := HA.out
      clear HA
      simp only [mooringlaw03_count.l0] at H
      by_cases c2 : x4_1 < (l0.length : Int)
      · rw [if_pos c2] at H
        have c2b0 : decide (x4_1 < (l0.length : Int)) = true := decide_eq_true c2
        clear c2
        by_cases c3 : 0 ≤ x4_1
        · rw [if_pos c3] at H
          have c3b0 : decide (0 ≤ x4_1) = true := decide_eq_true c3
          clear c3
          obtain ⟨bq4, hbq4⟩ : ∃ b_ : Bool, b_ = (rdOf false l0 x4_1) := ⟨_, rfl⟩
          replace H : (if bq4 = true then (mooringlaw03_count.l0 k1 l0 (wrap64 (x3_1 + 1)) (wrap64 (x4_1 + 1))) else (mooringlaw03_count.l0 k1 l0 x3_1 (wrap64 (x4_1 + 1)))) = some r := by rw [← hbq4] at H; exact H
          have Nbq4 := Aside0.mk hbq4
          clear hbq4
          by_cases c5 : bq4 = true
          · subst c5
            have H1 : (mooringlaw03_count.l0 k1 l0 (wrap64 (x3_1 + 1)) (wrap64 (x4_1 + 1))) = some r := by rw [if_pos rfl] at H; exact H
            clear H
            have H := H1
            clear H1
            have H' := Aside0.mk H
            clear H
            have p101 : 0 ≤ (x4_1 : Int) := of_decide_eq_true (by first | (with_reducible assumption) | assumption)
            have q101 : x4_1 < (l0.length : Int) := of_decide_eq_true (by first | (with_reducible assumption) | assumption)
            obtain ⟨ad101, e101, hx101_0⟩ := Kd.at_bool HR0.out x4_1 p101 q101
            (try rw [← Nbq4.out] at hx101_0)
            cases e101
            replace p101 := eq_true p101
            replace q101 := eq_true q101
            go_wp2
            go_roundg k1
            case measure => have := HK1.out; omega
            case rel => exact ⟨(wrap64 (x3_1 + 1)), (wrap64 (x4_1 + 1)), (by first | rfl | (simp; done) | (simp [*]; done)), (by first | rfl | (simp; done) | (simp [*]; done)), H', ⟨by have := HK1.out; omega⟩, by repeat (first | exact Drawn0.refl _ | apply Drawn0.step)⟩
          · replace c5 := Bool.eq_false_iff.mpr c5
            subst c5
            have H1 : (mooringlaw03_count.l0 k1 l0 x3_1 (wrap64 (x4_1 + 1))) = some r := by rw [if_neg (show ¬ (false = true) by decide)] at H; exact H
            clear H
            have H := H1
            clear H1
            have H' := Aside0.mk H
            clear H
            have p101 : 0 ≤ (x4_1 : Int) := of_decide_eq_true (by first | (with_reducible assumption) | assumption)
            have q101 : x4_1 < (l0.length : Int) := of_decide_eq_true (by first | (with_reducible assumption) | assumption)
            obtain ⟨ad101, e101, hx101_0⟩ := Kd.at_bool HR0.out x4_1 p101 q101
            (try rw [← Nbq4.out] at hx101_0)
            cases e101
            replace p101 := eq_true p101
            replace q101 := eq_true q101
            go_wp2
            go_roundg k1
            case measure => have := HK1.out; omega
            case rel => exact ⟨(x3_1), (wrap64 (x4_1 + 1)), (by first | rfl | (simp; done) | (simp [*]; done)), (by first | rfl | (simp; done) | (simp [*]; done)), H', ⟨by have := HK1.out; omega⟩, by repeat (first | exact Drawn0.refl _ | apply Drawn0.step)⟩
        · rw [if_neg c3] at H
          exact absurd H (by simp)
      · rw [if_neg c2] at H
        have c2b0 : decide (x4_1 < (l0.length : Int)) = false := decide_eq_false c2
        clear c2
        obtain rfl := Option.some.inj H
        go_wp2
        go_ret
        exact ⟨by first | rfl | (simp; done) | (simp [*]; done), by repeat (first | exact Drawn0.refl _ | apply Drawn0.step)⟩
end Go.Proofs.Ytbogmlckbkogiaa.P
namespace Go.Proofs.Ytbogmlckbkogiaa.P
open Go.Proofs.Ytbogmlckbkogiaa.Leaf
open Go.RowKit Go.Proofs.YtbogmlckbkogiaaW.PrintWords Go.Proofs.YtbogmlckbkogiaaW.PrintLast Go.Proofs.YtbogmlckbkogiaaW.PrintMore
attribute [local go_sem] max2_int min2_int max_two min_two max_three min_three max_four min_four   -- for this text's walks alone
set_option linter.unusedVariables false
set_option linter.unusedSimpArgs false
def mooringref03_Check.j0 : Nat → Int → Int → List (List Int) → Bool → Option (Bool × Int)
  | 0, _, _, _, _ => none
  | k + 1, x0, x1, x2, x21 => if x21 = true then (some (false, 1)) else (if 0 ≤ x0 then (if x0 ≤ (x2.length : Int) then ((mooringref03_Encode.f k x0 x1 (x2.take (x0 : Int).toNat)).bind fun bt107 => ((mooringref02_Same.f k bt107.1 x2).bind fun t111 => (some (t111, 0)))) else (none)) else (none))
def mooringref03_Check.f (k : Nat) (a0 : Int) (a1 : Int) (l2 : List (List Int)) : Option (Bool × Int) := (mooringref03_Code.f a0 a1).bind fun t101 => (if t101 = true then ((mooringref03_even.f k l2 (wrap64 (a0 + a1))).bind fun t102 => (mooringref03_Check.j0 k a0 a1 l2 (!t102))) else (mooringref03_Check.j0 k a0 a1 l2 true))
theorem mooringref03_Check.mono_l : ∀ k, (∀ y0 y1 y2 y3, LeO (mooringref03_Check.j0 k y0 y1 y2 y3) (mooringref03_Check.j0 (k + 1) y0 y1 y2 y3))
  | 0 => fun _ _ _ _ r h => by simp [mooringref03_Check.j0] at h
  | k + 1 => by
    have ih0 := mooringref03_Check.mono_l k
    · intro y0 y1 y2 y3
      unfold mooringref03_Check.j0
      repeat' first
      | (with_reducible exact ih0 _ _ _ _)
      | (with_reducible exact mooringref02_Same.mono _ _ _)
      | (with_reducible exact mooringref03_Encode.mono _ _ _ _)
      | (with_reducible exact mooringref03_even.mono _ _ _)
      | (with_reducible exact LeO.refl _)
      | (with_reducible exact LeO.none _)
      | (with_reducible refine LeO.ite ?_ ?_)
      | (with_reducible refine LeO.bind ?_ (fun _ => ?_))
      | exact ih0 _ _ _ _
      | exact mooringref02_Same.mono _ _ _
      | exact mooringref03_Encode.mono _ _ _ _
      | exact mooringref03_even.mono _ _ _
      | exact LeO.none _
      | refine LeO.ite ?_ ?_
      | refine LeO.bind ?_ (fun _ => ?_)
theorem mooringref03_Check.mono : ∀ a0 a1 a2 k, LeO (mooringref03_Check.f k a0 a1 a2) (mooringref03_Check.f (k + 1) a0 a1 a2) := by
  intro a0 a1 a2 k
  have ih0 := mooringref03_Check.mono_l k
  unfold mooringref03_Check.f
  repeat' first
      | (with_reducible exact ih0 _ _ _ _)
      | (with_reducible exact mooringref02_Same.mono _ _ _)
      | (with_reducible exact mooringref03_Encode.mono _ _ _ _)
      | (with_reducible exact mooringref03_even.mono _ _ _)
      | (with_reducible exact LeO.refl _)
      | (with_reducible exact LeO.none _)
      | (with_reducible refine LeO.ite ?_ ?_)
      | (with_reducible refine LeO.bind ?_ (fun _ => ?_))
      | exact ih0 _ _ _ _
      | exact mooringref02_Same.mono _ _ _
      | exact mooringref03_Encode.mono _ _ _ _
      | exact mooringref03_even.mono _ _ _
      | exact LeO.none _
      | refine LeO.ite ?_ ?_
      | refine LeO.bind ?_ (fun _ => ?_)
set_option maxHeartbeats 8000000 in
set_option maxRecDepth 100000 in
theorem mooringref03_Check.calls (k : Nat) (a0 : Int) (a1 : Int) (A2 : Option Addr) (c2 : Nat) (l2 : List (List Int)) (r1 : Bool) (r2 : Int) (w : World) (hr2 : Kd.C (Kd.slice 5 (Kd.int .u8)) w A2 l2.length l2) (hc2 : l2.length ≤ c2) (h : mooringref03_Check.f k a0 a1 l2 = some (r1, r2)) :
    Calls Try.prog 80 #[.int .i64 a0, .int .i64 a1, .slice A2 l2.length c2] w fun e w' => e = .returned (.tuple #[.bool r1, .int .i64 r2]) ∧ Below w.heap.size w w' := by
  have HR2 := Aside0.mk hr2
  have HC2 := Aside0.mk hc2
  clear hr2 hc2
  have HB := Aside0.mk (Below.refl w.heap.size w)
  have H : ((mooringref03_Code.f a0 a1).bind fun t101 => (if t101 = true then ((mooringref03_even.f k l2 (wrap64 (a0 + a1))).bind fun t102 => (mooringref03_Check.j0 k a0 a1 l2 (!t102))) else (mooringref03_Check.j0 k a0 a1 l2 true))) = some (r1, r2) := h
  clear h
  have HC4 := Aside0.mk H
  clear H
  go_enter Try.func80, Try.ntmps80
  go_upto_region 1 with (fail)
  go_cut [21] (fun v21 wc => ∃ (kq : Nat) (x21_3 : Bool), v21 = .bool x21_3 ∧ Aside0 (mooringref03_Check.j0 kq a0 a1 l2 x21_3 = some (r1, r2)) ∧ Aside0 (kq ≤ k) ∧ Aside0 (Below w.heap.size w wc))
  case first =>
    have H := HC4.out
    clear HC4
    replace H := Option.bind_eq_some_iff.mp H
    obtain ⟨t101, A50, H⟩ := H
    replace H : (if t101 = true then ((mooringref03_even.f k l2 (wrap64 (a0 + a1))).bind fun t102 => (mooringref03_Check.j0 k a0 a1 l2 (!t102))) else (mooringref03_Check.j0 k a0 a1 l2 true)) = some (r1, r2) := H
    have A5 := Aside0.mk A50
    clear A50
    by_cases c6 : t101 = true
    · subst c6
      have H1 : ((mooringref03_even.f k l2 (wrap64 (a0 + a1))).bind fun t102 => (mooringref03_Check.j0 k a0 a1 l2 (!t102))) = some (r1, r2) := by rw [if_pos rfl] at H; exact H
      clear H
      have H := H1
      clear H1
      replace H := Option.bind_eq_some_iff.mp H
      obtain ⟨t102, A70, H⟩ := H
      replace H : (mooringref03_Check.j0 k a0 a1 l2 (!t102)) = some (r1, r2) := H
      have A7 := Aside0.mk A70
      clear A70
      have H' := Aside0.mk H
      clear H
      go_wp2_with (first | ((with_reducible refine gate_callee (f := 79) rfl ?_); refine goesL_ (some 12) rfl rfl Try.func79 (by kernel_rfl) rfl #[.int .i64 a0, .int .i64 a1] rfl (by (try simp only [List.map_toArray, List.map_cons, List.map_nil]); first | done | rfl | (simp only [List.length_drop, List.length_take]; rfl)) ?_; (with_reducible refine (mooringref03_Code.calls a0 a1 true _ A5.out).mono ?_); rintro e w' ⟨rfl, ⟨nd, rfl⟩⟩; refine ⟨_, rfl, ?_⟩) | (go_at_call 97; (with_reducible refine (mooringref03_even.calls k _ _ l2 (wrap64 (a0 + a1)) t102 _ ?side1 ?side2 A7.out).mono ?_); (case side1 => repeat (first | exact (Kd.C_below HR2.out (by repeat (first | (with_reducible first | exact HB.out | apply below_alloc | apply pw_below_drewN | apply below_drew1) | exact HB.out))) | (with_reducible refine Kd.C_alloc ?_ _) | (with_reducible refine Kd.C_drewN ?_ _) | (with_reducible refine Kd.C_drew ?_))); (case side2 => exact HC2.out); rintro e w' ⟨rfl, ⟨nd, rfl⟩⟩))
      go_meet
      case rel => exact ⟨_, (!t102), (by first | rfl | (simp; done) | (simp [*]; done)), H', ⟨by first | omega | exact Nat.le_refl _⟩, ⟨by repeat (first | (with_reducible first | exact HB.out | apply below_alloc | apply pw_below_drewN | apply below_drew1) | exact HB.out)⟩⟩
    · replace c6 := Bool.eq_false_iff.mpr c6
      subst c6
      have H1 : (mooringref03_Check.j0 k a0 a1 l2 true) = some (r1, r2) := by rw [if_neg (show ¬ (false = true) by decide)] at H; exact H
      clear H
      have H := H1
      clear H1
      have H' := Aside0.mk H
      clear H
      go_wp2_with (first | ((with_reducible refine gate_callee (f := 79) rfl ?_); refine goesL_ (some 12) rfl rfl Try.func79 (by kernel_rfl) rfl #[.int .i64 a0, .int .i64 a1] rfl (by (try simp only [List.map_toArray, List.map_cons, List.map_nil]); first | done | rfl | (simp only [List.length_drop, List.length_take]; rfl)) ?_; (with_reducible refine (mooringref03_Code.calls a0 a1 false _ A5.out).mono ?_); rintro e w' ⟨rfl, ⟨nd, rfl⟩⟩; refine ⟨_, rfl, ?_⟩))
      go_meet
      case rel => exact ⟨_, (true), (by first | rfl | (simp; done) | (simp [*]; done)), H', ⟨by first | omega | exact Nat.le_refl _⟩, ⟨by repeat (first | (with_reducible first | exact HB.out | apply below_alloc | apply pw_below_drewN | apply below_drew1) | exact HB.out)⟩⟩
  case rest =>
    clear HC4
    try clear c2
    try clear p2
    try clear c6
    try clear p6
    try clear c7
    obtain ⟨kq, x21_3, rfl, HA, HJ3, HB⟩ := hcut
    cases kq with
    | zero => exact absurd HA.out (by simp [mooringref03_Check.j0])
    | succ kj3 =>
      have H := HA.out
      clear HA
      simp only [mooringref03_Check.j0] at H
      by_cases c8 : x21_3 = true
      · subst c8
        have H1 : (some (false, 1)) = some (r1, r2) := by rw [if_pos rfl] at H; exact H
        clear H
        have H := H1
        clear H1
        simp only [Option.some.injEq, Prod.mk.injEq] at H
        obtain ⟨rfl, rfl⟩ := H
        go_wp2
        go_ret2
        exact ⟨by first | rfl | (simp [errW_none, errW_some] <;> rfl) | (simp [*, errW_none, errW_some] <;> rfl), by repeat (first | (with_reducible first | exact HB.out | apply below_alloc | apply pw_below_drewN | apply below_drew1) | exact HB.out)⟩
      · replace c8 := Bool.eq_false_iff.mpr c8
        subst c8
        have H1 : (if 0 ≤ a0 then (if a0 ≤ (l2.length : Int) then ((mooringref03_Encode.f kj3 a0 a1 (l2.take (a0 : Int).toNat)).bind fun bt107 => ((mooringref02_Same.f kj3 bt107.1 l2).bind fun t111 => (some (t111, 0)))) else (none)) else (none)) = some (r1, r2) := by rw [if_neg (show ¬ (false = true) by decide)] at H; exact H
        clear H
        have H := H1
        clear H1
        by_cases c9 : 0 ≤ a0
        · rw [if_pos c9] at H
          have c9b0 := eq_true c9
          have c9b1 : decide (0 ≤ a0) = true := decide_eq_true c9
          clear c9
          by_cases c10 : a0 ≤ (l2.length : Int)
          · rw [if_pos c10] at H
            have c10b0 := eq_true c10
            have c10b1 : decide (a0 ≤ (l2.length : Int)) = true := decide_eq_true c10
            clear c10
            obtain ⟨y103, hy103⟩ : ∃ y_ : List (List Int), y_ = (l2.take (a0 : Int).toNat) := ⟨_, rfl⟩
            replace H : ((mooringref03_Encode.f kj3 a0 a1 y103).bind fun bt107 => ((mooringref02_Same.f kj3 bt107.1 l2).bind fun t111 => (some (t111, 0)))) = some (r1, r2) := by first | (rw [hy103]; with_reducible exact H) | (have H2_ := (Option.bind_some _ _).symm.trans H; rw [hy103]; with_reducible exact H2_) | (have H2_ := (Option.bind_some _ _).symm.trans H; with_reducible exact H2_) | with_reducible exact H | (rw [hy103]; exact H) | exact H
            have Ny103 := Aside0.mk hy103
            clear hy103
            replace H := Option.bind_eq_some_iff.mp H
            obtain ⟨⟨t107, t108⟩, A110, H⟩ := H
            replace H : ((mooringref02_Same.f kj3 t107 l2).bind fun t111 => (some (t111, 0))) = some (r1, r2) := H
            have A11 := Aside0.mk A110
            clear A110
            replace H := Option.bind_eq_some_iff.mp H
            obtain ⟨t111, A120, H⟩ := H
            replace H : (some (t111, 0)) = some (r1, r2) := H
            have A12 := Aside0.mk A120
            clear A120
            simp only [Option.some.injEq, Prod.mk.injEq] at H
            obtain ⟨rfl, rfl⟩ := H
            have q13 : (a0 : Int) ≤ ((l2.length : Int) : Int) := of_decide_eq_true (by first | (with_reducible assumption) | assumption)
            obtain ⟨i013, hi013, _, hsz13, _⟩ := info_parts info22
            have hroom13 : l2.length ≤ c2 := HC2.out
            have hC13 : Kd.C (Kd.slice 5 (Kd.int .u8)) _ A2 l2.length l2 := HR2.out
            have hcut13 := cut_to (P := Try.prog) 51 22 .i64 Try.underlying51 hi013 A2 l2.length c2 a0 (of_decide_eq_true (by first | (with_reducible assumption) | assumption)) q13 hroom13
            have hr13 := Kd.C_take (m := (a0 : Int).toNat) hC13 (by omega)
            have hy13 : y103.length = (a0 : Int).toNat := (by rw [Ny103.out, List.length_take]; omega)
            rw [← Ny103.out] at hr13
            rw [← hy13] at hcut13
            have HR106 := Aside0.mk hr13
            have HC106 := Aside0.mk (show y103.length ≤ c2 from by omega)
            clear hr13 hC13 hroom13 hi013 hsz13
            have KY13 := Aside0.mk hy13
            clear hy13
            replace q13 := eq_true q13
            go_wp2_with (first | ((with_reducible refine gate_callee (f := 76) rfl ?_); refine goesL_ (some 28) rfl rfl Try.func76 (by kernel_rfl) rfl #[.int .i64 a0, .int .i64 a1, .slice A2 y103.length c2] rfl (by (try simp only [List.map_toArray, List.map_cons, List.map_nil]); first | done | rfl | (simp only [List.length_drop, List.length_take]; rfl)) ?_; (with_reducible refine (mooringref03_Encode.calls kj3 a0 a1 _ _ y103 t107 t108 _ ?side1 ?side2 A11.out).mono ?_); (case side1 => repeat (first | exact (Kd.C_below HR106.out HB.out) | (with_reducible refine Kd.C_alloc ?_ _) | (with_reducible refine Kd.C_drewN ?_ _) | (with_reducible refine Kd.C_drew ?_))); (case side2 => exact HC106.out); rintro e w14 ⟨v109, rfl, ho0, hb⟩; refine ⟨_, rfl, ?_⟩; have n0_ := Aside0.mk (Kd.S_lower ho0 (below_size (by repeat (first | (with_reducible first | exact HB.out | apply below_alloc | apply pw_below_drewN | apply below_drew1) | exact HB.out)))); have n1_ := Aside0.mk (below_step (by repeat (first | (with_reducible first | exact HB.out | apply below_alloc | apply pw_below_drewN | apply below_drew1) | exact HB.out)) hb); clear HB; have HO110 := n0_; have HB := n1_; clear n0_ n1_; (try clear hb); (try clear hb2); (try clear hk); (try clear hi); (try clear ho0); obtain ⟨Ao15, co15, eo15⟩ := Kd.S_slice HO110.out; subst eo15) | ((with_reducible refine gate_callee (f := 57) rfl ?_); refine goesL_ (some 33) rfl rfl Try.func57 (by kernel_rfl) rfl #[.slice Ao15 t107.length co15, .slice A2 l2.length c2] rfl (by (try simp only [List.map_toArray, List.map_cons, List.map_nil]); first | done | rfl | (simp only [List.length_drop, List.length_take]; rfl)) ?_; (with_reducible refine (mooringref02_Same.calls kj3 _ _ t107 _ _ l2 t111 _ ?side1 ?side2 ?side3 ?side4 A12.out).mono ?_); (case side1 => repeat (first | exact (Kd.S_reads' HO110.out).2.2 | (with_reducible refine Kd.C_alloc ?_ _) | (with_reducible refine Kd.C_drewN ?_ _) | (with_reducible refine Kd.C_drew ?_))); (case side2 => exact (Kd.S_reads' HO110.out).2.1); (case side3 => repeat (first | exact (Kd.C_below HR2.out HB.out) | (with_reducible refine Kd.C_alloc ?_ _) | (with_reducible refine Kd.C_drewN ?_ _) | (with_reducible refine Kd.C_drew ?_))); (case side4 => exact HC2.out); rintro e w' ⟨rfl, ⟨nd, rfl⟩⟩; refine ⟨_, rfl, ?_⟩))
            go_ret2
            exact ⟨by first | rfl | (simp [errW_none, errW_some] <;> rfl) | (simp [*, errW_none, errW_some] <;> rfl), by repeat (first | (with_reducible first | exact HB.out | apply below_alloc | apply pw_below_drewN | apply below_drew1) | exact HB.out)⟩
          · rw [if_neg c10] at H
            exact absurd H (by simp)
        · rw [if_neg c9] at H
          exact absurd H (by simp)
end Go.Proofs.Ytbogmlckbkogiaa.P
