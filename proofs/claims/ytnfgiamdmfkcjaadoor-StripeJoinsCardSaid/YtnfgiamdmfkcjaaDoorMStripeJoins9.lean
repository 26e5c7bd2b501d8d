/- Words and walks that the claim StripeJoins leans on (what it does not use is left out). -/
import Derived.OpenShut
import Derived.Test.YtnfgiamdmfkcjaaDoorMStripeJoins8
import Derived.Test.YtnfgiamdmfkcjaaDoorMStripeJoins5
import Derived.Test.YtnfgiamdmfkcjaaDoorMStripeJoins6
import Derived.Test.YtnfgiamdmfkcjaaDoorMStripeJoins1
import Derived.Deep.Matrix
import Derived.SizedLaws
import Derived.ChangeSlices
import Derived.Deep.Grids
import Derived.Lib.SmallJoins
namespace Go.Proofs.YtnfgiamdmfkcjaaDoor.Pure
open Go.RowKit Go.Proofs.YtnfgiamdmfkcjaaDoorW.PrintWords Go.Proofs.YtnfgiamdmfkcjaaDoor.Leaf Go.Proofs.YtnfgiamdmfkcjaaDoor.P Go.Proofs.YtnfgiamdmfkcjaaDoor.Gf Go.Proofs.YtnfgiamdmfkcjaaDoor.Red Go.Proofs.YtnfgiamdmfkcjaaDoor.H Go.Proofs.YtnfgiamdmfkcjaaDoor.Mx
set_option linter.unusedSimpArgs false
set_option linter.unusedVariables false
/-- Which shard one has. -/
def hv (H : List Bool) (i : Nat) : Bool := decide (H.length ≤ i) || H.getD i false
def hvL (H : List Bool) (N i : Nat) : List Bool := (List.range N).map fun j => if j < i then hv H j else false
theorem hvL_length (H : List Bool) (N i : Nat) : (hvL H N i).length = N := by simp [hvL]
theorem getD_map (N : Nat) (f : Nat → Bool) (i : Nat) (hi : i < N) : ((List.range N).map f).getD i false = f i := by
  rw [List.getD_eq_getElem?_getD, List.getElem?_map, List.getElem?_range hi]
  rfl
theorem hvL_set (H : List Bool) (N i : Nat) (hi : i < N) : (hvL H N i).set i (hv H i) = hvL H N (i + 1) := by
  refine List.ext_getElem (by rw [List.length_set, hvL_length, hvL_length]) fun j h1 h2 => ?_
  rw [hvL_length] at h2
  have e1 : (hvL H N (i + 1))[j] = if j < i + 1 then hv H j else false := by simp [hvL]
  have e2 : (hvL H N i)[j]'(by rw [hvL_length]; exact h2) = if j < i then hv H j else false := by simp [hvL]
  rw [List.getElem_set, e1]
  by_cases h : i = j
  · subst h
    rw [if_pos rfl, if_pos (Nat.lt_succ_self _)]
  · rw [if_neg h, e2]
    by_cases h3 : j < i
    · rw [if_pos h3, if_pos (by omega)]
    · rw [if_neg h3, if_neg (by omega)]
theorem hvL_all (H : List Bool) (N i : Nat) (hi : i < N) : (hvL H N N).getD i false = hv H i := by
  unfold hvL
  rw [getD_map _ _ _ hi, if_pos hi]
/-- The shards, those that are lost empty: the first i of them. -/
def shL (L : Mat) (H : List Bool) (i : Nat) : Mat := (List.range i).map fun j => if hv H j = true then row L j else []
theorem shL_length (L : Mat) (H : List Bool) (i : Nat) : (shL L H i).length = i := by simp [shL]
theorem shL_succ (L : Mat) (H : List Bool) (i : Nat) : shL L H (i + 1) = shL L H i ++ [if hv H i = true then row L i else []] := by
  unfold shL
  rw [List.range_succ, List.map_append]
  rfl
theorem row_shL (L : Mat) (H : List Bool) (N i : Nat) (hi : i < N) : row (shL L H N) i = if hv H i = true then row L i else [] := by
  unfold shL
  rw [row_map _ _ _ hi]
theorem oM_nil : oM [([] : List B)] = [[]] := rfl
theorem joins_l0 (K M : Int) (X : List B) (H : List Bool) (L : Mat) (hN : L.length ≤ 255) (hH : H.length ≤ 140737488351232)
    (hend : Ev (fun f => (stripe_Join.f f K M ((ofL X).length : Int) (oM (shL L H L.length)) (hvL H L.length L.length)).bind fun bt133 => (if ((selN (hvL H L.length L.length) L.length).length : Int) < K then (if bt133.2 = 4 then (if (bt133.1.length : Int) = 0 then ((mooringlaw20_awake.f f).bind fun t137 => (some t137)) else (none)) else (none)) else (if bt133.2 = 0 then (if (strOfNums bt133.1).toList = (strOfNums (ofL X)).toList then ((mooringlaw20_awake.f f).bind fun t138 => (some t138)) else (none)) else (none)))) true) (d : Nat) :
    ∀ i : Nat, i + d = L.length → Ev (fun f => mooringlaw20_StripeJoins.l0 f (oM L) (hvL H L.length i) ((selN (hvL H L.length L.length) i).length : Int) (oM (shL L H i)) (i : Int) K M (ofL X) H) true := by
  induction d with
  | zero =>
    intro i hi
    obtain rfl : i = L.length := by omega
    refine Ev.step (fun f => ?_) hend
    simp only [mooringlaw20_StripeJoins.l0]
    rw [if_neg (by rw [oM_length]; omega)]
  | succ d ih =>
    intro i hi
    have hn := ih (i + 1) (by omega)
    have hc := selN_le (hvL H L.length L.length) i
    have hall := hvL_all H L.length i (by omega)
    have wi : wrap64 ((i : Int) + 1) = ((i + 1 : Nat) : Int) := w64 _ (by omega) (by omega)
    have wc : wrap64 (((selN (hvL H L.length L.length) i).length : Int) + 1) = (((selN (hvL H L.length L.length) i).length + 1 : Nat) : Int) := w64 _ (by omega) (by omega)
    have hrd : rdOf false (hvL H L.length (i + 1)) (i : Int) = hv H i := by
      rw [rdB]
      unfold hvL
      rw [getD_map _ _ _ (by omega), if_pos (Nat.lt_succ_self _)]
    have hset := hvL_set H L.length i (by omega)
    have lim : (oM (shL L H i)).length < 5864062014805 := by rw [oM_length, shL_length]; omega
    rw [shL_succ] at hn
    refine Ev.step (fun f => ?_) hn
    simp only [mooringlaw20_StripeJoins.l0]
    rw [if_pos (by rw [oM_length]; omega)]
    by_cases h1 : (i : Int) ≥ (H.length : Int)
    · have hv1 : hv H i = true := by unfold hv; rw [decide_eq_true (by omega)]; rfl
      rw [if_pos h1, if_pos (by omega), if_pos (by rw [hvL_length]; omega), Option.bind_some, Int.toNat_natCast, show (hvL H L.length i).set i true = hvL H L.length (i + 1) from by rw [← hset, hv1], hrd, if_pos hv1, if_pos lim, rd_oM, oM_one, oM_append, wi, wc, if_pos hv1, selN_yes (by rw [hall]; exact hv1), List.length_append]
      rfl
    · have hv1 : hv H i = H.getD i false := by unfold hv; rw [decide_eq_false (by omega)]; rfl
      rw [if_neg h1, if_pos (by omega), if_pos (by omega), if_pos (by rw [hvL_length]; omega), Option.bind_some, Int.toNat_natCast, show rdOf false H (i : Int) = hv H i from by rw [rdB, hv1], hset, hrd]
      by_cases h2 : hv H i = true
      · rw [if_pos h2, if_pos lim, rd_oM, oM_one, oM_append, wi, wc, if_pos h2, selN_yes (by rw [hall]; exact h2), List.length_append]
        rfl
      · rw [if_neg h2, if_pos lim, if_neg h2, wi, selN_no (by rw [hall]; simpa using h2), ← oM_nil, oM_append]
theorem StripeJoins (K : Int) (wK : (Lit.int .i64 K).wf = true) (M : Int) (wM : (Lit.int .i64 M).wf = true) (X : List B) (hX : X.length ≤ 140737488351232) (H : List Bool) (hH : H.length ≤ 140737488351232) : Ev (fun k => mooringlaw20_StripeJoins.f k K M (ofL X) H) true := by
  have ha := bounds_i64 wK
  unfold mooringlaw20_StripeJoins.f
  refine Ev.bind (evRefSplit K M ha.1 X (by omega)) ?_
  have no : ∀ Z, Ev (fun k => mooringlaw20_StripeJoins.j0 k Z true K M (ofL X) H) true := fun Z =>
    Ev.step (f := fun k => (mooringlaw20_awake.f k).bind fun t107 => (some t107)) (fun k => by simp only [mooringlaw20_StripeJoins.j0, if_true]) (Ev.bind evAwake20 (Ev.now _))
  rcases codeB_form K M with ⟨h1, k, m, rfl, rfl, hk, hm2, h, e⟩ | ⟨h1, e⟩
  · by_cases h4 : X.length > 4096
    · unfold splR
      rw [if_pos h1, if_pos h4]
      simp only [show ((3 : Int) = 0) = False from eq_false (by decide), if_false]
      exact no _
    · obtain ⟨e1, hR⟩ := splR_yes hk hm2 h X (by omega)
      rw [e1]
      obtain ⟨x, hx⟩ := light20 (k : Int) (m : Int) ha.1
      simp only [if_true, hx, Option.bind_some]
      cases x with
      | false => simp only [Bool.false_eq_true, if_false]; exact no _
      | true =>
        simp only [if_true]
        by_cases h15 : (X.length : Int) > 1500
        · rw [show decide (((ofL X).length : Int) > 1500) = true from decide_eq_true (by rw [ofL_length]; exact h15)]; exact no _
        · rw [show decide (((ofL X).length : Int) > 1500) = false from decide_eq_false (by rw [ofL_length]; exact h15)]
          have hSp := spM_reg k (lenS k X.length) X
          have hrow : ∀ j, j < k → row (mulM (cauM k m) (spM k (lenS k X.length) X)) j = row (spM k (lenS k X.length) X) j := fun j hj => by
            rw [← row_take3 _ k _ hj, mulM_take (cauM_reg k m) hSp hk (Nat.le_add_right k m), cauM_take, mulM_id hSp hk]
          have hj := joinB_spM hk X rfl hrow
          have hp : lenS k X.length ≤ 70000 := by
            have := nS_le k X.length hk
            unfold lenS
            omega
          generalize hGL : mulM (cauM k m) (spM k (lenS k X.length) X) = L at *
          have hlen := hR.1
          refine Ev.step (f := fun f => mooringlaw20_StripeJoins.l0 f (oM L) (hvL H L.length 0) ((selN (hvL H L.length L.length) 0).length : Int) (oM (shL L H 0)) ((0 : Nat) : Int) (k : Int) (m : Int) (ofL X) H) (fun f => ?_) ?_
          · simp only [mooringlaw20_StripeJoins.j0, Bool.false_eq_true, if_false]
            rw [if_pos (by omega), if_pos (by rw [oM_length]; omega), oM_length, Int.toNat_natCast]
            have e0 : hvL H L.length 0 = List.replicate L.length false := by
              refine List.ext_getElem (by rw [hvL_length, List.length_replicate]) fun j h1 h2 => ?_
              simp [hvL]
            rw [e0]
            rfl
          refine joins_l0 (k : Int) (m : Int) X H L (by omega) hH ?_ L.length 0 (by omega)
          have hSr : ∀ i, i < (shL L H L.length).length → (row (shL L H L.length) i).length ≤ 140737488355327 := fun i hi => by
            rw [shL_length] at hi
            rw [row_shL _ _ _ _ hi]
            split
            · rw [hR.2 i (by omega)]; omega
            · exact Nat.zero_le _
          refine Ev.bind (evJoin (k : Int) (m : Int) ((ofL X).length : Int) ha.1 (shL L H L.length) hSr (hvL H L.length L.length)) ?_
          have hGl := hvL_length H L.length L.length
          have hok : okLen (shL L H L.length) (hvL H L.length L.length) (lenS k X.length) := fun i hi hb => by
            rw [hvL_length] at hi
            rw [hvL_all _ _ _ hi] at hb
            rw [row_shL _ _ _ _ hi, if_pos hb, hR.2 i (by omega)]
          have hJ : joinR (k : Int) (m : Int) ((ofL X).length : Int) (shL L H L.length) (hvL H L.length L.length) = if ((selN (hvL H L.length L.length) (hvL H L.length L.length).length).length : Int) < (k : Int) then ([], 4) else finJ X.length (joinB (decM k m (shL L H L.length) (hvL H L.length L.length)) k (nS k X.length)) := by
            unfold joinR
            rw [if_pos ⟨h1, by omega, by rw [shL_length]; omega, by omega⟩, ofL_length, if_neg (by omega)]
            simp only [Int.toNat_natCast]
            rw [if_pos hok]
          rw [hJ]
          rw [show selN (hvL H L.length L.length) L.length = selN (hvL H L.length L.length) (hvL H L.length L.length).length by rw [hGl]]
          by_cases hn : ((selN (hvL H L.length L.length) (hvL H L.length L.length).length).length : Int) < (k : Int)
          · simp only [if_pos hn, if_true]
            exact Ev.bind evAwake20 (Ev.now _)
          · have hcode := decM_code (A := shL L H L.length) (H := hvL H L.length L.length) hk h (by omega) (by omega) hSp (fun i hi hb => by
              rw [hvL_all _ _ _ (by omega)] at hb
              rw [row_shL _ _ _ _ (by omega), if_pos hb, hGL])
            rw [hcode, hGL]
            unfold finJ
            rw [if_pos hj.2, hj.1]
            simp only [if_neg hn, if_true]
            exact Ev.bind evAwake20 (Ev.now _)
  · unfold splR
    rw [if_neg (by rw [h1]; decide)]
    simp only [show ((1 : Int) = 0) = False from eq_false (by decide), if_false]
    exact no _
end Go.Proofs.YtnfgiamdmfkcjaaDoor.Pure
namespace Go.Proofs.YtnfgiamdmfkcjaaDoor.H
open Go.RowKit Go.ChangeShapes Go.WideShapes Go.Deep Go.Joins Go.Proofs.YtnfgiamdmfkcjaaDoorW.PrintWords Go.Proofs.YtnfgiamdmfkcjaaDoor.Leaf Go.Proofs.YtnfgiamdmfkcjaaDoor.Gf Go.Proofs.YtnfgiamdmfkcjaaDoor.Red
set_option linter.unusedVariables false
theorem bools_arg {H : Type} {enc : TypeId × Value → H} {W : World} {a : Option Addr} {len cap : Nat} {d : DataW H} {ps : List MemPlace} (h : DataW.Trod enc Tryd.prog W 0 (fun _ => true) true 23 (.slice a len cap) d ps) (hw : ∀ x ∈ d.weights Tryd.prog 23, x ≤ reachBytes) :
    ∃ B : List Bool, len = B.length ∧ len ≤ cap ∧ Kd.C Kd.bool W a len B ∧ len ≤ 140737488351232 := by
  obtain ⟨fuel, hf⟩ := h
  rcases open_bools Tryd.underlying23 Tryd.underlying4 (by kernel_rfl) hf with ⟨hcs, _⟩ | ⟨a', len', cap', B, hcs, _, hl, hm, hx, hcell⟩
  · simp [Value.cells] at hcs
    obtain ⟨rfl, rfl, rfl⟩ := hcs
    exact ⟨[], rfl, Nat.le_refl _, Kd.C_nil _ _, by decide⟩
  · simp [Value.cells] at hcs
    obtain ⟨rfl, rfl, rfl⟩ := hcs
    obtain ⟨rfl, _⟩ := Prod.mk.inj hx
    refine ⟨(List.range len).map B, by simp, hl, ?_, ?_⟩
    · refine Kd.C_of_reads (d := false) ⟨by simp, by unfold maxLen at hm; omega, fun h0 => ⟨a', rfl, fun j hj => ?_⟩⟩
      rw [hcell j (by omega), List.getD_eq_getElem?_getD, List.getElem?_map, List.getElem?_range hj]
      rfl
    · have hx := hw ((len + (cap - len)) * Tryd.prog.bytesOf 4) (by simp [boolRow, DataW.weights, Tryd.underlying23])
      rw [show Tryd.prog.bytesOf 4 = 1 by kernel_rfl] at hx
      unfold reachBytes at hx
      omega
end Go.Proofs.YtnfgiamdmfkcjaaDoor.H
namespace Go.Proofs.YtnfgiamdmfkcjaaDoor.H
open Go.RowKit Go.ChangeShapes Go.WideShapes Go.Deep Go.Joins Go.Proofs.YtnfgiamdmfkcjaaDoorW.PrintWords Go.Proofs.YtnfgiamdmfkcjaaDoor.Leaf Go.Proofs.YtnfgiamdmfkcjaaDoor.Gf Go.Proofs.YtnfgiamdmfkcjaaDoor.Red
set_option linter.unusedVariables false
theorem bytes_arg {H : Type} {enc : TypeId × Value → H} {W : World} {a : Option Addr} {len cap : Nat} {d : DataW H} {ps : List MemPlace} (h : DataW.Trod enc Tryd.prog W 0 (fun _ => true) true 22 (.slice a len cap) d ps) (hw : ∀ x ∈ d.weights Tryd.prog 22, x ≤ reachBytes) :
    ∃ L : List B, len = (ofL L).length ∧ len ≤ cap ∧ Kd.C (Kd.int .u8) W a (ofL L).length (ofL L) ∧ L.length ≤ 140737488351232 := by
  obtain ⟨fuel, hf⟩ := h
  rcases open_ints Tryd.underlying22 Tryd.underlying5 (by kernel_rfl) hf with ⟨hcs, _⟩ | ⟨x, l, c, zs, hcs, _, hl, hm, hz, hx, hcell, hwz⟩
  · simp [Value.cells] at hcs
    obtain ⟨rfl, rfl, rfl⟩ := hcs
    exact ⟨[], rfl, Nat.le_refl _, Kd.C_nil _ _, by decide⟩
  · simp [Value.cells] at hcs
    obtain ⟨rfl, rfl, rfl⟩ := hcs
    obtain ⟨rfl, _⟩ := Prod.mk.inj hx
    obtain ⟨l', hl', hr, hm', hw', hc'⟩ := ReadsInt.ofRowC (k := .u8) (w := W) (a := some x) (len := len) (cap := cap) (zs := zs) (.inr ⟨x, rfl, hl, hm, by simpa using hz, hcell, hwz⟩)
    obtain ⟨L, rfl⟩ := row_of hw'
    refine ⟨L, hl', hl, Kd.C_of_reads (d := (0 : Int)) (h1 := fun _ => rfl) hr, ?_⟩
    have hx := hw ((len + (cap - len)) * Tryd.prog.bytesOf 5) (by
      have hzc : zs.length = cap := by simpa using hz
      simp only [DataW.weights, Tryd.underlying22, List.mem_cons]
      refine Or.inl ?_
      congr 1
      simp [lits]
      omega)
    rw [show Tryd.prog.bytesOf 5 = 1 by kernel_rfl] at hx
    unfold reachBytes at hx
    rw [ofL_length] at hl'
    omega
set_option maxRecDepth 100000 in
theorem lost20_arg {H : Type} {enc : TypeId × Value → H} {W : World} {r : Reach} {b0 : Nat} {v : Value} {d : DataW H} {ps : List MemPlace} (hv : Value.okWide Tryd.prog W r b0 25 v) (h : DataW.Trod enc Tryd.prog W 0 (fun _ => true) true 25 v d ps) (hw : ∀ x ∈ d.weights Tryd.prog 25, x ≤ reachBytes) :
    ∃ (K M : Int) (A : Option Addr) (c : Nat) (L : List B) (A' : Option Addr) (c' : Nat) (B : List Bool), v = .agg #[.int .i64 K, .int .i64 M, .slice A (ofL L).length c, .slice A' B.length c'] ∧ (Lit.int .i64 K).wf = true ∧ (Lit.int .i64 M).wf = true ∧
      Kd.C (Kd.int .u8) W A (ofL L).length (ofL L) ∧ (ofL L).length ≤ c ∧ L.length ≤ 140737488351232 ∧ Kd.C Kd.bool W A' B.length B ∧ B.length ≤ c' ∧ B.length ≤ 140737488351232 := by
  obtain ⟨v0, v1, v2, v3, y0, y1, y2, y3, n, rfl, rfl, rfl, h0, h1, h2, h3⟩ := open_agg4 Tryd.underlying25 (by kernel_rfl) (by kernel_rfl) hv h
  obtain ⟨K, e0, e0', wK⟩ := DataW.trod_int (k := .i64) Tryd.underlying3 h0
  obtain ⟨M, e1, e1', wM⟩ := DataW.trod_int (k := .i64) Tryd.underlying3 h1
  obtain rfl : v0 = .int .i64 K := by simpa using e0
  obtain rfl : v1 = .int .i64 M := by simpa using e1
  have hs2 : ∃ a len cap, v2 = .slice a len cap := by
    rcases open_slice Tryd.underlying22 h2 with ⟨hc, _⟩ | ⟨a, len, cap, _, _, _, _, hc, _⟩
    · exact ⟨none, 0, 0, by simpa using hc⟩
    · exact ⟨some a, len, cap, by simpa using hc⟩
  have hs3 : ∃ a len cap, v3 = .slice a len cap := by
    rcases open_slice Tryd.underlying23 h3 with ⟨hc, _⟩ | ⟨a, len, cap, _, _, _, _, hc, _⟩
    · exact ⟨none, 0, 0, by simpa using hc⟩
    · exact ⟨some a, len, cap, by simpa using hc⟩
  obtain ⟨A, l2, c2, rfl⟩ := hs2
  obtain ⟨A', l3, c3, rfl⟩ := hs3
  have hw2 : ∀ x ∈ y2.1.weights Tryd.prog 22, x ≤ reachBytes := fun x hx => hw x (by
    simp only [DataW.weights, Tryd.underlying25]
    exact DataW.weights_mem_each (j := 2) rfl rfl x hx)
  have hw3 : ∀ x ∈ y3.1.weights Tryd.prog 23, x ≤ reachBytes := fun x hx => hw x (by
    simp only [DataW.weights, Tryd.underlying25]
    exact DataW.weights_mem_each (j := 3) rfl rfl x hx)
  obtain ⟨L, hl, hc, hC, hs⟩ := bytes_arg (d := y2.1) (ps := y2.2) ⟨n, h2⟩ hw2
  obtain ⟨B, hl', hc', hC', hs'⟩ := bools_arg (d := y3.1) (ps := y3.2) ⟨n, h3⟩ hw3
  subst hl hl'
  exact ⟨K, M, A, c2, L, A', c3, B, rfl, wK, wM, hC, hc, hs, hC', hc', hs'⟩
end Go.Proofs.YtnfgiamdmfkcjaaDoor.H
