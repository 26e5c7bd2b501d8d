/- matrix.Inverse and matrix.Rank, by their contracts. Conditions: lists of bytes. -/
import Derived.Test.YtbogmlckbkogiaaMMatrixCauchy5
import Derived.Test.YtbogmlckbkogiaaMMatrixCauchy2
import Derived.Test.YtbogmlckbkogiaaMMatrixCauchy1
import Derived.Test.YtbogmlckbkogiaaMMatrixCauchy3
namespace Go.Proofs.Ytbogmlckbkogiaa.H
open Go.RowKit Go.Proofs.YtbogmlckbkogiaaW.PrintWords Go.Proofs.YtbogmlckbkogiaaW.PrintLast Go.Proofs.Ytbogmlckbkogiaa.Leaf Go.Proofs.Ytbogmlckbkogiaa.Gf Go.Proofs.Ytbogmlckbkogiaa.Red Go.Proofs.Ytbogmlckbkogiaa.P
set_option linter.unusedVariables false
set_option linter.unusedSimpArgs false
def byteRow (l : List Int) : Bool := l.all fun x => decide (0 ≤ x) && decide (x < 256)
def unM (l : List (List Int)) : Mat := l.map fun r => r.map toB
theorem byteRow_ofL (L : List B) : byteRow (ofL L) = true := by
  unfold byteRow ofL
  simp only [List.all_map, List.all_eq_true, Function.comp, Bool.and_eq_true, decide_eq_true_eq]
  exact fun x _ => ofB_range x
theorem ofL_toB (l : List Int) (h : byteRow l = true) : ofL (l.map toB) = l := by
  unfold ofL
  rw [List.map_map]
  refine (List.map_congr_left fun x hx => ?_).trans (List.map_id' l)
  have := List.all_eq_true.1 h x hx
  simp only [Bool.and_eq_true, decide_eq_true_eq] at this
  exact ofB_toB x this.1 this.2
theorem unM_oM (A : Mat) : unM (oM A) = A := by
  unfold unM oM ofL
  rw [List.map_map]
  refine (List.map_congr_left fun x hx => ?_).trans (List.map_id' A)
  simp only [Function.comp, List.map_map]
  refine (List.map_congr_left fun y _ => ?_).trans (List.map_id' x)
  exact toB_ofB y
theorem bytes_oM (A : Mat) : (oM A).all byteRow = true := by
  unfold oM
  simp only [List.all_map, List.all_eq_true, Function.comp]
  exact fun x _ => byteRow_ofL x
theorem oM_unM (l : List (List Int)) (h : l.all byteRow = true) : oM (unM l) = l := by
  unfold unM oM
  rw [List.map_map]
  refine (List.map_congr_left fun x hx => ?_).trans (List.map_id' l)
  exact ofL_toB x (List.all_eq_true.1 h x hx)
/-- An inverse, if the matrix may be and has one. -/
def invR (A : Mat) : List (List Int) × Int :=
  if mayB A = true ∧ A.length = (row A 0).length then if (redF A.length 0 0 A (idM A.length)).1 < A.length then ([], 4) else (oM (redF A.length 0 0 A (idM A.length)).2.2, 0) else ([], 1)
def matrix_Inverse.f (l0 : List (List Int)) : Option (List (List Int) × Int) := if l0.all byteRow = true then some (invR (unM l0)) else none
def rankR (A : Mat) : Int × Int := if mayB A = true then (((redF (row A 0).length 0 0 A (zeroM A.length 1)).1 : Int), 0) else (0, 1)
def matrix_Rank.f (l0 : List (List Int)) : Option (Int × Int) := if l0.all byteRow = true then some (rankR (unM l0)) else none
theorem matrix_Inverse.f_oM (A : Mat) : matrix_Inverse.f (oM A) = some (invR A) := by unfold matrix_Inverse.f; rw [if_pos (bytes_oM A), unM_oM]
theorem matrix_Rank.f_oM (A : Mat) : matrix_Rank.f (oM A) = some (rankR A) := by unfold matrix_Rank.f; rw [if_pos (bytes_oM A), unM_oM]
theorem Mt.lower {w : World} {base base' g cp : Nat} {id cap : Nat → Nat} {A : List (List Int)} (h : Mt w base g cp id cap A) (hb : base' ≤ base) : Mt w base' g cp id cap A :=
  ⟨own_weaken h.outer hb, fun i hi => own_weaken (h.rows i hi) hb, h.inj⟩
/-- Two matrices made one behind the other. -/
theorem St.make {w1 w2 : World} {base n m p : Nat} {A Z : Mat} {va vz : Value} (hZ : Kd.S (Kd.slice 5 (Kd.int .u8)) 22 w1 base (fun _ => True) vz (oM Z)) (hb : Below w1.heap.size w1 w2) (hA : Kd.S (Kd.slice 5 (Kd.int .u8)) 22 w2 w1.heap.size (fun _ => True) va (oM A)) (hbase : base ≤ w1.heap.size)
    (rA : Reg A n m) (rZ : Reg Z n p) (hn : 0 < n) (hm : 0 < m) (hp : 0 < p) : ∃ ga ca gz cz, va = .slice (some ⟨ga, 0, none⟩) n ca ∧ vz = .slice (some ⟨gz, 0, none⟩) n cz ∧ St w2 base ga ca gz cz n m p A Z := by
  obtain ⟨ga, ca, ida, capa, e1, h1, _⟩ := Mt.of_S hA (by rw [oM_length, rA.1]; exact hn) (fun i hi => by rw [oM_length, rA.1] at hi; unfold oM; rw [map_getD, ofL_length, rA.2 i hi]; exact hm)
  obtain ⟨gz, cz, idz, capz, e2, h2, _⟩ := Mt.of_S hZ (by rw [oM_length, rZ.1]; exact hn) (fun i hi => by rw [oM_length, rZ.1] at hi; unfold oM; rw [map_getD, ofL_length, rZ.2 i hi]; exact hp)
  rw [oM_length, rA.1] at e1
  rw [oM_length, rZ.1] at e2
  refine ⟨ga, ca, gz, cz, e1, e2, ida, capa, idz, capz, h1.lower hbase, h2.below hb, fun i j hi hj e => ?_, fun e => ?_, rA, rZ⟩
  · have h3 := (h1.rows i (by rw [oM_length, rA.1]; exact hi)).base_
    have h4 := (h2.rows j (by rw [oM_length, rZ.1]; exact hj)).lt
    omega
  · have h3 := h1.gbase
    have h4 := h2.glt
    omega
theorem St.toS {w : World} {base ga ca gb cb n m p : Nat} {A Z : Mat} (h : St w base ga ca gb cb n m p A Z) : Kd.S (Kd.slice 5 (Kd.int .u8)) 22 w base (fun _ => True) (.slice (some ⟨gb, 0, none⟩) n cb) (oM Z) := by
  obtain ⟨a, b, c, d, h1, h2, h3, h4, h5, h6⟩ := h
  have := Kd.S_mono h2.to_S (ok' := fun _ => True) (fun _ _ => trivial)
  rw [show (Z.map ofL).length = n by rw [List.length_map, h6.1]] at this
  exact this
set_option maxHeartbeats 2000000 in
set_option maxRecDepth 100000 in
theorem matrix_Inverse.calls (A0 : Option Addr) (c0 : Nat) (l0 : List (List Int)) (r1 : List (List Int)) (r2 : Int) (w : World) (hr0 : Kd.C (Kd.slice 5 (Kd.int .u8)) w A0 l0.length l0) (hc0 : l0.length ≤ c0) (h : matrix_Inverse.f l0 = some (r1, r2)) :
    Calls Try.prog 52 #[.slice A0 l0.length c0] w fun e w' => ∃ v0_ : Value, e = .returned (.tuple #[v0_, .int .i64 r2]) ∧ Kd.S (Kd.slice 5 (Kd.int .u8)) 22 w' w.heap.size (fun _ => True) v0_ r1 ∧ Below w.heap.size w w' := by
  unfold matrix_Inverse.f at h
  by_cases hby : l0.all byteRow = true
  · rw [if_pos hby] at h
    obtain ⟨A, rfl⟩ : ∃ A, l0 = oM A := ⟨unM l0, (oM_unM l0 hby).symm⟩
    rw [unM_oM] at h
    have hinv := Option.some.inj h
    clear h hby
    have hlen : A.length ≤ 9223372036854775807 := by have := hr0.2.1; rwa [oM_length] at this
    have hchk : Aside0 (Calls Try.prog 65 #[.slice A0 A.length c0] w fun e w' => e = .returned (.int .i64 (if mayB A = true then 0 else 1)) ∧ Drawn0 w w') := ⟨by
      obtain ⟨k, hk⟩ := (evCheck A hlen).rounds
      have := matrix_Check.calls k A0 c0 (oM A) _ w hr0 hc0 hk
      rwa [oM_length] at this⟩
    rw [oM_length]
    rw [oM_length] at hc0
    unfold invR at hinv
    by_cases hm : mayB A = true
    · rw [hm] at hchk
      obtain ⟨hreg, p1, p2, p3, p4⟩ := mayB_reg hm
      obtain ⟨As, cs, hcell, hrows⟩ := rows_vals hr0
      obtain ⟨ad, rfl, hce⟩ := hcell (by rw [oM_length]; exact p1)
      have hz : w.cell? ad = some (.slice (As 0) (row A 0).length (cs 0)) := by
        have := hce 0 (by rw [oM_length]; exact p1)
        rw [Addr.add_zero'] at this
        unfold oM at this
        rw [map_getD, ofL_length] at this
        exact this
      have hn0 : (0 : Int) < (A.length : Int) := by omega
      clear hce hrows hcell
      by_cases hsq : A.length = (row A 0).length
      · rw [if_pos ⟨hm, hsq⟩] at hinv
        have hsq2 : Reg A A.length A.length := by have := hreg; rw [← hsq] at this; exact this
        have hid : Aside0 (∀ W, Calls Try.prog 68 #[.int .i64 (A.length : Int)] W fun e w' => ∃ v, e = .returned (.tuple #[v, .int .i64 0]) ∧ Kd.S (Kd.slice 5 (Kd.int .u8)) 22 w' W.heap.size (fun _ => True) v (oM (idM A.length)) ∧ Below W.heap.size W w') := ⟨fun W => by
          obtain ⟨k, hk⟩ := (evIdentity (A.length : Int)).rounds
          unfold idR at hk
          rw [if_pos (by omega), Int.toNat_natCast] at hk
          exact matrix_Identity.calls k _ _ _ W hk⟩
        have hown : Aside0 (∀ W, Below w.heap.size w W → Calls Try.prog 91 #[.slice (some ad) A.length c0] W fun e w' => ∃ v, e = .returned v ∧ Kd.S (Kd.slice 5 (Kd.int .u8)) 22 w' W.heap.size (fun _ => True) v (oM A) ∧ Below W.heap.size W w') := ⟨fun W hW => by
          obtain ⟨k, hk⟩ := (evOwn A (by omega) (fun i hi => by rw [hreg.2 i hi]; omega)).rounds
          have := matrix_own.calls k _ c0 (oM A) _ W (Kd.C_below hr0 hW) (by rw [oM_length]; exact hc0) hk
          rwa [oM_length] at this⟩
        have t1 : ((A.length : Int) != ((row A 0).length : Int)) = false := by simp [hsq]
        have t2 : (A.length == (row A 0).length) = true := by simp [← hsq]
        have t3 : (A.length != (row A 0).length) = false := by simp [← hsq]
        have HR := Aside0.mk hinv
        have HG := Aside0.mk hsq2
        have HP := Aside0.mk (show 0 < A.length ∧ A.length ≤ 255 from ⟨p1, p2⟩)
        have HSQ := Aside0.mk hsq
        clear hinv hsq2 hsq hm hreg p3 p4 hr0
        go_enter Try.func52, Try.ntmps52
        go_wp2_with fail
        refine hchk.out.mono ?_
        rintro e w' ⟨rfl, ⟨nq, rfl⟩⟩
        clear hchk
        go_wp2_with fail
        refine (hid.out _).mono ?_
        rintro e w1 ⟨vz, rfl, hSz, hb1⟩
        have hbz : Below w.heap.size w w1 := below_step (pw_below_drewN (Below.refl _ _) nq) hb1
        have HZ : Aside0 (Kd.S (Kd.slice 5 (Kd.int .u8)) 22 w1 w.heap.size (fun _ => True) vz (oM (idM A.length))) := ⟨hSz⟩
        have HB1 := Aside0.mk hbz
        clear hid hSz hbz hb1
        go_wp2_with fail
        refine (hown.out _ HB1.out).mono ?_
        rintro e w2 ⟨va, rfl, hSa, hb2⟩
        obtain ⟨ga, ca, gz, cz, rfl, rfl, hSt⟩ := St.make HZ.out hb2 hSa (below_size HB1.out) HG.out (matF_reg _ _ _) HP.out.1 HP.out.1 HP.out.1
        have hb3 := below_step HB1.out hb2
        have hred := reduce_calls w2 w.heap.size ga ca gz cz A.length A.length A.length A (idM A.length) hSt HP.out.1 HP.out.1 HP.out.1 HP.out.2 HP.out.2 HP.out.2 (below_size hb3)
        have HRED := Aside0.mk hred
        have HB3 := Aside0.mk hb3
        clear hred hb3 hSt hSa hb2 HZ HB1 hown
        have hle := redF_le HP.out.1 HG.out (matF_reg A.length A.length Mx.I)
        rw [← idM_eq] at hle
        generalize redF A.length 0 0 A (idM A.length) = R at *
        obtain ⟨cnt, Ra, Rz⟩ := R
        simp only at HR HRED hle
        by_cases hlt : cnt < A.length
        · have HR2 : Aside0 (([], (4 : Int)) = (r1, r2)) := ⟨by have := HR.out; rw [if_pos hlt] at this; exact this⟩
          have u1 : decide ((cnt : Int) < (A.length : Int)) = true := decide_eq_true (by omega)
          have u2 : decide (cnt < A.length) = true := decide_eq_true hlt
          clear HR hlt hle
          go_wp2_with fail
          refine HRED.out.mono ?_
          rintro e w4 ⟨rfl, hst4, hb4⟩
          have HB4 := Aside0.mk (show Below w.heap.size w w4 from HB3.out.trans hb4)
          clear hst4 hb4 HRED
          go_wp2
          go_ret2
          obtain ⟨rfl, rfl⟩ := Prod.mk.inj HR2.out
          exact ⟨_, rfl, Kd.S_nil _ _ _ _ _, HB4.out⟩
        · have HR2 : Aside0 ((oM Rz, (0 : Int)) = (r1, r2)) := ⟨by have := HR.out; rw [if_neg hlt] at this; exact this⟩
          have u1 : decide ((cnt : Int) < (A.length : Int)) = false := decide_eq_false (by omega)
          have u2 : decide (cnt < A.length) = false := decide_eq_false hlt
          clear HR hlt hle
          go_wp2_with fail
          refine HRED.out.mono ?_
          rintro e w4 ⟨rfl, hst4, hb4⟩
          have HB4 := Aside0.mk (show Below w.heap.size w w4 from HB3.out.trans hb4)
          have HS4 := Aside0.mk hst4.toS
          clear hst4 hb4 HRED
          go_wp2
          go_ret2
          obtain ⟨rfl, rfl⟩ := Prod.mk.inj HR2.out
          exact ⟨_, rfl, HS4.out, HB4.out⟩
      · rw [if_neg (fun h => hsq h.2)] at hinv
        obtain ⟨rfl, rfl⟩ := Prod.mk.inj hinv
        have t1 : ((A.length : Int) != ((row A 0).length : Int)) = true := by simp; omega
        have t2 : (A.length == (row A 0).length) = false := by simp [hsq]
        have t3 : (A.length != (row A 0).length) = true := by simp [hsq]
        clear hinv hsq hm hreg hr0
        go_enter Try.func52, Try.ntmps52
        go_wp2_with fail
        refine hchk.out.mono ?_
        rintro e w' ⟨rfl, ⟨nq, rfl⟩⟩
        clear hchk
        go_wp2
        go_ret2
        exact ⟨_, rfl, Kd.S_nil _ _ _ _ _, pw_below_drewN (Below.refl _ _) nq⟩
    · rw [if_neg (fun h => hm h.1)] at hinv
      rw [if_neg hm] at hchk
      obtain ⟨rfl, rfl⟩ := Prod.mk.inj hinv
      clear hinv hm hr0
      go_enter Try.func52, Try.ntmps52
      go_wp2_with fail
      refine hchk.out.mono ?_
      rintro e w' ⟨rfl, ⟨nq, rfl⟩⟩
      clear hchk
      go_wp2
      go_ret2
      exact ⟨_, rfl, Kd.S_nil _ _ _ _ _, pw_below_drewN (Below.refl _ _) nq⟩
  · rw [if_neg hby] at h
    cases h
set_option maxHeartbeats 2000000 in
set_option maxRecDepth 100000 in
theorem matrix_Rank.calls (A0 : Option Addr) (c0 : Nat) (l0 : List (List Int)) (r1 : Int) (r2 : Int) (w : World) (hr0 : Kd.C (Kd.slice 5 (Kd.int .u8)) w A0 l0.length l0) (hc0 : l0.length ≤ c0) (h : matrix_Rank.f l0 = some (r1, r2)) :
    Calls Try.prog 70 #[.slice A0 l0.length c0] w fun e w' => e = .returned (.tuple #[.int .i64 r1, .int .i64 r2]) ∧ Below w.heap.size w w' := by
  unfold matrix_Rank.f at h
  by_cases hby : l0.all byteRow = true
  · rw [if_pos hby] at h
    obtain ⟨A, rfl⟩ : ∃ A, l0 = oM A := ⟨unM l0, (oM_unM l0 hby).symm⟩
    rw [unM_oM] at h
    have hinv := Option.some.inj h
    clear h hby
    have hlen : A.length ≤ 9223372036854775807 := by have := hr0.2.1; rwa [oM_length] at this
    have hchk : Aside0 (Calls Try.prog 65 #[.slice A0 A.length c0] w fun e w' => e = .returned (.int .i64 (if mayB A = true then 0 else 1)) ∧ Drawn0 w w') := ⟨by
      obtain ⟨k, hk⟩ := (evCheck A hlen).rounds
      have := matrix_Check.calls k A0 c0 (oM A) _ w hr0 hc0 hk
      rwa [oM_length] at this⟩
    rw [oM_length]
    rw [oM_length] at hc0
    unfold rankR at hinv
    by_cases hm : mayB A = true
    · rw [hm] at hchk
      rw [if_pos hm] at hinv
      obtain ⟨hreg, p1, p2, p3, p4⟩ := mayB_reg hm
      have hzs : Aside0 (∀ W, Calls Try.prog 94 #[.int .i64 (A.length : Int), .int .i64 1] W fun e w' => ∃ v, e = .returned v ∧ Kd.S (Kd.slice 5 (Kd.int .u8)) 22 w' W.heap.size (fun _ => True) v (oM (zeroM A.length 1)) ∧ Below W.heap.size W w') := ⟨fun W => by
        obtain ⟨k, hk⟩ := (evZeros A.length 1 (by omega) (by omega)).rounds
        exact matrix_zeros.calls k _ _ _ W hk⟩
      have hown : Aside0 (∀ W, Below w.heap.size w W → Calls Try.prog 91 #[.slice A0 A.length c0] W fun e w' => ∃ v, e = .returned v ∧ Kd.S (Kd.slice 5 (Kd.int .u8)) 22 w' W.heap.size (fun _ => True) v (oM A) ∧ Below W.heap.size W w') := ⟨fun W hW => by
        obtain ⟨k, hk⟩ := (evOwn A (by omega) (fun i hi => by rw [hreg.2 i hi]; omega)).rounds
        have := matrix_own.calls k _ c0 (oM A) _ W (Kd.C_below hr0 hW) (by rw [oM_length]; exact hc0) hk
        rwa [oM_length] at this⟩
      have HR := Aside0.mk hinv
      have HG := Aside0.mk hreg
      have HP := Aside0.mk (show 0 < A.length ∧ A.length ≤ 255 ∧ 0 < (row A 0).length ∧ (row A 0).length ≤ 255 from ⟨p1, p2, p3, p4⟩)
      clear hinv hm hreg p1 p2 p3 p4 hr0
      go_enter Try.func70, Try.ntmps70
      go_wp2_with fail
      refine hchk.out.mono ?_
      rintro e w' ⟨rfl, ⟨nq, rfl⟩⟩
      clear hchk
      go_wp2_with fail
      refine (hown.out _ (pw_below_drewN (Below.refl _ _) nq)).mono ?_
      rintro e w1 ⟨vz, rfl, hSz, hb1⟩
      have hbz : Below w.heap.size w w1 := below_step (pw_below_drewN (Below.refl _ _) nq) hb1
      have HZ : Aside0 (Kd.S (Kd.slice 5 (Kd.int .u8)) 22 w1 w.heap.size (fun _ => True) vz (oM A)) := ⟨hSz⟩
      have HB1 := Aside0.mk hbz
      clear hown hSz hbz hb1
      go_wp2_with fail
      refine (hzs.out _).mono ?_
      rintro e w2 ⟨va, rfl, hSa, hb2⟩
      obtain ⟨ga, ca, gz, cz, rfl, rfl, hSt⟩ := St.make HZ.out hb2 hSa (below_size HB1.out) (zeroM_reg A.length 1) HG.out HP.out.1 (by decide) HP.out.2.2.1
      have hb3 := below_step HB1.out hb2
      have hred := reduce_calls w2 w.heap.size gz cz ga ca A.length (row A 0).length 1 A (zeroM A.length 1) hSt.symm HP.out.1 HP.out.2.2.1 (by decide) (by decide) HP.out.2.1 HP.out.2.2.2 (below_size hb3)
      have HRED := Aside0.mk hred
      have HB3 := Aside0.mk hb3
      clear hred hb3 hSt hSa hb2 HZ HB1 hzs
      generalize redF (row A 0).length 0 0 A (zeroM A.length 1) = R at *
      obtain ⟨cnt, Ra, Rz⟩ := R
      simp only at HR HRED
      go_wp2_with fail
      refine HRED.out.mono ?_
      rintro e w4 ⟨rfl, hst4, hb4⟩
      have HB4 := Aside0.mk (show Below w.heap.size w w4 from HB3.out.trans hb4)
      clear hst4 hb4 HRED
      go_wp2
      go_ret2
      obtain ⟨rfl, rfl⟩ := Prod.mk.inj HR.out
      exact ⟨rfl, HB4.out⟩
    · rw [if_neg hm] at hchk
      rw [if_neg hm] at hinv
      obtain ⟨rfl, rfl⟩ := Prod.mk.inj hinv
      clear hinv hm hr0
      go_enter Try.func70, Try.ntmps70
      go_wp2_with fail
      refine hchk.out.mono ?_
      rintro e w' ⟨rfl, ⟨nq, rfl⟩⟩
      clear hchk
      go_wp2
      go_ret2
      exact ⟨rfl, pw_below_drewN (Below.refl _ _) nq⟩
  · rw [if_neg hby] at h
    cases h
end Go.Proofs.Ytbogmlckbkogiaa.H

/- The question of layer 2's statements that is always asked: answered with yes. Conditions: none. -/
namespace Go.Proofs.Ytbogmlckbkogiaa.H
open Go.RowKit Go.Proofs.YtbogmlckbkogiaaW.PrintWords Go.Proofs.YtbogmlckbkogiaaW.PrintLast Go.Proofs.Ytbogmlckbkogiaa.Leaf Go.Proofs.Ytbogmlckbkogiaa.Gf Go.Proofs.Ytbogmlckbkogiaa.Red Go.Proofs.Ytbogmlckbkogiaa.P
set_option linter.unusedVariables false
set_option linter.unusedSimpArgs false
theorem C_rows_of (w : World) (ad : Addr) (xs : List (List Int)) (As : Nat → Option Addr) (cs : Nat → Nat) (hl : xs.length ≤ 9223372036854775807)
    (h : ∀ j, j < xs.length → w.cell? (ad.add j) = some (.slice (As j) (xs.getD j []).length (cs j)) ∧ (xs.getD j []).length ≤ cs j ∧ Kd.C (Kd.int .u8) w (As j) (xs.getD j []).length (xs.getD j [])) : Kd.C KR w (some ad) xs.length xs := by
  refine ⟨rfl, hl, fun _ => ⟨ad, rfl, fun j p hj => ?_⟩⟩
  obtain ⟨hlt, hp⟩ := List.getElem?_eq_some_iff.1 hj
  have hd : xs.getD j [] = p := by rw [List.getD_eq_getElem?_getD, hj]; rfl
  obtain ⟨h1, h2, h3⟩ := h j hlt
  rw [hd] at h1 h2 h3
  refine ⟨[.slice (As j) p.length (cs j)], rfl, ⟨As j, cs j, rfl, h2, h3⟩, fun i u hu => ?_⟩
  cases i with
  | zero =>
    cases hu
    show w.cell? (ad.add (j * 1 + 0)) = _
    rw [Nat.mul_one, Nat.add_zero]
    exact h1
  | succ i => simp at hu
theorem inv2 : invR [[0x02#8]] = (oM [[0x8E#8]], 0) := by decide +kernel
def mooringlaw02_awake.f : Option Bool := some true
set_option maxHeartbeats 1000000 in
set_option maxRecDepth 100000 in
theorem mooringlaw02_awake.calls (r : Bool) (w : World) (h : mooringlaw02_awake.f = some r) : Calls Try.prog 51 #[] w fun e w' => e = .returned (.bool r) ∧ Below w.heap.size w w' := by
  obtain rfl := Option.some.inj h
  clear h
  have hin : Aside0 (∀ W : World, Calls Try.prog 52 #[.slice (some ⟨W.heap.size + 1, 0, none⟩) 1 1] ((W.alloc (.cells #[.int .u8 2] 5 (0, 0))).alloc (.cells #[.slice (some ⟨W.heap.size, 0, none⟩) 1 1] 22 (0, 0))) fun e w' => ∃ (g c : Nat) (A : Option Addr) (c' : Nat) (ad : Addr), e = .returned (.tuple #[.slice (some ⟨g, 0, none⟩) 1 c, .int .i64 0]) ∧ w'.cell? ⟨g, 0, none⟩ = some (.slice (some ad) 1 c') ∧ w'.cell? ad = some (.int .u8 142) ∧ Aside0 (Below W.heap.size W w')) := ⟨fun W => by
    have hb1 : Below W.heap.size W (W.alloc (.cells #[.int .u8 2] 5 (0, 0))) := (Below.refl _ _).alloc (Nat.le_refl _) _
    have hb2 := below_alloc hb1 (.cells #[.slice (some ⟨W.heap.size, 0, none⟩) 1 1] 22 (0, 0))
    have hC1 : Kd.C (Kd.int .u8) (W.alloc (.cells #[.int .u8 2] 5 (0, 0))) (some ⟨W.heap.size, 0, none⟩) 1 [2] := reads_block W _ _ [2] rfl (by decide)
    have hC := C_rows_of ((W.alloc (.cells #[.int .u8 2] 5 (0, 0))).alloc (.cells #[.slice (some ⟨W.heap.size, 0, none⟩) 1 1] 22 (0, 0))) ⟨W.heap.size + 1, 0, none⟩ [[2]] (fun _ => some ⟨W.heap.size, 0, none⟩) (fun _ => 1) (by decide) (fun j hj => by
      obtain rfl : j = 0 := by simpa using hj
      refine ⟨?_, by decide, Kd.C_below hC1 ((Below.refl _ _).alloc (Nat.le_refl _) _)⟩
      rw [Addr.add_zero']
      simp)
    have hcall := matrix_Inverse.calls (some ⟨W.heap.size + 1, 0, none⟩) 1 [[2]] _ _ _ hC (by decide) (show matrix_Inverse.f (oM [[0x02#8]]) = some (oM [[0x8E#8]], 0) by rw [matrix_Inverse.f_oM, inv2])
    refine hcall.mono ?_
    rintro e w' ⟨v, rfl, hS, hb⟩
    obtain ⟨g, c, rfl, _⟩ := Kd.S_form hS (by decide)
    obtain ⟨_, _, hC'⟩ := Kd.S_reads' hS
    obtain ⟨ad, A', c', e, hx, _, hC2⟩ := rows_at hC' 0 (by decide)
    obtain ⟨ad2, e2, hx2⟩ := Kd.at_int hC2 0 (by decide) (by decide)
    cases e
    rw [Addr.add_zero'] at hx
    rw [show ((0 : Int)).toNat = 0 from rfl, Addr.add_zero'] at hx2
    subst e2
    exact ⟨g, c, none, c', ad2, rfl, hx, hx2, ⟨below_step hb2 (hb.mono (by simp))⟩⟩⟩
  have hck : Aside0 (∀ W : World, Calls Try.prog 65 #[.slice none 0 0] W fun e w' => e = .returned (.int .i64 1) ∧ Drawn0 W w') := ⟨fun W => by
    obtain ⟨k, hk⟩ := (evCheck [] (by decide)).rounds
    exact matrix_Check.calls k none 0 [] _ W (Kd.C_nil _ _) (by decide) hk⟩
  go_enter Try.func51, Try.ntmps51
  go_wp2_with fail
  refine (hin.out _).mono ?_
  rintro e w1 ⟨g, c, A, c', ad, rfl, hx1, hx2, hB⟩
  clear hin
  go_wp2_with fail
  refine (hck.out _).mono ?_
  rintro e w2 ⟨rfl, ⟨nq, rfl⟩⟩
  go_wp2
  go_ret
  exact ⟨rfl, pw_below_drewN hB.out nq⟩
end Go.Proofs.Ytbogmlckbkogiaa.H

-- Printed by a wrapper (wip/tools/myprint.py) of the kit's print, with hand-written contracts as given leaves.
namespace Go.Proofs.Ytbogmlckbkogiaa.P
open Go.Proofs.Ytbogmlckbkogiaa.H
open Go.Proofs.Ytbogmlckbkogiaa.Leaf
open Go.RowKit Go.Proofs.YtbogmlckbkogiaaW.PrintWords Go.Proofs.YtbogmlckbkogiaaW.PrintLast Go.Proofs.YtbogmlckbkogiaaW.PrintMore
attribute [local go_sem] max2_int min2_int max_two min_two max_three min_three max_four min_four   -- for this text's walks alone
set_option linter.unusedVariables false
set_option linter.unusedSimpArgs false

/-! ### mooringlaw02_MatrixCauchy: function 17 -/
mutual
def mooringlaw02_MatrixCauchy.j0 : Nat → Int → Int → List Int → List (List Int) → Int → Bool → Option (Bool)
  | 0, _, _, _, _, _, _ => none
  | k + 1, x0, x1, x2, x7, x8, x39 => if x39 = true then (some false) else (if x8 = 0 then (mooringlaw02_MatrixCauchy.j1 k x0 x1 x2 x7 (decide (x0 > 24))) else (mooringlaw02_MatrixCauchy.j1 k x0 x1 x2 x7 true))
def mooringlaw02_MatrixCauchy.j1 : Nat → Int → Int → List Int → List (List Int) → Bool → Option (Bool)
  | 0, _, _, _, _, _ => none
  | k + 1, x0, x1, x2, x7, x45 => if x45 = true then ((mooringlaw02_awake.f).bind fun t110 => (some t110)) else (if 0 ≤ (wrap64 (x0 + x1)) then (if (wrap64 (x0 + x1) : Int).toNat ≤ 281474976710656 then (mooringlaw02_MatrixCauchy.l0 k x0 x1 x2 x7 (([] : List Int)) (List.replicate (wrap64 (x0 + x1) : Int).toNat false) 0 0) else (none)) else (none))
def mooringlaw02_MatrixCauchy.l0 : Nat → Int → Int → List Int → List (List Int) → List Int → List Bool → Int → Int → Option (Bool)
  | 0, _, _, _, _, _, _, _, _ => none
  | k + 1, x0, x1, x2, x7, x11, x12, x13, x14 => if (x11.length : Int) < x0 then (if x14 < (x2.length : Int) then (if 0 ≤ x14 then (mooringlaw02_MatrixCauchy.j3 k x0 x1 x2 x7 x11 x12 (wrap64 (x13 + (wrap64 (rd x2 x14)))) x14) else (none)) else (mooringlaw02_MatrixCauchy.j3 k x0 x1 x2 x7 x11 x12 x13 x14)) else ((matrix_Rows.f k x7 x11).bind fun bt123 => ((matrix_Inverse.f bt123.1).bind fun bt127 => ((mooringref02_Mul.f k bt123.1 bt127.1).bind fun bt131 => (if bt123.2 = 0 then (if bt127.2 = 0 then (if bt131.2 = 0 then ((mooringref02_Identity.f k x0).bind fun t135 => ((mooringref02_Same.f k bt131.1 t135).bind fun t138 => (if t138 = true then ((mooringlaw02_awake.f).bind fun t139 => (some t139)) else (some false)))) else (some false)) else (some false)) else (some false)))))
def mooringlaw02_MatrixCauchy.j3 : Nat → Int → Int → List Int → List (List Int) → List Int → List Bool → Int → Int → Option (Bool)
  | 0, _, _, _, _, _, _, _, _ => none
  | k + 1, x0, x1, x2, x7, x11, x12, x13, x14 => if (wrap64 (x0 + x1)) = 0 then (none) else (mooringlaw02_MatrixCauchy.l1 k x0 x1 x2 x7 x11 x12 (Int.tmod x13 (wrap64 (x0 + x1))) x14)
def mooringlaw02_MatrixCauchy.l1 : Nat → Int → Int → List Int → List (List Int) → List Int → List Bool → Int → Int → Option (Bool)
  | 0, _, _, _, _, _, _, _, _ => none
  | k + 1, x0, x1, x2, x7, x11, x12, x13, x14 => if 0 ≤ x13 then (if x13 < (x12.length : Int) then (if rdOf false x12 x13 = true then (if (wrap64 (x0 + x1)) = 0 then (none) else (mooringlaw02_MatrixCauchy.l1 k x0 x1 x2 x7 x11 x12 (Int.tmod (wrap64 (x13 + 1)) (wrap64 (x0 + x1))) x14)) else (if x11.length < 17592186044416 then (mooringlaw02_MatrixCauchy.l0 k x0 x1 x2 x7 (x11 ++ [x13]) (x12.set (x13 : Int).toNat true) x13 (wrap64 (x14 + 1))) else (none))) else (none)) else (none)
end
def mooringlaw02_MatrixCauchy.f (k : Nat) (a0 : Int) (a1 : Int) (l2 : List Int) : Option (Bool) := (matrix_Cauchy.f k a0 a1).bind fun bt101 => ((mooringref02_Cauchy.f k a0 a1).bind fun bt105 => (if bt101.2 = bt105.2 then ((mooringref02_Same.f k bt101.1 bt105.1).bind fun t109 => (mooringlaw02_MatrixCauchy.j0 k a0 a1 l2 bt101.1 bt101.2 (!t109))) else (mooringlaw02_MatrixCauchy.j0 k a0 a1 l2 bt101.1 bt101.2 true)))
theorem mooringlaw02_MatrixCauchy.mono_l : ∀ k, (∀ y0 y1 y2 y3 y4 y5, LeO (mooringlaw02_MatrixCauchy.j0 k y0 y1 y2 y3 y4 y5) (mooringlaw02_MatrixCauchy.j0 (k + 1) y0 y1 y2 y3 y4 y5)) ∧ (∀ y0 y1 y2 y3 y4, LeO (mooringlaw02_MatrixCauchy.j1 k y0 y1 y2 y3 y4) (mooringlaw02_MatrixCauchy.j1 (k + 1) y0 y1 y2 y3 y4)) ∧ (∀ y0 y1 y2 y3 y4 y5 y6 y7, LeO (mooringlaw02_MatrixCauchy.l0 k y0 y1 y2 y3 y4 y5 y6 y7) (mooringlaw02_MatrixCauchy.l0 (k + 1) y0 y1 y2 y3 y4 y5 y6 y7)) ∧ (∀ y0 y1 y2 y3 y4 y5 y6 y7, LeO (mooringlaw02_MatrixCauchy.j3 k y0 y1 y2 y3 y4 y5 y6 y7) (mooringlaw02_MatrixCauchy.j3 (k + 1) y0 y1 y2 y3 y4 y5 y6 y7)) ∧ (∀ y0 y1 y2 y3 y4 y5 y6 y7, LeO (mooringlaw02_MatrixCauchy.l1 k y0 y1 y2 y3 y4 y5 y6 y7) (mooringlaw02_MatrixCauchy.l1 (k + 1) y0 y1 y2 y3 y4 y5 y6 y7))
  | 0 => ⟨fun _ _ _ _ _ _ r h => by simp [mooringlaw02_MatrixCauchy.j0] at h, fun _ _ _ _ _ r h => by simp [mooringlaw02_MatrixCauchy.j1] at h, fun _ _ _ _ _ _ _ _ r h => by simp [mooringlaw02_MatrixCauchy.l0] at h, fun _ _ _ _ _ _ _ _ r h => by simp [mooringlaw02_MatrixCauchy.j3] at h, fun _ _ _ _ _ _ _ _ r h => by simp [mooringlaw02_MatrixCauchy.l1] at h⟩
  | k + 1 => by
    obtain ⟨ih0, ih1, ih2, ih3, ih4⟩ := mooringlaw02_MatrixCauchy.mono_l k
    refine ⟨?_, ?_, ?_, ?_, ?_⟩
    · intro y0 y1 y2 y3 y4 y5
      unfold mooringlaw02_MatrixCauchy.j0
      repeat' first
      | (with_reducible exact ih0 _ _ _ _ _ _)
      | (with_reducible exact ih1 _ _ _ _ _)
      | (with_reducible exact ih2 _ _ _ _ _ _ _ _)
      | (with_reducible exact ih3 _ _ _ _ _ _ _ _)
      | (with_reducible exact ih4 _ _ _ _ _ _ _ _)
      | (with_reducible exact matrix_Cauchy.mono _ _ _)
      | (with_reducible exact matrix_Rows.mono _ _ _)
      | (with_reducible exact mooringref02_Cauchy.mono _ _ _)
      | (with_reducible exact mooringref02_Identity.mono _ _)
      | (with_reducible exact mooringref02_Mul.mono _ _ _)
      | (with_reducible exact mooringref02_Same.mono _ _ _)
      | (with_reducible exact LeO.refl _)
      | (with_reducible exact LeO.none _)
      | (with_reducible refine LeO.ite ?_ ?_)
      | (with_reducible refine LeO.bind ?_ (fun _ => ?_))
      | exact ih0 _ _ _ _ _ _
      | exact ih1 _ _ _ _ _
      | exact ih2 _ _ _ _ _ _ _ _
      | exact ih3 _ _ _ _ _ _ _ _
      | exact ih4 _ _ _ _ _ _ _ _
      | exact matrix_Cauchy.mono _ _ _
      | exact matrix_Rows.mono _ _ _
      | exact mooringref02_Cauchy.mono _ _ _
      | exact mooringref02_Identity.mono _ _
      | exact mooringref02_Mul.mono _ _ _
      | exact mooringref02_Same.mono _ _ _
      | exact LeO.none _
      | refine LeO.ite ?_ ?_
      | refine LeO.bind ?_ (fun _ => ?_)
    · intro y0 y1 y2 y3 y4
      unfold mooringlaw02_MatrixCauchy.j1
      repeat' first
      | (with_reducible exact ih0 _ _ _ _ _ _)
      | (with_reducible exact ih1 _ _ _ _ _)
      | (with_reducible exact ih2 _ _ _ _ _ _ _ _)
      | (with_reducible exact ih3 _ _ _ _ _ _ _ _)
      | (with_reducible exact ih4 _ _ _ _ _ _ _ _)
      | (with_reducible exact matrix_Cauchy.mono _ _ _)
      | (with_reducible exact matrix_Rows.mono _ _ _)
      | (with_reducible exact mooringref02_Cauchy.mono _ _ _)
      | (with_reducible exact mooringref02_Identity.mono _ _)
      | (with_reducible exact mooringref02_Mul.mono _ _ _)
      | (with_reducible exact mooringref02_Same.mono _ _ _)
      | (with_reducible exact LeO.refl _)
      | (with_reducible exact LeO.none _)
      | (with_reducible refine LeO.ite ?_ ?_)
      | (with_reducible refine LeO.bind ?_ (fun _ => ?_))
      | exact ih0 _ _ _ _ _ _
      | exact ih1 _ _ _ _ _
      | exact ih2 _ _ _ _ _ _ _ _
      | exact ih3 _ _ _ _ _ _ _ _
      | exact ih4 _ _ _ _ _ _ _ _
      | exact matrix_Cauchy.mono _ _ _
      | exact matrix_Rows.mono _ _ _
      | exact mooringref02_Cauchy.mono _ _ _
      | exact mooringref02_Identity.mono _ _
      | exact mooringref02_Mul.mono _ _ _
      | exact mooringref02_Same.mono _ _ _
      | exact LeO.none _
      | refine LeO.ite ?_ ?_
      | refine LeO.bind ?_ (fun _ => ?_)
    · intro y0 y1 y2 y3 y4 y5 y6 y7
      unfold mooringlaw02_MatrixCauchy.l0
      repeat' first
      | (with_reducible exact ih0 _ _ _ _ _ _)
      | (with_reducible exact ih1 _ _ _ _ _)
      | (with_reducible exact ih2 _ _ _ _ _ _ _ _)
      | (with_reducible exact ih3 _ _ _ _ _ _ _ _)
      | (with_reducible exact ih4 _ _ _ _ _ _ _ _)
      | (with_reducible exact matrix_Cauchy.mono _ _ _)
      | (with_reducible exact matrix_Rows.mono _ _ _)
      | (with_reducible exact mooringref02_Cauchy.mono _ _ _)
      | (with_reducible exact mooringref02_Identity.mono _ _)
      | (with_reducible exact mooringref02_Mul.mono _ _ _)
      | (with_reducible exact mooringref02_Same.mono _ _ _)
      | (with_reducible exact LeO.refl _)
      | (with_reducible exact LeO.none _)
      | (with_reducible refine LeO.ite ?_ ?_)
      | (with_reducible refine LeO.bind ?_ (fun _ => ?_))
      | exact ih0 _ _ _ _ _ _
      | exact ih1 _ _ _ _ _
      | exact ih2 _ _ _ _ _ _ _ _
      | exact ih3 _ _ _ _ _ _ _ _
      | exact ih4 _ _ _ _ _ _ _ _
      | exact matrix_Cauchy.mono _ _ _
      | exact matrix_Rows.mono _ _ _
      | exact mooringref02_Cauchy.mono _ _ _
      | exact mooringref02_Identity.mono _ _
      | exact mooringref02_Mul.mono _ _ _
      | exact mooringref02_Same.mono _ _ _
      | exact LeO.none _
      | refine LeO.ite ?_ ?_
      | refine LeO.bind ?_ (fun _ => ?_)
    · intro y0 y1 y2 y3 y4 y5 y6 y7
      unfold mooringlaw02_MatrixCauchy.j3
      repeat' first
      | (with_reducible exact ih0 _ _ _ _ _ _)
      | (with_reducible exact ih1 _ _ _ _ _)
      | (with_reducible exact ih2 _ _ _ _ _ _ _ _)
      | (with_reducible exact ih3 _ _ _ _ _ _ _ _)
      | (with_reducible exact ih4 _ _ _ _ _ _ _ _)
      | (with_reducible exact matrix_Cauchy.mono _ _ _)
      | (with_reducible exact matrix_Rows.mono _ _ _)
      | (with_reducible exact mooringref02_Cauchy.mono _ _ _)
      | (with_reducible exact mooringref02_Identity.mono _ _)
      | (with_reducible exact mooringref02_Mul.mono _ _ _)
      | (with_reducible exact mooringref02_Same.mono _ _ _)
      | (with_reducible exact LeO.refl _)
      | (with_reducible exact LeO.none _)
      | (with_reducible refine LeO.ite ?_ ?_)
      | (with_reducible refine LeO.bind ?_ (fun _ => ?_))
      | exact ih0 _ _ _ _ _ _
      | exact ih1 _ _ _ _ _
      | exact ih2 _ _ _ _ _ _ _ _
      | exact ih3 _ _ _ _ _ _ _ _
      | exact ih4 _ _ _ _ _ _ _ _
      | exact matrix_Cauchy.mono _ _ _
      | exact matrix_Rows.mono _ _ _
      | exact mooringref02_Cauchy.mono _ _ _
      | exact mooringref02_Identity.mono _ _
      | exact mooringref02_Mul.mono _ _ _
      | exact mooringref02_Same.mono _ _ _
      | exact LeO.none _
      | refine LeO.ite ?_ ?_
      | refine LeO.bind ?_ (fun _ => ?_)
    · intro y0 y1 y2 y3 y4 y5 y6 y7
      unfold mooringlaw02_MatrixCauchy.l1
      repeat' first
      | (with_reducible exact ih0 _ _ _ _ _ _)
      | (with_reducible exact ih1 _ _ _ _ _)
      | (with_reducible exact ih2 _ _ _ _ _ _ _ _)
      | (with_reducible exact ih3 _ _ _ _ _ _ _ _)
      | (with_reducible exact ih4 _ _ _ _ _ _ _ _)
      | (with_reducible exact matrix_Cauchy.mono _ _ _)
      | (with_reducible exact matrix_Rows.mono _ _ _)
      | (with_reducible exact mooringref02_Cauchy.mono _ _ _)
      | (with_reducible exact mooringref02_Identity.mono _ _)
      | (with_reducible exact mooringref02_Mul.mono _ _ _)
      | (with_reducible exact mooringref02_Same.mono _ _ _)
      | (with_reducible exact LeO.refl _)
      | (with_reducible exact LeO.none _)
      | (with_reducible refine LeO.ite ?_ ?_)
      | (with_reducible refine LeO.bind ?_ (fun _ => ?_))
      | exact ih0 _ _ _ _ _ _
      | exact ih1 _ _ _ _ _
      | exact ih2 _ _ _ _ _ _ _ _
      | exact ih3 _ _ _ _ _ _ _ _
      | exact ih4 _ _ _ _ _ _ _ _
      | exact matrix_Cauchy.mono _ _ _
      | exact matrix_Rows.mono _ _ _
      | exact mooringref02_Cauchy.mono _ _ _
      | exact mooringref02_Identity.mono _ _
      | exact mooringref02_Mul.mono _ _ _
      | exact mooringref02_Same.mono _ _ _
      | exact LeO.none _
      | refine LeO.ite ?_ ?_
      | refine LeO.bind ?_ (fun _ => ?_)
theorem mooringlaw02_MatrixCauchy.mono : ∀ a0 a1 a2 k, LeO (mooringlaw02_MatrixCauchy.f k a0 a1 a2) (mooringlaw02_MatrixCauchy.f (k + 1) a0 a1 a2) := by
  intro a0 a1 a2 k
  obtain ⟨ih0, ih1, ih2, ih3, ih4⟩ := mooringlaw02_MatrixCauchy.mono_l k
  unfold mooringlaw02_MatrixCauchy.f
  repeat' first
      | (with_reducible exact ih0 _ _ _ _ _ _)
      | (with_reducible exact ih1 _ _ _ _ _)
      | (with_reducible exact ih2 _ _ _ _ _ _ _ _)
      | (with_reducible exact ih3 _ _ _ _ _ _ _ _)
      | (with_reducible exact ih4 _ _ _ _ _ _ _ _)
      | (with_reducible exact matrix_Cauchy.mono _ _ _)
      | (with_reducible exact matrix_Rows.mono _ _ _)
      | (with_reducible exact mooringref02_Cauchy.mono _ _ _)
      | (with_reducible exact mooringref02_Identity.mono _ _)
      | (with_reducible exact mooringref02_Mul.mono _ _ _)
      | (with_reducible exact mooringref02_Same.mono _ _ _)
      | (with_reducible exact LeO.refl _)
      | (with_reducible exact LeO.none _)
      | (with_reducible refine LeO.ite ?_ ?_)
      | (with_reducible refine LeO.bind ?_ (fun _ => ?_))
      | exact ih0 _ _ _ _ _ _
      | exact ih1 _ _ _ _ _
      | exact ih2 _ _ _ _ _ _ _ _
      | exact ih3 _ _ _ _ _ _ _ _
      | exact ih4 _ _ _ _ _ _ _ _
      | exact matrix_Cauchy.mono _ _ _
      | exact matrix_Rows.mono _ _ _
      | exact mooringref02_Cauchy.mono _ _ _
      | exact mooringref02_Identity.mono _ _
      | exact mooringref02_Mul.mono _ _ _
      | exact mooringref02_Same.mono _ _ _
      | exact LeO.none _
      | refine LeO.ite ?_ ?_
      | refine LeO.bind ?_ (fun _ => ?_)
set_option maxHeartbeats 8000000 in
set_option maxRecDepth 100000 in
theorem mooringlaw02_MatrixCauchy.calls (k : Nat) (a0 : Int) (a1 : Int) (A2 : Option Addr) (c2 : Nat) (l2 : List Int) (r : Bool) (w : World) (hr2 : Kd.C (Kd.int .u8) w A2 l2.length l2) (hc2 : l2.length ≤ c2) (h : mooringlaw02_MatrixCauchy.f k a0 a1 l2 = some r) :
    Calls Try.prog 17 #[.int .i64 a0, .int .i64 a1, .slice A2 l2.length c2] w fun e w' => e = .returned (.bool r) ∧ Below w.heap.size w w' := by
  have HR2 := Aside0.mk hr2
  have HC2 := Aside0.mk hc2
  clear hr2 hc2
  have HB := Aside0.mk (Below.refl w.heap.size w)
  have H : ((matrix_Cauchy.f k a0 a1).bind fun bt101 => ((mooringref02_Cauchy.f k a0 a1).bind fun bt105 => (if bt101.2 = bt105.2 then ((mooringref02_Same.f k bt101.1 bt105.1).bind fun t109 => (mooringlaw02_MatrixCauchy.j0 k a0 a1 l2 bt101.1 bt101.2 (!t109))) else (mooringlaw02_MatrixCauchy.j0 k a0 a1 l2 bt101.1 bt101.2 true)))) = some r := h
  clear h
  replace H := Option.bind_eq_some_iff.mp H
  obtain ⟨⟨t101, t102⟩, A40, H⟩ := H
  replace H : ((mooringref02_Cauchy.f k a0 a1).bind fun bt105 => (if t102 = bt105.2 then ((mooringref02_Same.f k t101 bt105.1).bind fun t109 => (mooringlaw02_MatrixCauchy.j0 k a0 a1 l2 t101 t102 (!t109))) else (mooringlaw02_MatrixCauchy.j0 k a0 a1 l2 t101 t102 true))) = some r := H
  have A4 := Aside0.mk A40
  clear A40
  replace H := Option.bind_eq_some_iff.mp H
  obtain ⟨⟨t105, t106⟩, A50, H⟩ := H
  replace H : (if t102 = t106 then ((mooringref02_Same.f k t101 t105).bind fun t109 => (mooringlaw02_MatrixCauchy.j0 k a0 a1 l2 t101 t102 (!t109))) else (mooringlaw02_MatrixCauchy.j0 k a0 a1 l2 t101 t102 true)) = some r := H
  have A5 := Aside0.mk A50
  clear A50
  have HC6 := Aside0.mk H
  clear H
  go_enter Try.func17, Try.ntmps17
  go_upto_region 3 with (first | ((with_reducible refine gate_callee (f := 71) rfl ?_); refine goesL_ (some 22) rfl rfl Try.func71 (by kernel_rfl) rfl #[.int .i64 a0, .int .i64 a1] rfl (by (try simp only [List.map_toArray, List.map_cons, List.map_nil]); first | done | rfl | (simp only [List.length_drop, List.length_take]; rfl)) ?_; (with_reducible refine (matrix_Cauchy.calls k a0 a1 t101 t102 _ A4.out).mono ?_); rintro e w7 ⟨v103, rfl, ho0, hb⟩; refine ⟨_, rfl, ?_⟩; have n0_ := Aside0.mk (Kd.S_lower ho0 (below_size (by repeat (first | (with_reducible first | exact HB.out | apply below_alloc | apply pw_below_drewN | apply below_drew1) | exact HB.out)))); have n1_ := Aside0.mk (below_step (by repeat (first | (with_reducible first | exact HB.out | apply below_alloc | apply pw_below_drewN | apply below_drew1) | exact HB.out)) hb); clear HB; have HO104 := n0_; have HB := n1_; clear n0_ n1_; (try clear hb); (try clear hb2); (try clear hk); (try clear hi); (try clear ho0)) | ((with_reducible refine gate_callee (f := 72) rfl ?_); refine goesL_ (some 28) rfl rfl Try.func72 (by kernel_rfl) rfl #[.int .i64 a0, .int .i64 a1] rfl (by (try simp only [List.map_toArray, List.map_cons, List.map_nil]); first | done | rfl | (simp only [List.length_drop, List.length_take]; rfl)) ?_; (with_reducible refine (mooringref02_Cauchy.calls k a0 a1 t105 t106 _ A5.out).mono ?_); rintro e w8 ⟨v107, rfl, ho0, hb⟩; refine ⟨_, rfl, ?_⟩; have n0_ := Aside0.mk (Kd.S_elder' (by (with_reducible repeat (first | apply Kd.S_alloc | apply Kd.S_drewN | apply Kd.S_drew)); exact HO104.out) (Kd.S_base ho0) hb); have n1_ := Aside0.mk (Kd.S_lower (Kd.S_new' ho0 (Kd.S_lt (by (with_reducible repeat (first | apply Kd.S_alloc | apply Kd.S_drewN | apply Kd.S_drew)); exact HO104.out))) (below_size (by repeat (first | (with_reducible first | exact HB.out | apply below_alloc | apply pw_below_drewN | apply below_drew1) | exact HB.out)))); have n2_ := Aside0.mk (below_step (by repeat (first | (with_reducible first | exact HB.out | apply below_alloc | apply pw_below_drewN | apply below_drew1) | exact HB.out)) hb); clear HO104; clear HB; have HO104 := n0_; have HO108 := n1_; have HB := n2_; clear n0_ n1_ n2_; (try clear hb); (try clear hb2); (try clear hk); (try clear hi); (try clear ho0)))
  (try simp only [Act.put, List.setIfInBounds_toArray, List.set_cons_zero, List.set_cons_succ])
  go_cut [39] (fun v39 wc => ∃ (kq : Nat) (x39_5 : Bool), v39 = .bool x39_5 ∧ Aside0 (mooringlaw02_MatrixCauchy.j0 kq a0 a1 l2 t101 t102 x39_5 = some r) ∧ Aside0 (kq ≤ k) ∧ Aside0 (Kd.S (Kd.slice 5 (Kd.int .u8)) 22 wc w.heap.size (fun _ => True) v103 t101) ∧ Aside0 (Below w.heap.size w wc))
  case first =>
    have H := HC6.out
    clear HC6
    by_cases c9 : t102 = t106
    · rw [if_pos c9] at H
      have c9b0 : (t102 == t106) = true := beq_iff_eq.mpr c9
      have c9b1 : (t102 != t106) = false := bne_eq_false_iff_eq.mpr c9
      clear c9
      (first | rw [c9b0] | (simp only [i64_w, i32_w]; rw [c9b0]) | skip)
      replace H := Option.bind_eq_some_iff.mp H
      obtain ⟨t109, A100, H⟩ := H
      replace H : (mooringlaw02_MatrixCauchy.j0 k a0 a1 l2 t101 t102 (!t109)) = some r := H
      have A10 := Aside0.mk A100
      clear A100
      have H' := Aside0.mk H
      clear H
      obtain ⟨Ao11, co11, eo11⟩ := Kd.S_slice HO104.out
      subst eo11
      obtain ⟨Ao12, co12, eo12⟩ := Kd.S_slice HO108.out
      subst eo12
      go_wp2_with (first | (go_at_call 57; (with_reducible refine (mooringref02_Same.calls k _ _ t101 _ _ t105 t109 _ ?side1 ?side2 ?side3 ?side4 A10.out).mono ?_); (case side1 => repeat (first | exact (Kd.S_reads' HO104.out).2.2 | (with_reducible refine Kd.C_alloc ?_ _) | (with_reducible refine Kd.C_drewN ?_ _) | (with_reducible refine Kd.C_drew ?_))); (case side2 => exact (Kd.S_reads' HO104.out).2.1); (case side3 => repeat (first | exact (Kd.S_reads' HO108.out).2.2 | (with_reducible refine Kd.C_alloc ?_ _) | (with_reducible refine Kd.C_drewN ?_ _) | (with_reducible refine Kd.C_drew ?_))); (case side4 => exact (Kd.S_reads' HO108.out).2.1); rintro e w' ⟨rfl, ⟨nd, rfl⟩⟩))
      go_meet
      case rel => exact ⟨_, (!t109), (by first | rfl | (simp; done) | (simp [*]; done)), H', ⟨by first | omega | exact Nat.le_refl _⟩, ⟨by (with_reducible repeat (first | apply Kd.S_alloc | apply Kd.S_drewN | apply Kd.S_drew)); exact Kd.S_mono HO104.out (fun _ hk => trivial)⟩, ⟨by repeat (first | (with_reducible first | exact HB.out | apply below_alloc | apply pw_below_drewN | apply below_drew1) | exact HB.out)⟩⟩
    · rw [if_neg c9] at H
      have c9b0 : (t102 == t106) = false := beq_eq_false_iff_ne.mpr c9
      have c9b1 : (t102 != t106) = true := bne_iff_ne.mpr c9
      (first | rw [c9b0] | (simp only [i64_w, i32_w]; rw [c9b0]) | skip)
      have H' := Aside0.mk H
      clear H
      go_wp2
      go_meet
      case rel => exact ⟨_, (true), (by first | rfl | (simp; done) | (simp [*]; done)), H', ⟨by first | omega | exact Nat.le_refl _⟩, ⟨by (with_reducible repeat (first | apply Kd.S_alloc | apply Kd.S_drewN | apply Kd.S_drew)); exact Kd.S_mono HO104.out (fun _ hk => trivial)⟩, ⟨by repeat (first | (with_reducible first | exact HB.out | apply below_alloc | apply pw_below_drewN | apply below_drew1) | exact HB.out)⟩⟩
  case rest =>
    clear HC6
    try clear c1
    try clear c2
    try clear p2
    try clear c7
    try clear c9
    try clear c9b0
    try clear c9b1
    obtain ⟨kq, x39_5, rfl, HA, HJ5, HO_7, HB⟩ := hcut
    cases kq with
    | zero => exact absurd HA.out (by simp [mooringlaw02_MatrixCauchy.j0])
    | succ kj5 =>
      have H := HA.out
      clear HA
      simp only [mooringlaw02_MatrixCauchy.j0] at H
      by_cases c13 : x39_5 = true
      · subst c13
        have H1 : (some false) = some r := by rw [if_pos rfl] at H; exact H
        clear H
        have H := H1
        clear H1
        obtain rfl := Option.some.inj H
        go_wp2
        go_ret
        exact ⟨by first | rfl | (simp [errW_none, errW_some] <;> rfl) | (simp [*, errW_none, errW_some] <;> rfl), by repeat (first | (with_reducible first | exact HB.out | apply below_alloc | apply pw_below_drewN | apply below_drew1) | exact HB.out)⟩
      · replace c13 := Bool.eq_false_iff.mpr c13
        subst c13
        have H1 : (if t102 = 0 then (mooringlaw02_MatrixCauchy.j1 kj5 a0 a1 l2 t101 (decide (a0 > 24))) else (mooringlaw02_MatrixCauchy.j1 kj5 a0 a1 l2 t101 true)) = some r := by rw [if_neg (show ¬ (false = true) by decide)] at H; exact H
        clear H
        have H := H1
        clear H1
        have HC14 := Aside0.mk H
        clear H
        go_upto_region 5 with (fail)
        go_cut [45] (fun v45 wc => ∃ (kq : Nat) (x45_13 : Bool), v45 = .bool x45_13 ∧ Aside0 (mooringlaw02_MatrixCauchy.j1 kq a0 a1 l2 t101 x45_13 = some r) ∧ Aside0 (kq ≤ kj5) ∧ Aside0 (Kd.S (Kd.slice 5 (Kd.int .u8)) 22 wc w.heap.size (fun _ => True) v103 t101) ∧ Aside0 (Below w.heap.size w wc))
        case first =>
          have H := HC14.out
          clear HC14
          by_cases c15 : t102 = 0
          · rw [if_pos c15] at H
            have c15b0 : (t102 == 0) = true := beq_iff_eq.mpr c15
            have c15b1 : (t102 != 0) = false := bne_eq_false_iff_eq.mpr c15
            clear c15
            (first | rw [c15b0] | (simp only [i64_w, i32_w]; rw [c15b0]) | skip)
            have H' := Aside0.mk H
            clear H
            go_wp2
            go_meet
            case rel => exact ⟨_, (decide (a0 > 24)), (by first | rfl | (simp; done) | (simp [*]; done)), H', ⟨by have := HJ5.out; first | omega | exact Nat.le_refl _⟩, ⟨by (with_reducible repeat (first | apply Kd.S_alloc | apply Kd.S_drewN | apply Kd.S_drew)); exact HO_7.out⟩, ⟨by repeat (first | (with_reducible first | exact HB.out | apply below_alloc | apply pw_below_drewN | apply below_drew1) | exact HB.out)⟩⟩
          · rw [if_neg c15] at H
            have c15b0 : (t102 == 0) = false := beq_eq_false_iff_ne.mpr c15
            have c15b1 : (t102 != 0) = true := bne_iff_ne.mpr c15
            (first | rw [c15b0] | (simp only [i64_w, i32_w]; rw [c15b0]) | skip)
            have H' := Aside0.mk H
            clear H
            go_wp2
            go_meet
            case rel => exact ⟨_, (true), (by first | rfl | (simp; done) | (simp [*]; done)), H', ⟨by have := HJ5.out; first | omega | exact Nat.le_refl _⟩, ⟨by (with_reducible repeat (first | apply Kd.S_alloc | apply Kd.S_drewN | apply Kd.S_drew)); exact HO_7.out⟩, ⟨by repeat (first | (with_reducible first | exact HB.out | apply below_alloc | apply pw_below_drewN | apply below_drew1) | exact HB.out)⟩⟩
        case rest =>
          clear HC14
          try clear c1
          try clear c2
          try clear p2
          try clear c7
          try clear c9
          try clear c9b0
          try clear c9b1
          try clear c13
          try clear c15
          try clear c15b0
          try clear c15b1
          try clear p2
          obtain ⟨kq, x45_13, rfl, HA, HJ13, HO_7, HB⟩ := hcut
          cases kq with
          | zero => exact absurd HA.out (by simp [mooringlaw02_MatrixCauchy.j1])
          | succ kj13 =>
            have H := HA.out
            clear HA
            simp only [mooringlaw02_MatrixCauchy.j1] at H
            by_cases c16 : x45_13 = true
            · subst c16
              have H1 : ((mooringlaw02_awake.f).bind fun t110 => (some t110)) = some r := by rw [if_pos rfl] at H; exact H
              clear H
              have H := H1
              clear H1
              replace H := Option.bind_eq_some_iff.mp H
              obtain ⟨t110, A170, H⟩ := H
              replace H : (some t110) = some r := H
              have A17 := Aside0.mk A170
              clear A170
              obtain rfl := Option.some.inj H
              go_wp2_with (first | ((with_reducible refine gate_callee (f := 51) rfl ?_); refine goesL_ (some 46) rfl rfl Try.func51 (by kernel_rfl) rfl #[] rfl (by (try simp only [List.map_toArray, List.map_cons, List.map_nil]); first | done | rfl | (simp only [List.length_drop, List.length_take]; rfl)) ?_; (with_reducible refine (mooringlaw02_awake.calls  t110 _ A17.out).mono ?_); rintro e w18 ⟨rfl, hb⟩; refine ⟨_, rfl, ?_⟩; have n0_ := Aside0.mk (Kd.S_below (by (with_reducible repeat (first | apply Kd.S_alloc | apply Kd.S_drewN | apply Kd.S_drew)); exact HO_7.out) hb); have n1_ := Aside0.mk (below_step (by repeat (first | (with_reducible first | exact HB.out | apply below_alloc | apply pw_below_drewN | apply below_drew1) | exact HB.out)) hb); clear HO_7; clear HB; have HO_7 := n0_; have HB := n1_; clear n0_ n1_; (try clear hb); (try clear hb2); (try clear hk); (try clear hi)))
              go_ret
              exact ⟨by first | rfl | (simp [errW_none, errW_some] <;> rfl) | (simp [*, errW_none, errW_some] <;> rfl), by repeat (first | (with_reducible first | exact HB.out | apply below_alloc | apply pw_below_drewN | apply below_drew1) | exact HB.out)⟩
            · replace c16 := Bool.eq_false_iff.mpr c16
              subst c16
              have H1 : (if 0 ≤ (wrap64 (a0 + a1)) then (if (wrap64 (a0 + a1) : Int).toNat ≤ 281474976710656 then (mooringlaw02_MatrixCauchy.l0 kj13 a0 a1 l2 t101 (([] : List Int)) (List.replicate (wrap64 (a0 + a1) : Int).toNat false) 0 0) else (none)) else (none)) = some r := by rw [if_neg (show ¬ (false = true) by decide)] at H; exact H
              clear H
              have H := H1
              clear H1
              obtain ⟨y111, hy111⟩ : ∃ y_ : List Int, y_ = (([] : List Int)) := ⟨_, rfl⟩
              replace H : (if 0 ≤ (wrap64 (a0 + a1)) then (if (wrap64 (a0 + a1) : Int).toNat ≤ 281474976710656 then (mooringlaw02_MatrixCauchy.l0 kj13 a0 a1 l2 t101 y111 (List.replicate (wrap64 (a0 + a1) : Int).toNat false) 0 0) else (none)) else (none)) = some r := by first | (rw [hy111]; with_reducible exact H) | (have H2_ := (Option.bind_some _ _).symm.trans H; rw [hy111]; with_reducible exact H2_) | (have H2_ := (Option.bind_some _ _).symm.trans H; with_reducible exact H2_) | with_reducible exact H | (rw [hy111]; exact H) | exact H
              have Ny111 := Aside0.mk hy111
              clear hy111
              obtain ⟨ji19, hji19⟩ : ∃ j_ : Int, (wrap64 (a0 + a1)) = j_ := ⟨_, rfl⟩
              replace H : (if 0 ≤ (ji19) then (if (ji19 : Int).toNat ≤ 281474976710656 then (mooringlaw02_MatrixCauchy.l0 kj13 a0 a1 l2 t101 y111 (List.replicate (ji19 : Int).toNat false) 0 0) else (none)) else (none)) = some r := by first | (rw [hji19] at H; exact H) | (simp only [hji19] at H ⊢; exact H)
              have hji19w : (IntKind.i64.wrap (a0 + a1)) = ji19 := (i64_w _).trans hji19
              by_cases c20 : 0 ≤ (ji19)
              · rw [if_pos c20] at H
                have c20b0 := eq_true c20
                have c20b1 : decide (0 ≤ (ji19)) = true := decide_eq_true c20
                clear c20
                by_cases c21 : (ji19 : Int).toNat ≤ 281474976710656
                · rw [if_pos c21] at H
                  have c21b0 := eq_true c21
                  have c21b1 : decide ((ji19 : Int).toNat ≤ 281474976710656) = true := decide_eq_true c21
                  clear c21
                  obtain ⟨y114, hy114⟩ : ∃ y_ : List Bool, y_ = (List.replicate (ji19 : Int).toNat false) := ⟨_, rfl⟩
                  replace H : (mooringlaw02_MatrixCauchy.l0 kj13 a0 a1 l2 t101 y111 y114 0 0) = some r := by first | (rw [hy114]; with_reducible exact H) | (have H2_ := (Option.bind_some _ _).symm.trans H; rw [hy114]; with_reducible exact H2_) | (have H2_ := (Option.bind_some _ _).symm.trans H; with_reducible exact H2_) | with_reducible exact H | (rw [hy114]; exact H) | exact H
                  have Ny114 := Aside0.mk hy114
                  clear hy114
                  have H' := Aside0.mk H
                  clear H
                  go_wp2_with (first | ((with_reducible refine gate_dst (N := 47) rfl ?_); refine Kd.R_lit (Kd.int .i64) _ 3 ?hg (N := 47) ?hd (xs := ([] : List Int)) (inner := []) (ok := fun _ => True) (okp := fun _ => True) ?hr ?hp (fun _ hk => hk) trivial (Below.refl _ _) (Nat.le_refl _) (by simp) ?_; (case hd => rfl); (case hg => rfl); (case hr => first | (go_simp; done) | (go_simp; rfl)); (case hp => exact (Reps.none _ _)); intro v112 w22 ho23 hb hg_ hnew_; clear hg_ hnew_; (first | rw [← Ny111.out] at ho23 | (simp only [Int.reduceToNat] at ho23; rw [← Ny111.out] at ho23)); have n0_ := Aside0.mk (Kd.S_below (by (with_reducible repeat (first | apply Kd.S_alloc | apply Kd.S_drewN | apply Kd.S_drew)); exact HO_7.out) hb); have n1_ := Aside0.mk (Kd.R_lower ho23 (below_size (by repeat (first | (with_reducible first | exact HB.out | apply below_alloc | apply pw_below_drewN | apply below_drew1) | exact HB.out)))); have n2_ := Aside0.mk (below_step (by repeat (first | (with_reducible first | exact HB.out | apply below_alloc | apply pw_below_drewN | apply below_drew1) | exact HB.out)) hb); clear HO_7; clear HB; have HO_7 := n0_; have HO113 := n1_; have HB := n2_; clear n0_ n1_ n2_; clear hb ho23) | ((with_reducible refine gate_dst (N := 51) rfl ?_); refine Kd.R_make Kd.bool _ 4 rfl (N := 51) rfl 78 _ _ rfl ji19 rfl rfl Try.underlying78 (.bool false) 1 info4 rfl (by decide) (by omega) false (ok := fun _ => True) (okp := fun _ => True) rfl (fun _ hk => hk) trivial (of_decide_eq_true (by first | (with_reducible assumption) | assumption)) (Nat.le_trans (Nat.mul_le_mul_right _ (of_decide_eq_true (by first | (with_reducible assumption) | assumption) : ji19.toNat ≤ 281474976710656)) (by omega)) (Below.refl _ _) (Nat.le_refl _) ?_; intro v115 w24 ho25 hb hg_ hnew_; clear hg_ hnew_; (first | rw [← Ny114.out] at ho25 | (simp only [Int.reduceToNat] at ho25; rw [← Ny114.out] at ho25)); have n0_ := Aside0.mk (Kd.S_below (by (with_reducible repeat (first | apply Kd.S_alloc | apply Kd.S_drewN | apply Kd.S_drew)); exact HO_7.out) hb); have n1_ := Aside0.mk (Kd.R_below (by (with_reducible repeat (first | apply Kd.R_alloc | apply Kd.R_drewN | apply Kd.R_drew)); exact HO113.out) hb); have n2_ := Aside0.mk (Kd.R_lower ho25 (below_size (by repeat (first | (with_reducible first | exact HB.out | apply below_alloc | apply pw_below_drewN | apply below_drew1) | exact HB.out)))); have n3_ := Aside0.mk (below_step (by repeat (first | (with_reducible first | exact HB.out | apply below_alloc | apply pw_below_drewN | apply below_drew1) | exact HB.out)) hb); clear HO_7; clear HO113; clear HB; have HO_7 := n0_; have HO113 := n1_; have HO116 := n2_; have HB := n3_; clear n0_ n1_ n2_ n3_; clear hb ho25))
                  go_loopg [11, 13, 14] kj13 (fun kq v11 v13 v14 w' => ∃ (x11_3 : List Int) (x12_3 : List Bool) (x13_3 : Int) (x14_3 : Int), v13 = .int .i64 x13_3 ∧ v14 = .int .i64 x14_3 ∧ Aside0 (mooringlaw02_MatrixCauchy.l0 kq a0 a1 l2 t101 x11_3 x12_3 x13_3 x14_3 = some r) ∧ Aside0 (kq ≤ kj13) ∧ Aside0 (Kd.S (Kd.slice 5 (Kd.int .u8)) 22 w' w.heap.size (fun _ => True) v103 t101) ∧ Aside0 (Kd.R (Kd.int .i64) 3 w' w.heap.size (fun _ => True) v11 x11_3) ∧ Aside0 (Kd.R Kd.bool 4 w' w.heap.size (fun _ => True) v115 x12_3) ∧ Aside0 (Below w.heap.size w w'))
                  case atStart => exact ⟨(y111), (y114), (0), (0), (by first | rfl | (simp; done) | (simp [*]; done)), (by first | rfl | (simp; done) | (simp [*]; done)), H', ⟨Nat.le_refl _⟩, ⟨by (with_reducible repeat (first | apply Kd.S_alloc | apply Kd.S_drewN | apply Kd.S_drew)); exact HO_7.out⟩, ⟨by (with_reducible repeat (first | apply Kd.R_alloc | apply Kd.R_drewN | apply Kd.R_drew)); exact HO113.out⟩, ⟨by (with_reducible repeat (first | apply Kd.R_alloc | apply Kd.R_drewN | apply Kd.R_drew)); exact HO116.out⟩, ⟨by repeat (first | (with_reducible first | exact HB.out | apply below_alloc | apply pw_below_drewN | apply below_drew1) | exact HB.out)⟩⟩
                  case round =>
                    clear H'
                    try clear c1
                    try clear c2
                    try clear p2
                    try clear c5
                    try clear p6
                    try clear c7
                    try clear c9
                    try clear c9b0
                    try clear c9b1
                    try clear c13
                    try clear c15
                    try clear c15b0
                    try clear c15b1
                    try clear c16
                    try clear c17
                    try clear c20
                    try clear c20b0
                    try clear c20b1
                    try clear c21
                    try clear c21b0
                    try clear c21b1
                    try clear p2
                    obtain ⟨x11_3, x12_3, x13_3, x14_3, rfl, rfl, HA, HK3, HO_7, HO_11, HO_12, HB⟩ := hrel
                    cases gk with
                    | zero => exact absurd HA.out (by simp [mooringlaw02_MatrixCauchy.l0])
                    | succ k3 =>
                      have H := HA.out
                      clear HA
                      simp only [mooringlaw02_MatrixCauchy.l0] at H
                      by_cases c26 : (x11_3.length : Int) < a0
                      · rw [if_pos c26] at H
                        have c26b0 : decide ((x11_3.length : Int) < a0) = true := decide_eq_true c26
                        clear c26
                        have HC27 := Aside0.mk H
                        clear H
                        obtain ⟨Ao28, co28, eo28⟩ := Kd.R_slice HO_11.out
                        subst eo28
                        go_upto_if 61 with (fail)
                        go_cut [13] (fun v13 wc => ∃ (kq : Nat) (x13_26 : Int), v13 = .int .i64 x13_26 ∧ Aside0 (mooringlaw02_MatrixCauchy.j3 kq a0 a1 l2 t101 x11_3 x12_3 x13_26 x14_3 = some r) ∧ Aside0 (kq ≤ k3) ∧ Aside0 (Kd.S (Kd.slice 5 (Kd.int .u8)) 22 wc w.heap.size (fun _ => True) v103 t101) ∧ Aside0 (Kd.R (Kd.int .i64) 3 wc w.heap.size (fun _ => True) (.slice Ao28 x11_3.length co28) x11_3) ∧ Aside0 (Kd.R Kd.bool 4 wc w.heap.size (fun _ => True) v115 x12_3) ∧ Aside0 (Below w.heap.size w wc))
                        case first =>
                          have H := HC27.out
                          clear HC27
                          by_cases c29 : x14_3 < (l2.length : Int)
                          · rw [if_pos c29] at H
                            have c29b0 : decide (x14_3 < (l2.length : Int)) = true := decide_eq_true c29
                            clear c29
                            (first | rw [c29b0] | (simp only [i64_w, i32_w]; rw [c29b0]) | skip)
                            by_cases c30 : 0 ≤ x14_3
                            · rw [if_pos c30] at H
                              have c30b0 : decide (0 ≤ x14_3) = true := decide_eq_true c30
                              clear c30
                              have H' := Aside0.mk H
                              clear H
                              have p117 : 0 ≤ (x14_3 : Int) := of_decide_eq_true (by first | (with_reducible assumption) | assumption)
                              have q117 : x14_3 < (l2.length : Int) := of_decide_eq_true (by first | (with_reducible assumption) | assumption)
                              obtain ⟨ad117, e117, hx117_0⟩ := Kd.at_int HR2.out x14_3 p117 q117
                              cases e117
                              replace hx117_0 := (HB.out.cell (World.block_lt_of_cell? w _ hx117_0)).trans hx117_0
                              replace p117 := eq_true p117
                              replace q117 := eq_true q117
                              go_wp2
                              go_meet
                              case rel => exact ⟨_, (wrap64 (x13_3 + (wrap64 (rd l2 x14_3)))), (by first | rfl | (simp; done) | (simp [*]; done)), (by first | exact H' | (simp only [hji19]; exact H')), ⟨by have := HJ5.out; have := HJ13.out; have := HK3.out; first | omega | exact Nat.le_refl _⟩, ⟨by (with_reducible repeat (first | apply Kd.S_alloc | apply Kd.S_drewN | apply Kd.S_drew)); exact HO_7.out⟩, ⟨by (with_reducible repeat (first | apply Kd.R_alloc | apply Kd.R_drewN | apply Kd.R_drew)); exact HO_11.out⟩, ⟨by (with_reducible repeat (first | apply Kd.R_alloc | apply Kd.R_drewN | apply Kd.R_drew)); exact HO_12.out⟩, ⟨by repeat (first | (with_reducible first | exact HB.out | apply below_alloc | apply pw_below_drewN | apply below_drew1) | exact HB.out)⟩⟩
                            · rw [if_neg c30] at H
                              exact absurd H (by simp)
                          · rw [if_neg c29] at H
                            have c29b0 : decide (x14_3 < (l2.length : Int)) = false := decide_eq_false c29
                            clear c29
                            (first | rw [c29b0] | (simp only [i64_w, i32_w]; rw [c29b0]) | skip)
                            have H' := Aside0.mk H
                            clear H
                            go_wp2
                            go_meet
                            case rel => exact ⟨_, (x13_3), (by first | rfl | (simp; done) | (simp [*]; done)), (by first | exact H' | (simp only [hji19]; exact H')), ⟨by have := HJ5.out; have := HJ13.out; have := HK3.out; first | omega | exact Nat.le_refl _⟩, ⟨by (with_reducible repeat (first | apply Kd.S_alloc | apply Kd.S_drewN | apply Kd.S_drew)); exact HO_7.out⟩, ⟨by (with_reducible repeat (first | apply Kd.R_alloc | apply Kd.R_drewN | apply Kd.R_drew)); exact HO_11.out⟩, ⟨by (with_reducible repeat (first | apply Kd.R_alloc | apply Kd.R_drewN | apply Kd.R_drew)); exact HO_12.out⟩, ⟨by repeat (first | (with_reducible first | exact HB.out | apply below_alloc | apply pw_below_drewN | apply below_drew1) | exact HB.out)⟩⟩
                        case rest =>
                          clear HC27
                          try clear c1
                          try clear p1
                          try clear q1
                          try clear hx1
                          try clear c2
                          try clear p2
                          try clear c3
                          try clear c5
                          try clear p6
                          try clear c7
                          try clear c9
                          try clear c9b0
                          try clear c9b1
                          try clear p11
                          try clear q11
                          try clear hx11
                          try clear c13
                          try clear c15
                          try clear c15b0
                          try clear c15b1
                          try clear c16
                          try clear c17
                          try clear c20
                          try clear c20b0
                          try clear c20b1
                          try clear c21
                          try clear c21b0
                          try clear c21b1
                          try clear c26
                          try clear c26b0
                          try clear c29
                          try clear c29b0
                          try clear c30
                          try clear c30b0
                          try clear hx117_0
                          try clear p117
                          try clear p2
                          try clear p6
                          try clear q117
                          obtain ⟨kq, x13_26, rfl, HA, HJ26, HO_7, HO_11, HO_12, HB⟩ := hcut
                          cases kq with
                          | zero => exact absurd HA.out (by simp [mooringlaw02_MatrixCauchy.j3])
                          | succ kj26 =>
                            have H := HA.out
                            clear HA
                            simp only [mooringlaw02_MatrixCauchy.j3] at H
                            by_cases c31 : (wrap64 (a0 + a1)) = 0
                            · rw [if_pos c31] at H
                              exact absurd H (by simp)
                            · rw [if_neg c31] at H
                              have c31b0 : ((wrap64 (a0 + a1)) == 0) = false := beq_eq_false_iff_ne.mpr c31
                              have c31b1 : ((wrap64 (a0 + a1)) != 0) = true := bne_iff_ne.mpr c31
                              have H' := Aside0.mk H
                              clear H
                              go_wp2
                              go_loopg [13] kj26 (fun kq v13 w' => ∃ (x13_5 : Int), v13 = .int .i64 x13_5 ∧ Aside0 (mooringlaw02_MatrixCauchy.l1 kq a0 a1 l2 t101 x11_3 x12_3 x13_5 x14_3 = some r) ∧ Aside0 (kq ≤ kj26) ∧ Aside0 (Kd.S (Kd.slice 5 (Kd.int .u8)) 22 w' w.heap.size (fun _ => True) v103 t101) ∧ Aside0 (Kd.R (Kd.int .i64) 3 w' w.heap.size (fun _ => True) (.slice Ao28 x11_3.length co28) x11_3) ∧ Aside0 (Kd.R Kd.bool 4 w' w.heap.size (fun _ => True) v115 x12_3) ∧ Aside0 (Below w.heap.size w w'))
                              case atStart => exact ⟨(Int.tmod x13_26 (wrap64 (a0 + a1))), (by first | rfl | (simp; done) | (simp [*]; done)), H', ⟨Nat.le_refl _⟩, ⟨by (with_reducible repeat (first | apply Kd.S_alloc | apply Kd.S_drewN | apply Kd.S_drew)); exact HO_7.out⟩, ⟨by (with_reducible repeat (first | apply Kd.R_alloc | apply Kd.R_drewN | apply Kd.R_drew)); exact HO_11.out⟩, ⟨by (with_reducible repeat (first | apply Kd.R_alloc | apply Kd.R_drewN | apply Kd.R_drew)); exact HO_12.out⟩, ⟨by repeat (first | (with_reducible first | exact HB.out | apply below_alloc | apply pw_below_drewN | apply below_drew1) | exact HB.out)⟩⟩
                              case round =>
                                clear H'
                                try clear c1
                                try clear p1
                                try clear q1
                                try clear hx1
                                try clear c2
                                try clear p2
                                try clear c3
                                try clear c5
                                try clear p6
                                try clear c7
                                try clear c9
                                try clear c9b0
                                try clear c9b1
                                try clear p11
                                try clear q11
                                try clear hx11
                                try clear c13
                                try clear c15
                                try clear c15b0
                                try clear c15b1
                                try clear c16
                                try clear c17
                                try clear c20
                                try clear c20b0
                                try clear c20b1
                                try clear c21
                                try clear c21b0
                                try clear c21b1
                                try clear c26
                                try clear c26b0
                                try clear c29
                                try clear c29b0
                                try clear c30
                                try clear c30b0
                                try clear c31
                                try clear c31b0
                                try clear c31b1
                                try clear hx117_0
                                try clear p1
                                try clear p11
                                try clear p117
                                try clear p2
                                try clear p6
                                try clear q1
                                try clear q11
                                try clear q117
                                obtain ⟨x13_5, rfl, HA, HK5, HO_7, HO_11, HO_12, HB⟩ := hrel
                                cases gk with
                                | zero => exact absurd HA.out (by simp [mooringlaw02_MatrixCauchy.l1])
                                | succ k5 =>
                                  have H := HA.out
                                  clear HA
                                  simp only [mooringlaw02_MatrixCauchy.l1] at H
                                  by_cases c32 : 0 ≤ x13_5
                                  · rw [if_pos c32] at H
                                    have c32b0 : decide (0 ≤ x13_5) = true := decide_eq_true c32
                                    clear c32
                                    by_cases c33 : x13_5 < (x12_3.length : Int)
                                    · rw [if_pos c33] at H
                                      have c33b0 : decide (x13_5 < (x12_3.length : Int)) = true := decide_eq_true c33
                                      clear c33
                                      obtain ⟨bq34, hbq34⟩ : ∃ b_ : Bool, b_ = (rdOf false x12_3 x13_5) := ⟨_, rfl⟩
                                      replace H : (if bq34 = true then (if (wrap64 (a0 + a1)) = 0 then (none) else (mooringlaw02_MatrixCauchy.l1 k5 a0 a1 l2 t101 x11_3 x12_3 (Int.tmod (wrap64 (x13_5 + 1)) (wrap64 (a0 + a1))) x14_3)) else (if x11_3.length < 17592186044416 then (mooringlaw02_MatrixCauchy.l0 k5 a0 a1 l2 t101 (x11_3 ++ [x13_5]) (x12_3.set (x13_5 : Int).toNat true) x13_5 (wrap64 (x14_3 + 1))) else (none))) = some r := by rw [← hbq34] at H; exact H
                                      have Nbq34 := Aside0.mk hbq34
                                      clear hbq34
                                      by_cases c35 : bq34 = true
                                      · subst c35
                                        have H1 : (if (wrap64 (a0 + a1)) = 0 then (none) else (mooringlaw02_MatrixCauchy.l1 k5 a0 a1 l2 t101 x11_3 x12_3 (Int.tmod (wrap64 (x13_5 + 1)) (wrap64 (a0 + a1))) x14_3)) = some r := by rw [if_pos rfl] at H; exact H
                                        clear H
                                        have H := H1
                                        clear H1
                                        by_cases c36 : (wrap64 (a0 + a1)) = 0
                                        · rw [if_pos c36] at H
                                          exact absurd H (by simp)
                                        · rw [if_neg c36] at H
                                          have c36b0 : ((wrap64 (a0 + a1)) == 0) = false := beq_eq_false_iff_ne.mpr c36
                                          have c36b1 : ((wrap64 (a0 + a1)) != 0) = true := bne_iff_ne.mpr c36
                                          have H' := Aside0.mk H
                                          clear H
                                          obtain ⟨Ao37, co37, eo37⟩ := Kd.R_slice HO_12.out
                                          subst eo37
                                          have p118 : 0 ≤ (x13_5 : Int) := of_decide_eq_true (by first | (with_reducible assumption) | assumption)
                                          have q118 : x13_5 < (x12_3.length : Int) := of_decide_eq_true (by first | (with_reducible assumption) | assumption)
                                          obtain ⟨ad118, e118, hx118_0⟩ := Kd.at_bool (Kd.R_reads' HO_12.out).2.2 x13_5 p118 q118
                                          (try rw [← Nbq34.out] at hx118_0)
                                          cases e118
                                          replace p118 := eq_true p118
                                          replace q118 := eq_true q118
                                          go_wp2
                                          go_roundg k5
                                          case measure => have := HJ5.out; have := HJ13.out; have := HK3.out; have := HJ26.out; have := HK5.out; omega
                                          case rel => exact ⟨(Int.tmod (wrap64 (x13_5 + 1)) (wrap64 (a0 + a1))), (by first | rfl | (simp; done) | (simp [*]; done)), (by first | exact H' | (simp only [hji19]; exact H')), ⟨by have := HJ5.out; have := HJ13.out; have := HK3.out; have := HJ26.out; have := HK5.out; omega⟩, ⟨by (with_reducible repeat (first | apply Kd.S_alloc | apply Kd.S_drewN | apply Kd.S_drew)); exact HO_7.out⟩, ⟨by (with_reducible repeat (first | apply Kd.R_alloc | apply Kd.R_drewN | apply Kd.R_drew)); exact HO_11.out⟩, ⟨by (with_reducible repeat (first | apply Kd.R_alloc | apply Kd.R_drewN | apply Kd.R_drew)); exact HO_12.out⟩, ⟨by repeat (first | (with_reducible first | exact HB.out | apply below_alloc | apply pw_below_drewN | apply below_drew1) | exact HB.out)⟩⟩
                                      · replace c35 := Bool.eq_false_iff.mpr c35
                                        subst c35
                                        have H1 : (if x11_3.length < 17592186044416 then (mooringlaw02_MatrixCauchy.l0 k5 a0 a1 l2 t101 (x11_3 ++ [x13_5]) (x12_3.set (x13_5 : Int).toNat true) x13_5 (wrap64 (x14_3 + 1))) else (none)) = some r := by rw [if_neg (show ¬ (false = true) by decide)] at H; exact H
                                        clear H
                                        have H := H1
                                        clear H1
                                        obtain ⟨y119, hy119⟩ : ∃ y_ : List Bool, y_ = (x12_3.set (x13_5 : Int).toNat true) := ⟨_, rfl⟩
                                        replace H : (if x11_3.length < 17592186044416 then (mooringlaw02_MatrixCauchy.l0 k5 a0 a1 l2 t101 (x11_3 ++ [x13_5]) y119 x13_5 (wrap64 (x14_3 + 1))) else (none)) = some r := by first | (rw [hy119]; with_reducible exact H) | (have H2_ := (Option.bind_some _ _).symm.trans H; rw [hy119]; with_reducible exact H2_) | (have H2_ := (Option.bind_some _ _).symm.trans H; with_reducible exact H2_) | with_reducible exact H | (rw [hy119]; exact H) | exact H
                                        have Ny119 := Aside0.mk hy119
                                        clear hy119
                                        by_cases c39 : x11_3.length < 17592186044416
                                        · rw [if_pos c39] at H
                                          have LMc39 := Aside0.mk c39
                                          clear c39
                                          obtain ⟨y120, hy120⟩ : ∃ y_ : List Int, y_ = (x11_3 ++ [x13_5]) := ⟨_, rfl⟩
                                          replace H : (mooringlaw02_MatrixCauchy.l0 k5 a0 a1 l2 t101 y120 y119 x13_5 (wrap64 (x14_3 + 1))) = some r := by first | (rw [hy120]; with_reducible exact H) | (have H2_ := (Option.bind_some _ _).symm.trans H; rw [hy120]; with_reducible exact H2_) | (have H2_ := (Option.bind_some _ _).symm.trans H; with_reducible exact H2_) | with_reducible exact H | (rw [hy120]; exact H) | exact H
                                          have Ny120 := Aside0.mk hy120
                                          clear hy120
                                          have H' := Aside0.mk H
                                          clear H
                                          obtain ⟨Ao40, co40, eo40⟩ := Kd.R_slice HO_12.out
                                          subst eo40
                                          have p118 : 0 ≤ (x13_5 : Int) := of_decide_eq_true (by first | (with_reducible assumption) | assumption)
                                          have q118 : x13_5 < (x12_3.length : Int) := of_decide_eq_true (by first | (with_reducible assumption) | assumption)
                                          obtain ⟨ad118, e118, hx118_0⟩ := Kd.at_bool (Kd.R_reads' HO_12.out).2.2 x13_5 p118 q118
                                          (try rw [← Nbq34.out] at hx118_0)
                                          cases e118
                                          replace p118 := eq_true p118
                                          replace q118 := eq_true q118
                                          have p38 : 0 ≤ (x13_5 : Int) := of_decide_eq_true (by first | (with_reducible assumption) | assumption)
                                          have q38 : (x13_5 : Int) < ((x12_3.length : Int) : Int) := of_decide_eq_true (by first | (with_reducible assumption) | assumption)
                                          obtain ⟨go38, co38, eo38, gb38, gl38, cl38, HG38⟩ := Kd.R_form HO_12.out (by omega)
                                          (first | cases eo38 | (injection eo38 with ea_ en_ ec_; (first | subst ea_ | (injection ea_ with ea_; subst ea_)); subst ec_; clear en_))
                                          have GB38 := Aside0.mk gb38
                                          have GG38 := Aside0.mk HG38
                                          clear gb38 gl38 HG38
                                          (first | simp only [add_plain] at hx118_0 | skip)
                                          obtain ⟨hx38_0, hf38_0⟩ := Kd.R_celln false HO_12.out (x13_5 : Int) p38 q38
                                          replace p38 := eq_true p38
                                          replace q38 := eq_true q38
                                          have HP41 := Kd.R_putg HO_12.out (x13_5 : Int) true
                                          go_wp2_with (first | ((with_reducible refine gate_store (t := 4) (p := 86) rfl ?_); refine store_event (t := 4) (p := 86) (v := ?vo_w42) (w1 := (wr.setCell ⟨go38, (x13_5 : Int).toNat, none⟩ (.bool true))) ?hg ?ho ?hn ?hr ?_; (case ho => rfl); (case hg => rfl); (case hn => rfl); (case hr => first | (go_simp; done) | (go_simp; rfl)); intro w42 hw; have hg : wr.grownBy w42 (some go38) := (by rw [hw]; exact HP41.2); have hp_ : Kd.R Kd.bool 4 w42 w.heap.size (fun _ => True) (.slice (some ⟨go38, 0, none⟩) x12_3.length co40) y119 := (by rw [hw, Ny119.out]; exact HP41.1); clear HP41; have n0_ := Aside0.mk (Kd.S_over' (v := (.slice (some ⟨go38, 0, none⟩) x12_3.length co40)) (by (with_reducible repeat (first | apply Kd.S_alloc | apply Kd.S_drewN | apply Kd.S_drew)); exact HO_7.out) (Kd.R_typed HO_12.out) (by decide) hg); have n1_ := Aside0.mk (Kd.R_over' (v := (.slice (some ⟨go38, 0, none⟩) x12_3.length co40)) (by (with_reducible repeat (first | apply Kd.R_alloc | apply Kd.R_drewN | apply Kd.R_drew)); exact HO_11.out) (Kd.R_typed HO_12.out) (by decide) hg); have n2_ := Aside0.mk (hp_); have n3_ := Aside0.mk ((by rw [hw]; exact below_set (HB.out) GB38.out : Below w.heap.size w w42)); clear HO_7; clear HO_11; clear HO_12; clear HB; have HO_7 := n0_; have HO_11 := n1_; have HO_12 := n2_; have HB := n3_; clear n0_ n1_ n2_ n3_; clear hg hw hp_) | ((with_reducible refine gate_builtin (b := .append) (xs := #[.tmp 87, .tmp 89]) rfl ?_); at_builtin; refine Kd.R_append (Kd.int .i64) (w0 := w) w.heap.size rfl (.tmp 87) (.tmp 89) 72 3 (.int .i64 0) 8 rfl Try.underlying72 info3 rfl (by decide) (by omega) (.slice Ao28 x11_3.length co28) x11_3 x13_5 [.int .i64 x13_5] (fun _ => True) (fun _ => False) rfl rfl ?aP (fun _ hk => hk.elim) ?aF ?aO ?aB ?aS ?aL ?_; (case aP => exact rfl); (case aB => exact (by repeat (first | (with_reducible first | exact HB.out | apply below_alloc | apply pw_below_drewN | apply below_drew1) | exact HB.out))); (case aF => exact (fun _ _ => trivial)); (case aO => exact (by (with_reducible repeat (first | apply Kd.R_alloc | apply Kd.R_drewN | apply Kd.R_drew)); exact HO_11.out)); (case aS => exact (below_size (by repeat (first | (with_reducible first | exact HB.out | apply below_alloc | apply pw_below_drewN | apply below_drew1) | exact HB.out)))); (case aL => have := LMc39.out; omega); intro v121 w43 ho hb hg hat; rw [← Ny120.out] at ho; have n0_ := Aside0.mk (Kd.S_over' (by (with_reducible repeat (first | apply Kd.S_alloc | apply Kd.S_drewN | apply Kd.S_drew)); exact HO_7.out) (Kd.R_typed (by (with_reducible repeat (first | apply Kd.R_alloc | apply Kd.R_drewN | apply Kd.R_drew)); exact HO_11.out)) (by decide) hg); have n1_ := Aside0.mk (Kd.R_over' (by (with_reducible repeat (first | apply Kd.R_alloc | apply Kd.R_drewN | apply Kd.R_drew)); exact HO_12.out) (Kd.R_typed (by (with_reducible repeat (first | apply Kd.R_alloc | apply Kd.R_drewN | apply Kd.R_drew)); exact HO_11.out)) (by decide) hg); have n2_ := Aside0.mk (hb); have n3_ := Aside0.mk (ho); clear HO_7; clear HO_12; clear HB; clear HO_11; have HO_7 := n0_; have HO_12 := n1_; have HB := n2_; have HO122 := n3_; clear n0_ n1_ n2_ n3_; clear ho hb hg hat))
                                          go_roundg k5
                                          case measure => have := HJ5.out; have := HJ13.out; have := HK3.out; have := HJ26.out; have := HK5.out; omega
                                          case rel => exact ⟨(y120), (y119), (x13_5), (wrap64 (x14_3 + 1)), (by first | rfl | (simp; done) | (simp [*]; done)), (by first | rfl | (simp; done) | (simp [*]; done)), (by first | exact H' | (simp only [hji19]; exact H')), ⟨by have := HJ5.out; have := HJ13.out; have := HK3.out; have := HJ26.out; have := HK5.out; omega⟩, ⟨by (with_reducible repeat (first | apply Kd.S_alloc | apply Kd.S_drewN | apply Kd.S_drew)); exact HO_7.out⟩, ⟨by (with_reducible repeat (first | apply Kd.R_alloc | apply Kd.R_drewN | apply Kd.R_drew)); exact HO122.out⟩, ⟨by (with_reducible repeat (first | apply Kd.R_alloc | apply Kd.R_drewN | apply Kd.R_drew)); exact HO_12.out⟩, ⟨by repeat (first | (with_reducible first | exact HB.out | apply below_alloc | apply pw_below_drewN | apply below_drew1) | exact HB.out)⟩⟩
                                        · rw [if_neg c39] at H
                                          exact absurd H (by simp)
                                    · rw [if_neg c33] at H
                                      exact absurd H (by simp)
                                  · rw [if_neg c32] at H
                                    exact absurd H (by simp)
                      · rw [if_neg c26] at H
                        have c26b0 : decide ((x11_3.length : Int) < a0) = false := decide_eq_false c26
                        clear c26
                        replace H := Option.bind_eq_some_iff.mp H
                        obtain ⟨⟨t123, t124⟩, A440, H⟩ := H
                        replace H : ((matrix_Inverse.f t123).bind fun bt127 => ((mooringref02_Mul.f k3 t123 bt127.1).bind fun bt131 => (if t124 = 0 then (if bt127.2 = 0 then (if bt131.2 = 0 then ((mooringref02_Identity.f k3 a0).bind fun t135 => ((mooringref02_Same.f k3 bt131.1 t135).bind fun t138 => (if t138 = true then ((mooringlaw02_awake.f).bind fun t139 => (some t139)) else (some false)))) else (some false)) else (some false)) else (some false)))) = some r := H
                        have A44 := Aside0.mk A440
                        clear A440
                        replace H := Option.bind_eq_some_iff.mp H
                        obtain ⟨⟨t127, t128⟩, A450, H⟩ := H
                        replace H : ((mooringref02_Mul.f k3 t123 t127).bind fun bt131 => (if t124 = 0 then (if t128 = 0 then (if bt131.2 = 0 then ((mooringref02_Identity.f k3 a0).bind fun t135 => ((mooringref02_Same.f k3 bt131.1 t135).bind fun t138 => (if t138 = true then ((mooringlaw02_awake.f).bind fun t139 => (some t139)) else (some false)))) else (some false)) else (some false)) else (some false))) = some r := H
                        have A45 := Aside0.mk A450
                        clear A450
                        replace H := Option.bind_eq_some_iff.mp H
                        obtain ⟨⟨t131, t132⟩, A460, H⟩ := H
                        replace H : (if t124 = 0 then (if t128 = 0 then (if t132 = 0 then ((mooringref02_Identity.f k3 a0).bind fun t135 => ((mooringref02_Same.f k3 t131 t135).bind fun t138 => (if t138 = true then ((mooringlaw02_awake.f).bind fun t139 => (some t139)) else (some false)))) else (some false)) else (some false)) else (some false)) = some r := H
                        have A46 := Aside0.mk A460
                        clear A460
                        by_cases c47 : t124 = 0
                        · rw [if_pos c47] at H
                          have c47b0 : (t124 == 0) = true := beq_iff_eq.mpr c47
                          have c47b1 : (t124 != 0) = false := bne_eq_false_iff_eq.mpr c47
                          clear c47
                          by_cases c48 : t128 = 0
                          · rw [if_pos c48] at H
                            have c48b0 : (t128 == 0) = true := beq_iff_eq.mpr c48
                            have c48b1 : (t128 != 0) = false := bne_eq_false_iff_eq.mpr c48
                            clear c48
                            by_cases c49 : t132 = 0
                            · rw [if_pos c49] at H
                              have c49b0 : (t132 == 0) = true := beq_iff_eq.mpr c49
                              have c49b1 : (t132 != 0) = false := bne_eq_false_iff_eq.mpr c49
                              clear c49
                              replace H := Option.bind_eq_some_iff.mp H
                              obtain ⟨t135, A500, H⟩ := H
                              replace H : ((mooringref02_Same.f k3 t131 t135).bind fun t138 => (if t138 = true then ((mooringlaw02_awake.f).bind fun t139 => (some t139)) else (some false))) = some r := H
                              have A50 := Aside0.mk A500
                              clear A500
                              replace H := Option.bind_eq_some_iff.mp H
                              obtain ⟨t138, A510, H⟩ := H
                              replace H : (if t138 = true then ((mooringlaw02_awake.f).bind fun t139 => (some t139)) else (some false)) = some r := H
                              have A51 := Aside0.mk A510
                              clear A510
                              by_cases c52 : t138 = true
                              · subst c52
                                have H1 : ((mooringlaw02_awake.f).bind fun t139 => (some t139)) = some r := by rw [if_pos rfl] at H; exact H
                                clear H
                                have H := H1
                                clear H1
                                replace H := Option.bind_eq_some_iff.mp H
                                obtain ⟨t139, A530, H⟩ := H
                                replace H : (some t139) = some r := H
                                have A53 := Aside0.mk A530
                                clear A530
                                obtain rfl := Option.some.inj H
                                obtain ⟨Ao54, co54, eo54⟩ := Kd.R_slice HO_11.out
                                subst eo54
                                obtain ⟨Ao55, co55, eo55⟩ := Kd.S_slice HO_7.out
                                subst eo55
                                go_wp2_with (first | ((with_reducible refine gate_callee (f := 69) rfl ?_); refine goesL_ (some 94) rfl rfl Try.func69 (by kernel_rfl) rfl #[.slice Ao55 t101.length co55, .slice Ao54 x11_3.length co54] rfl (by (try simp only [List.map_toArray, List.map_cons, List.map_nil]); first | done | rfl | (simp only [List.length_drop, List.length_take]; rfl)) ?_; (with_reducible refine (matrix_Rows.calls k3 _ _ t101 _ _ x11_3 t123 t124 _ ?side1 ?side2 ?side3 ?side4 A44.out).mono ?_); (case side1 => repeat (first | exact (Kd.S_reads' HO_7.out).2.2 | (with_reducible refine Kd.C_alloc ?_ _) | (with_reducible refine Kd.C_drewN ?_ _) | (with_reducible refine Kd.C_drew ?_))); (case side2 => exact (Kd.S_reads' HO_7.out).2.1); (case side3 => repeat (first | exact (Kd.R_reads' HO_11.out).2.2 | (with_reducible refine Kd.C_alloc ?_ _) | (with_reducible refine Kd.C_drewN ?_ _) | (with_reducible refine Kd.C_drew ?_))); (case side4 => exact (Kd.R_reads' HO_11.out).2.1); rintro e w56 ⟨v125, rfl, ho0, hb⟩; refine ⟨_, rfl, ?_⟩; have n0_ := Aside0.mk (Kd.S_elder' (by (with_reducible repeat (first | apply Kd.S_alloc | apply Kd.S_drewN | apply Kd.S_drew)); exact HO_7.out) (Kd.S_base ho0) hb); have n1_ := Aside0.mk (Kd.R_below (by (with_reducible repeat (first | apply Kd.R_alloc | apply Kd.R_drewN | apply Kd.R_drew)); exact HO_11.out) hb); have n2_ := Aside0.mk (Kd.R_below (by (with_reducible repeat (first | apply Kd.R_alloc | apply Kd.R_drewN | apply Kd.R_drew)); exact HO_12.out) hb); have n3_ := Aside0.mk (Kd.S_lower (Kd.S_new' ho0 (Kd.S_lt (by (with_reducible repeat (first | apply Kd.S_alloc | apply Kd.S_drewN | apply Kd.S_drew)); exact HO_7.out))) (below_size (by repeat (first | (with_reducible first | exact HB.out | apply below_alloc | apply pw_below_drewN | apply below_drew1) | exact HB.out)))); have n4_ := Aside0.mk (below_step (by repeat (first | (with_reducible first | exact HB.out | apply below_alloc | apply pw_below_drewN | apply below_drew1) | exact HB.out)) hb); clear HO_7; clear HO_11; clear HO_12; clear HB; have HO_7 := n0_; have HO_11 := n1_; have HO_12 := n2_; have HO126 := n3_; have HB := n4_; clear n0_ n1_ n2_ n3_ n4_; (try clear hb); (try clear hb2); (try clear hk); (try clear hi); (try clear ho0); obtain ⟨Ao57, co57, eo57⟩ := Kd.S_slice HO126.out; subst eo57) | ((with_reducible refine gate_callee (f := 52) rfl ?_); refine goesL_ (some 99) rfl rfl Try.func52 (by kernel_rfl) rfl #[.slice Ao57 t123.length co57] rfl (by (try simp only [List.map_toArray, List.map_cons, List.map_nil]); first | done | rfl | (simp only [List.length_drop, List.length_take]; rfl)) ?_; (with_reducible refine (matrix_Inverse.calls _ _ t123 t127 t128 _ ?side1 ?side2 A45.out).mono ?_); (case side1 => repeat (first | exact (Kd.S_reads' HO126.out).2.2 | (with_reducible refine Kd.C_alloc ?_ _) | (with_reducible refine Kd.C_drewN ?_ _) | (with_reducible refine Kd.C_drew ?_))); (case side2 => exact (Kd.S_reads' HO126.out).2.1); rintro e w58 ⟨v129, rfl, ho0, hb⟩; refine ⟨_, rfl, ?_⟩; have n0_ := Aside0.mk (Kd.S_elder' (by (with_reducible repeat (first | apply Kd.S_alloc | apply Kd.S_drewN | apply Kd.S_drew)); exact HO_7.out) (Kd.S_base ho0) hb); have n1_ := Aside0.mk (Kd.R_below (by (with_reducible repeat (first | apply Kd.R_alloc | apply Kd.R_drewN | apply Kd.R_drew)); exact HO_11.out) hb); have n2_ := Aside0.mk (Kd.R_below (by (with_reducible repeat (first | apply Kd.R_alloc | apply Kd.R_drewN | apply Kd.R_drew)); exact HO_12.out) hb); have n3_ := Aside0.mk (Kd.S_elder' (by (with_reducible repeat (first | apply Kd.S_alloc | apply Kd.S_drewN | apply Kd.S_drew)); exact HO126.out) (Kd.S_base ho0) hb); have n4_ := Aside0.mk (Kd.S_lower (Kd.S_new' (Kd.S_new' ho0 (Kd.S_lt (by (with_reducible repeat (first | apply Kd.S_alloc | apply Kd.S_drewN | apply Kd.S_drew)); exact HO_7.out))) (Kd.S_lt (by (with_reducible repeat (first | apply Kd.S_alloc | apply Kd.S_drewN | apply Kd.S_drew)); exact HO126.out))) (below_size (by repeat (first | (with_reducible first | exact HB.out | apply below_alloc | apply pw_below_drewN | apply below_drew1) | exact HB.out)))); have n5_ := Aside0.mk (below_step (by repeat (first | (with_reducible first | exact HB.out | apply below_alloc | apply pw_below_drewN | apply below_drew1) | exact HB.out)) hb); clear HO_7; clear HO_11; clear HO_12; clear HO126; clear HB; have HO_7 := n0_; have HO_11 := n1_; have HO_12 := n2_; have HO126 := n3_; have HO130 := n4_; have HB := n5_; clear n0_ n1_ n2_ n3_ n4_ n5_; (try clear hb); (try clear hb2); (try clear hk); (try clear hi); (try clear ho0); obtain ⟨Ao59, co59, eo59⟩ := Kd.S_slice HO130.out; subst eo59) | ((with_reducible refine gate_callee (f := 55) rfl ?_); refine goesL_ (some 105) rfl rfl Try.func55 (by kernel_rfl) rfl #[.slice Ao57 t123.length co57, .slice Ao59 t127.length co59] rfl (by (try simp only [List.map_toArray, List.map_cons, List.map_nil]); first | done | rfl | (simp only [List.length_drop, List.length_take]; rfl)) ?_; (with_reducible refine (mooringref02_Mul.calls k3 _ _ t123 _ _ t127 t131 t132 _ ?side1 ?side2 ?side3 ?side4 A46.out).mono ?_); (case side1 => repeat (first | exact (Kd.S_reads' HO126.out).2.2 | (with_reducible refine Kd.C_alloc ?_ _) | (with_reducible refine Kd.C_drewN ?_ _) | (with_reducible refine Kd.C_drew ?_))); (case side2 => exact (Kd.S_reads' HO126.out).2.1); (case side3 => repeat (first | exact (Kd.S_reads' HO130.out).2.2 | (with_reducible refine Kd.C_alloc ?_ _) | (with_reducible refine Kd.C_drewN ?_ _) | (with_reducible refine Kd.C_drew ?_))); (case side4 => exact (Kd.S_reads' HO130.out).2.1); rintro e w60 ⟨v133, rfl, ho0, hb⟩; refine ⟨_, rfl, ?_⟩; have n0_ := Aside0.mk (Kd.S_elder' (by (with_reducible repeat (first | apply Kd.S_alloc | apply Kd.S_drewN | apply Kd.S_drew)); exact HO_7.out) (Kd.S_base ho0) hb); have n1_ := Aside0.mk (Kd.R_below (by (with_reducible repeat (first | apply Kd.R_alloc | apply Kd.R_drewN | apply Kd.R_drew)); exact HO_11.out) hb); have n2_ := Aside0.mk (Kd.R_below (by (with_reducible repeat (first | apply Kd.R_alloc | apply Kd.R_drewN | apply Kd.R_drew)); exact HO_12.out) hb); have n3_ := Aside0.mk (Kd.S_elder' (by (with_reducible repeat (first | apply Kd.S_alloc | apply Kd.S_drewN | apply Kd.S_drew)); exact HO126.out) (Kd.S_base ho0) hb); have n4_ := Aside0.mk (Kd.S_elder' (by (with_reducible repeat (first | apply Kd.S_alloc | apply Kd.S_drewN | apply Kd.S_drew)); exact HO130.out) (Kd.S_base ho0) hb); have n5_ := Aside0.mk (Kd.S_lower (Kd.S_new' (Kd.S_new' (Kd.S_new' ho0 (Kd.S_lt (by (with_reducible repeat (first | apply Kd.S_alloc | apply Kd.S_drewN | apply Kd.S_drew)); exact HO_7.out))) (Kd.S_lt (by (with_reducible repeat (first | apply Kd.S_alloc | apply Kd.S_drewN | apply Kd.S_drew)); exact HO126.out))) (Kd.S_lt (by (with_reducible repeat (first | apply Kd.S_alloc | apply Kd.S_drewN | apply Kd.S_drew)); exact HO130.out))) (below_size (by repeat (first | (with_reducible first | exact HB.out | apply below_alloc | apply pw_below_drewN | apply below_drew1) | exact HB.out)))); have n6_ := Aside0.mk (below_step (by repeat (first | (with_reducible first | exact HB.out | apply below_alloc | apply pw_below_drewN | apply below_drew1) | exact HB.out)) hb); clear HO_7; clear HO_11; clear HO_12; clear HO126; clear HO130; clear HB; have HO_7 := n0_; have HO_11 := n1_; have HO_12 := n2_; have HO126 := n3_; have HO130 := n4_; have HO134 := n5_; have HB := n6_; clear n0_ n1_ n2_ n3_ n4_ n5_ n6_; (try clear hb); (try clear hb2); (try clear hk); (try clear hi); (try clear ho0)) | (go_at_call 56; (with_reducible refine (mooringref02_Identity.calls k3 a0 t135 _ A50.out).mono ?_); rintro e w61 ⟨v136, rfl, ho0, hb⟩; have n0_ := Aside0.mk (Kd.S_elder' (by (with_reducible repeat (first | apply Kd.S_alloc | apply Kd.S_drewN | apply Kd.S_drew)); exact HO_7.out) (Kd.S_base ho0) hb); have n1_ := Aside0.mk (Kd.R_below (by (with_reducible repeat (first | apply Kd.R_alloc | apply Kd.R_drewN | apply Kd.R_drew)); exact HO_11.out) hb); have n2_ := Aside0.mk (Kd.R_below (by (with_reducible repeat (first | apply Kd.R_alloc | apply Kd.R_drewN | apply Kd.R_drew)); exact HO_12.out) hb); have n3_ := Aside0.mk (Kd.S_elder' (by (with_reducible repeat (first | apply Kd.S_alloc | apply Kd.S_drewN | apply Kd.S_drew)); exact HO126.out) (Kd.S_base ho0) hb); have n4_ := Aside0.mk (Kd.S_elder' (by (with_reducible repeat (first | apply Kd.S_alloc | apply Kd.S_drewN | apply Kd.S_drew)); exact HO130.out) (Kd.S_base ho0) hb); have n5_ := Aside0.mk (Kd.S_elder' (by (with_reducible repeat (first | apply Kd.S_alloc | apply Kd.S_drewN | apply Kd.S_drew)); exact HO134.out) (Kd.S_base ho0) hb); have n6_ := Aside0.mk (Kd.S_lower (Kd.S_new' (Kd.S_new' (Kd.S_new' (Kd.S_new' ho0 (Kd.S_lt (by (with_reducible repeat (first | apply Kd.S_alloc | apply Kd.S_drewN | apply Kd.S_drew)); exact HO_7.out))) (Kd.S_lt (by (with_reducible repeat (first | apply Kd.S_alloc | apply Kd.S_drewN | apply Kd.S_drew)); exact HO126.out))) (Kd.S_lt (by (with_reducible repeat (first | apply Kd.S_alloc | apply Kd.S_drewN | apply Kd.S_drew)); exact HO130.out))) (Kd.S_lt (by (with_reducible repeat (first | apply Kd.S_alloc | apply Kd.S_drewN | apply Kd.S_drew)); exact HO134.out))) (below_size (by repeat (first | (with_reducible first | exact HB.out | apply below_alloc | apply pw_below_drewN | apply below_drew1) | exact HB.out)))); have n7_ := Aside0.mk (below_step (by repeat (first | (with_reducible first | exact HB.out | apply below_alloc | apply pw_below_drewN | apply below_drew1) | exact HB.out)) hb); clear HO_7; clear HO_11; clear HO_12; clear HO126; clear HO130; clear HO134; clear HB; have HO_7 := n0_; have HO_11 := n1_; have HO_12 := n2_; have HO126 := n3_; have HO130 := n4_; have HO134 := n5_; have HO137 := n6_; have HB := n7_; clear n0_ n1_ n2_ n3_ n4_ n5_ n6_ n7_; (try clear hb); (try clear hb2); (try clear hk); (try clear hi); (try clear ho0); obtain ⟨Ao62, co62, eo62⟩ := Kd.S_slice HO134.out; subst eo62; obtain ⟨Ao63, co63, eo63⟩ := Kd.S_slice HO137.out; subst eo63) | (go_at_call 57; (with_reducible refine (mooringref02_Same.calls k3 _ _ t131 _ _ t135 true _ ?side1 ?side2 ?side3 ?side4 A51.out).mono ?_); (case side1 => repeat (first | exact (Kd.S_reads' HO134.out).2.2 | (with_reducible refine Kd.C_alloc ?_ _) | (with_reducible refine Kd.C_drewN ?_ _) | (with_reducible refine Kd.C_drew ?_))); (case side2 => exact (Kd.S_reads' HO134.out).2.1); (case side3 => repeat (first | exact (Kd.S_reads' HO137.out).2.2 | (with_reducible refine Kd.C_alloc ?_ _) | (with_reducible refine Kd.C_drewN ?_ _) | (with_reducible refine Kd.C_drew ?_))); (case side4 => exact (Kd.S_reads' HO137.out).2.1); rintro e w' ⟨rfl, ⟨nd, rfl⟩⟩) | (go_at_call 51; (with_reducible refine (mooringlaw02_awake.calls  t139 _ A53.out).mono ?_); rintro e w64 ⟨rfl, hb⟩; have n0_ := Aside0.mk (Kd.S_below (by (with_reducible repeat (first | apply Kd.S_alloc | apply Kd.S_drewN | apply Kd.S_drew)); exact HO_7.out) hb); have n1_ := Aside0.mk (Kd.R_below (by (with_reducible repeat (first | apply Kd.R_alloc | apply Kd.R_drewN | apply Kd.R_drew)); exact HO_11.out) hb); have n2_ := Aside0.mk (Kd.R_below (by (with_reducible repeat (first | apply Kd.R_alloc | apply Kd.R_drewN | apply Kd.R_drew)); exact HO_12.out) hb); have n3_ := Aside0.mk (Kd.S_below (by (with_reducible repeat (first | apply Kd.S_alloc | apply Kd.S_drewN | apply Kd.S_drew)); exact HO126.out) hb); have n4_ := Aside0.mk (Kd.S_below (by (with_reducible repeat (first | apply Kd.S_alloc | apply Kd.S_drewN | apply Kd.S_drew)); exact HO130.out) hb); have n5_ := Aside0.mk (Kd.S_below (by (with_reducible repeat (first | apply Kd.S_alloc | apply Kd.S_drewN | apply Kd.S_drew)); exact HO134.out) hb); have n6_ := Aside0.mk (Kd.S_below (by (with_reducible repeat (first | apply Kd.S_alloc | apply Kd.S_drewN | apply Kd.S_drew)); exact HO137.out) hb); have n7_ := Aside0.mk (below_step (by repeat (first | (with_reducible first | exact HB.out | apply below_alloc | apply pw_below_drewN | apply below_drew1) | exact HB.out)) hb); clear HO_7; clear HO_11; clear HO_12; clear HO126; clear HO130; clear HO134; clear HO137; clear HB; have HO_7 := n0_; have HO_11 := n1_; have HO_12 := n2_; have HO126 := n3_; have HO130 := n4_; have HO134 := n5_; have HO137 := n6_; have HB := n7_; clear n0_ n1_ n2_ n3_ n4_ n5_ n6_ n7_; (try clear hb); (try clear hb2); (try clear hk); (try clear hi)))
                                go_ret
                                exact ⟨by first | rfl | (simp [errW_none, errW_some] <;> rfl) | (simp only [← hji19]; first | rfl | (simp [errW_none, errW_some] <;> rfl)) | (simp [*, errW_none, errW_some] <;> rfl), by repeat (first | (with_reducible first | exact HB.out | apply below_alloc | apply pw_below_drewN | apply below_drew1) | exact HB.out)⟩
                              · replace c52 := Bool.eq_false_iff.mpr c52
                                subst c52
                                have H1 : (some false) = some r := by rw [if_neg (show ¬ (false = true) by decide)] at H; exact H
                                clear H
                                have H := H1
                                clear H1
                                obtain rfl := Option.some.inj H
                                obtain ⟨Ao65, co65, eo65⟩ := Kd.R_slice HO_11.out
                                subst eo65
                                obtain ⟨Ao66, co66, eo66⟩ := Kd.S_slice HO_7.out
                                subst eo66
                                go_wp2_with (first | ((with_reducible refine gate_callee (f := 69) rfl ?_); refine goesL_ (some 94) rfl rfl Try.func69 (by kernel_rfl) rfl #[.slice Ao66 t101.length co66, .slice Ao65 x11_3.length co65] rfl (by (try simp only [List.map_toArray, List.map_cons, List.map_nil]); first | done | rfl | (simp only [List.length_drop, List.length_take]; rfl)) ?_; (with_reducible refine (matrix_Rows.calls k3 _ _ t101 _ _ x11_3 t123 t124 _ ?side1 ?side2 ?side3 ?side4 A44.out).mono ?_); (case side1 => repeat (first | exact (Kd.S_reads' HO_7.out).2.2 | (with_reducible refine Kd.C_alloc ?_ _) | (with_reducible refine Kd.C_drewN ?_ _) | (with_reducible refine Kd.C_drew ?_))); (case side2 => exact (Kd.S_reads' HO_7.out).2.1); (case side3 => repeat (first | exact (Kd.R_reads' HO_11.out).2.2 | (with_reducible refine Kd.C_alloc ?_ _) | (with_reducible refine Kd.C_drewN ?_ _) | (with_reducible refine Kd.C_drew ?_))); (case side4 => exact (Kd.R_reads' HO_11.out).2.1); rintro e w67 ⟨v125, rfl, ho0, hb⟩; refine ⟨_, rfl, ?_⟩; have n0_ := Aside0.mk (Kd.S_elder' (by (with_reducible repeat (first | apply Kd.S_alloc | apply Kd.S_drewN | apply Kd.S_drew)); exact HO_7.out) (Kd.S_base ho0) hb); have n1_ := Aside0.mk (Kd.R_below (by (with_reducible repeat (first | apply Kd.R_alloc | apply Kd.R_drewN | apply Kd.R_drew)); exact HO_11.out) hb); have n2_ := Aside0.mk (Kd.R_below (by (with_reducible repeat (first | apply Kd.R_alloc | apply Kd.R_drewN | apply Kd.R_drew)); exact HO_12.out) hb); have n3_ := Aside0.mk (Kd.S_lower (Kd.S_new' ho0 (Kd.S_lt (by (with_reducible repeat (first | apply Kd.S_alloc | apply Kd.S_drewN | apply Kd.S_drew)); exact HO_7.out))) (below_size (by repeat (first | (with_reducible first | exact HB.out | apply below_alloc | apply pw_below_drewN | apply below_drew1) | exact HB.out)))); have n4_ := Aside0.mk (below_step (by repeat (first | (with_reducible first | exact HB.out | apply below_alloc | apply pw_below_drewN | apply below_drew1) | exact HB.out)) hb); clear HO_7; clear HO_11; clear HO_12; clear HB; have HO_7 := n0_; have HO_11 := n1_; have HO_12 := n2_; have HO126 := n3_; have HB := n4_; clear n0_ n1_ n2_ n3_ n4_; (try clear hb); (try clear hb2); (try clear hk); (try clear hi); (try clear ho0); obtain ⟨Ao68, co68, eo68⟩ := Kd.S_slice HO126.out; subst eo68) | ((with_reducible refine gate_callee (f := 52) rfl ?_); refine goesL_ (some 99) rfl rfl Try.func52 (by kernel_rfl) rfl #[.slice Ao68 t123.length co68] rfl (by (try simp only [List.map_toArray, List.map_cons, List.map_nil]); first | done | rfl | (simp only [List.length_drop, List.length_take]; rfl)) ?_; (with_reducible refine (matrix_Inverse.calls _ _ t123 t127 t128 _ ?side1 ?side2 A45.out).mono ?_); (case side1 => repeat (first | exact (Kd.S_reads' HO126.out).2.2 | (with_reducible refine Kd.C_alloc ?_ _) | (with_reducible refine Kd.C_drewN ?_ _) | (with_reducible refine Kd.C_drew ?_))); (case side2 => exact (Kd.S_reads' HO126.out).2.1); rintro e w69 ⟨v129, rfl, ho0, hb⟩; refine ⟨_, rfl, ?_⟩; have n0_ := Aside0.mk (Kd.S_elder' (by (with_reducible repeat (first | apply Kd.S_alloc | apply Kd.S_drewN | apply Kd.S_drew)); exact HO_7.out) (Kd.S_base ho0) hb); have n1_ := Aside0.mk (Kd.R_below (by (with_reducible repeat (first | apply Kd.R_alloc | apply Kd.R_drewN | apply Kd.R_drew)); exact HO_11.out) hb); have n2_ := Aside0.mk (Kd.R_below (by (with_reducible repeat (first | apply Kd.R_alloc | apply Kd.R_drewN | apply Kd.R_drew)); exact HO_12.out) hb); have n3_ := Aside0.mk (Kd.S_elder' (by (with_reducible repeat (first | apply Kd.S_alloc | apply Kd.S_drewN | apply Kd.S_drew)); exact HO126.out) (Kd.S_base ho0) hb); have n4_ := Aside0.mk (Kd.S_lower (Kd.S_new' (Kd.S_new' ho0 (Kd.S_lt (by (with_reducible repeat (first | apply Kd.S_alloc | apply Kd.S_drewN | apply Kd.S_drew)); exact HO_7.out))) (Kd.S_lt (by (with_reducible repeat (first | apply Kd.S_alloc | apply Kd.S_drewN | apply Kd.S_drew)); exact HO126.out))) (below_size (by repeat (first | (with_reducible first | exact HB.out | apply below_alloc | apply pw_below_drewN | apply below_drew1) | exact HB.out)))); have n5_ := Aside0.mk (below_step (by repeat (first | (with_reducible first | exact HB.out | apply below_alloc | apply pw_below_drewN | apply below_drew1) | exact HB.out)) hb); clear HO_7; clear HO_11; clear HO_12; clear HO126; clear HB; have HO_7 := n0_; have HO_11 := n1_; have HO_12 := n2_; have HO126 := n3_; have HO130 := n4_; have HB := n5_; clear n0_ n1_ n2_ n3_ n4_ n5_; (try clear hb); (try clear hb2); (try clear hk); (try clear hi); (try clear ho0); obtain ⟨Ao70, co70, eo70⟩ := Kd.S_slice HO130.out; subst eo70) | ((with_reducible refine gate_callee (f := 55) rfl ?_); refine goesL_ (some 105) rfl rfl Try.func55 (by kernel_rfl) rfl #[.slice Ao68 t123.length co68, .slice Ao70 t127.length co70] rfl (by (try simp only [List.map_toArray, List.map_cons, List.map_nil]); first | done | rfl | (simp only [List.length_drop, List.length_take]; rfl)) ?_; (with_reducible refine (mooringref02_Mul.calls k3 _ _ t123 _ _ t127 t131 t132 _ ?side1 ?side2 ?side3 ?side4 A46.out).mono ?_); (case side1 => repeat (first | exact (Kd.S_reads' HO126.out).2.2 | (with_reducible refine Kd.C_alloc ?_ _) | (with_reducible refine Kd.C_drewN ?_ _) | (with_reducible refine Kd.C_drew ?_))); (case side2 => exact (Kd.S_reads' HO126.out).2.1); (case side3 => repeat (first | exact (Kd.S_reads' HO130.out).2.2 | (with_reducible refine Kd.C_alloc ?_ _) | (with_reducible refine Kd.C_drewN ?_ _) | (with_reducible refine Kd.C_drew ?_))); (case side4 => exact (Kd.S_reads' HO130.out).2.1); rintro e w71 ⟨v133, rfl, ho0, hb⟩; refine ⟨_, rfl, ?_⟩; have n0_ := Aside0.mk (Kd.S_elder' (by (with_reducible repeat (first | apply Kd.S_alloc | apply Kd.S_drewN | apply Kd.S_drew)); exact HO_7.out) (Kd.S_base ho0) hb); have n1_ := Aside0.mk (Kd.R_below (by (with_reducible repeat (first | apply Kd.R_alloc | apply Kd.R_drewN | apply Kd.R_drew)); exact HO_11.out) hb); have n2_ := Aside0.mk (Kd.R_below (by (with_reducible repeat (first | apply Kd.R_alloc | apply Kd.R_drewN | apply Kd.R_drew)); exact HO_12.out) hb); have n3_ := Aside0.mk (Kd.S_elder' (by (with_reducible repeat (first | apply Kd.S_alloc | apply Kd.S_drewN | apply Kd.S_drew)); exact HO126.out) (Kd.S_base ho0) hb); have n4_ := Aside0.mk (Kd.S_elder' (by (with_reducible repeat (first | apply Kd.S_alloc | apply Kd.S_drewN | apply Kd.S_drew)); exact HO130.out) (Kd.S_base ho0) hb); have n5_ := Aside0.mk (Kd.S_lower (Kd.S_new' (Kd.S_new' (Kd.S_new' ho0 (Kd.S_lt (by (with_reducible repeat (first | apply Kd.S_alloc | apply Kd.S_drewN | apply Kd.S_drew)); exact HO_7.out))) (Kd.S_lt (by (with_reducible repeat (first | apply Kd.S_alloc | apply Kd.S_drewN | apply Kd.S_drew)); exact HO126.out))) (Kd.S_lt (by (with_reducible repeat (first | apply Kd.S_alloc | apply Kd.S_drewN | apply Kd.S_drew)); exact HO130.out))) (below_size (by repeat (first | (with_reducible first | exact HB.out | apply below_alloc | apply pw_below_drewN | apply below_drew1) | exact HB.out)))); have n6_ := Aside0.mk (below_step (by repeat (first | (with_reducible first | exact HB.out | apply below_alloc | apply pw_below_drewN | apply below_drew1) | exact HB.out)) hb); clear HO_7; clear HO_11; clear HO_12; clear HO126; clear HO130; clear HB; have HO_7 := n0_; have HO_11 := n1_; have HO_12 := n2_; have HO126 := n3_; have HO130 := n4_; have HO134 := n5_; have HB := n6_; clear n0_ n1_ n2_ n3_ n4_ n5_ n6_; (try clear hb); (try clear hb2); (try clear hk); (try clear hi); (try clear ho0)) | (go_at_call 56; (with_reducible refine (mooringref02_Identity.calls k3 a0 t135 _ A50.out).mono ?_); rintro e w72 ⟨v136, rfl, ho0, hb⟩; have n0_ := Aside0.mk (Kd.S_elder' (by (with_reducible repeat (first | apply Kd.S_alloc | apply Kd.S_drewN | apply Kd.S_drew)); exact HO_7.out) (Kd.S_base ho0) hb); have n1_ := Aside0.mk (Kd.R_below (by (with_reducible repeat (first | apply Kd.R_alloc | apply Kd.R_drewN | apply Kd.R_drew)); exact HO_11.out) hb); have n2_ := Aside0.mk (Kd.R_below (by (with_reducible repeat (first | apply Kd.R_alloc | apply Kd.R_drewN | apply Kd.R_drew)); exact HO_12.out) hb); have n3_ := Aside0.mk (Kd.S_elder' (by (with_reducible repeat (first | apply Kd.S_alloc | apply Kd.S_drewN | apply Kd.S_drew)); exact HO126.out) (Kd.S_base ho0) hb); have n4_ := Aside0.mk (Kd.S_elder' (by (with_reducible repeat (first | apply Kd.S_alloc | apply Kd.S_drewN | apply Kd.S_drew)); exact HO130.out) (Kd.S_base ho0) hb); have n5_ := Aside0.mk (Kd.S_elder' (by (with_reducible repeat (first | apply Kd.S_alloc | apply Kd.S_drewN | apply Kd.S_drew)); exact HO134.out) (Kd.S_base ho0) hb); have n6_ := Aside0.mk (Kd.S_lower (Kd.S_new' (Kd.S_new' (Kd.S_new' (Kd.S_new' ho0 (Kd.S_lt (by (with_reducible repeat (first | apply Kd.S_alloc | apply Kd.S_drewN | apply Kd.S_drew)); exact HO_7.out))) (Kd.S_lt (by (with_reducible repeat (first | apply Kd.S_alloc | apply Kd.S_drewN | apply Kd.S_drew)); exact HO126.out))) (Kd.S_lt (by (with_reducible repeat (first | apply Kd.S_alloc | apply Kd.S_drewN | apply Kd.S_drew)); exact HO130.out))) (Kd.S_lt (by (with_reducible repeat (first | apply Kd.S_alloc | apply Kd.S_drewN | apply Kd.S_drew)); exact HO134.out))) (below_size (by repeat (first | (with_reducible first | exact HB.out | apply below_alloc | apply pw_below_drewN | apply below_drew1) | exact HB.out)))); have n7_ := Aside0.mk (below_step (by repeat (first | (with_reducible first | exact HB.out | apply below_alloc | apply pw_below_drewN | apply below_drew1) | exact HB.out)) hb); clear HO_7; clear HO_11; clear HO_12; clear HO126; clear HO130; clear HO134; clear HB; have HO_7 := n0_; have HO_11 := n1_; have HO_12 := n2_; have HO126 := n3_; have HO130 := n4_; have HO134 := n5_; have HO137 := n6_; have HB := n7_; clear n0_ n1_ n2_ n3_ n4_ n5_ n6_ n7_; (try clear hb); (try clear hb2); (try clear hk); (try clear hi); (try clear ho0); obtain ⟨Ao73, co73, eo73⟩ := Kd.S_slice HO134.out; subst eo73; obtain ⟨Ao74, co74, eo74⟩ := Kd.S_slice HO137.out; subst eo74) | (go_at_call 57; (with_reducible refine (mooringref02_Same.calls k3 _ _ t131 _ _ t135 false _ ?side1 ?side2 ?side3 ?side4 A51.out).mono ?_); (case side1 => repeat (first | exact (Kd.S_reads' HO134.out).2.2 | (with_reducible refine Kd.C_alloc ?_ _) | (with_reducible refine Kd.C_drewN ?_ _) | (with_reducible refine Kd.C_drew ?_))); (case side2 => exact (Kd.S_reads' HO134.out).2.1); (case side3 => repeat (first | exact (Kd.S_reads' HO137.out).2.2 | (with_reducible refine Kd.C_alloc ?_ _) | (with_reducible refine Kd.C_drewN ?_ _) | (with_reducible refine Kd.C_drew ?_))); (case side4 => exact (Kd.S_reads' HO137.out).2.1); rintro e w' ⟨rfl, ⟨nd, rfl⟩⟩))
                                go_ret
                                exact ⟨by first | rfl | (simp [errW_none, errW_some] <;> rfl) | (simp only [← hji19]; first | rfl | (simp [errW_none, errW_some] <;> rfl)) | (simp [*, errW_none, errW_some] <;> rfl), by repeat (first | (with_reducible first | exact HB.out | apply below_alloc | apply pw_below_drewN | apply below_drew1) | exact HB.out)⟩
                            · rw [if_neg c49] at H
                              have c49b0 : (t132 == 0) = false := beq_eq_false_iff_ne.mpr c49
                              have c49b1 : (t132 != 0) = true := bne_iff_ne.mpr c49
                              obtain rfl := Option.some.inj H
                              obtain ⟨Ao75, co75, eo75⟩ := Kd.R_slice HO_11.out
                              subst eo75
                              obtain ⟨Ao76, co76, eo76⟩ := Kd.S_slice HO_7.out
                              subst eo76
                              go_wp2_with (first | ((with_reducible refine gate_callee (f := 69) rfl ?_); refine goesL_ (some 94) rfl rfl Try.func69 (by kernel_rfl) rfl #[.slice Ao76 t101.length co76, .slice Ao75 x11_3.length co75] rfl (by (try simp only [List.map_toArray, List.map_cons, List.map_nil]); first | done | rfl | (simp only [List.length_drop, List.length_take]; rfl)) ?_; (with_reducible refine (matrix_Rows.calls k3 _ _ t101 _ _ x11_3 t123 t124 _ ?side1 ?side2 ?side3 ?side4 A44.out).mono ?_); (case side1 => repeat (first | exact (Kd.S_reads' HO_7.out).2.2 | (with_reducible refine Kd.C_alloc ?_ _) | (with_reducible refine Kd.C_drewN ?_ _) | (with_reducible refine Kd.C_drew ?_))); (case side2 => exact (Kd.S_reads' HO_7.out).2.1); (case side3 => repeat (first | exact (Kd.R_reads' HO_11.out).2.2 | (with_reducible refine Kd.C_alloc ?_ _) | (with_reducible refine Kd.C_drewN ?_ _) | (with_reducible refine Kd.C_drew ?_))); (case side4 => exact (Kd.R_reads' HO_11.out).2.1); rintro e w77 ⟨v125, rfl, ho0, hb⟩; refine ⟨_, rfl, ?_⟩; have n0_ := Aside0.mk (Kd.S_elder' (by (with_reducible repeat (first | apply Kd.S_alloc | apply Kd.S_drewN | apply Kd.S_drew)); exact HO_7.out) (Kd.S_base ho0) hb); have n1_ := Aside0.mk (Kd.R_below (by (with_reducible repeat (first | apply Kd.R_alloc | apply Kd.R_drewN | apply Kd.R_drew)); exact HO_11.out) hb); have n2_ := Aside0.mk (Kd.R_below (by (with_reducible repeat (first | apply Kd.R_alloc | apply Kd.R_drewN | apply Kd.R_drew)); exact HO_12.out) hb); have n3_ := Aside0.mk (Kd.S_lower (Kd.S_new' ho0 (Kd.S_lt (by (with_reducible repeat (first | apply Kd.S_alloc | apply Kd.S_drewN | apply Kd.S_drew)); exact HO_7.out))) (below_size (by repeat (first | (with_reducible first | exact HB.out | apply below_alloc | apply pw_below_drewN | apply below_drew1) | exact HB.out)))); have n4_ := Aside0.mk (below_step (by repeat (first | (with_reducible first | exact HB.out | apply below_alloc | apply pw_below_drewN | apply below_drew1) | exact HB.out)) hb); clear HO_7; clear HO_11; clear HO_12; clear HB; have HO_7 := n0_; have HO_11 := n1_; have HO_12 := n2_; have HO126 := n3_; have HB := n4_; clear n0_ n1_ n2_ n3_ n4_; (try clear hb); (try clear hb2); (try clear hk); (try clear hi); (try clear ho0); obtain ⟨Ao78, co78, eo78⟩ := Kd.S_slice HO126.out; subst eo78) | ((with_reducible refine gate_callee (f := 52) rfl ?_); refine goesL_ (some 99) rfl rfl Try.func52 (by kernel_rfl) rfl #[.slice Ao78 t123.length co78] rfl (by (try simp only [List.map_toArray, List.map_cons, List.map_nil]); first | done | rfl | (simp only [List.length_drop, List.length_take]; rfl)) ?_; (with_reducible refine (matrix_Inverse.calls _ _ t123 t127 t128 _ ?side1 ?side2 A45.out).mono ?_); (case side1 => repeat (first | exact (Kd.S_reads' HO126.out).2.2 | (with_reducible refine Kd.C_alloc ?_ _) | (with_reducible refine Kd.C_drewN ?_ _) | (with_reducible refine Kd.C_drew ?_))); (case side2 => exact (Kd.S_reads' HO126.out).2.1); rintro e w79 ⟨v129, rfl, ho0, hb⟩; refine ⟨_, rfl, ?_⟩; have n0_ := Aside0.mk (Kd.S_elder' (by (with_reducible repeat (first | apply Kd.S_alloc | apply Kd.S_drewN | apply Kd.S_drew)); exact HO_7.out) (Kd.S_base ho0) hb); have n1_ := Aside0.mk (Kd.R_below (by (with_reducible repeat (first | apply Kd.R_alloc | apply Kd.R_drewN | apply Kd.R_drew)); exact HO_11.out) hb); have n2_ := Aside0.mk (Kd.R_below (by (with_reducible repeat (first | apply Kd.R_alloc | apply Kd.R_drewN | apply Kd.R_drew)); exact HO_12.out) hb); have n3_ := Aside0.mk (Kd.S_elder' (by (with_reducible repeat (first | apply Kd.S_alloc | apply Kd.S_drewN | apply Kd.S_drew)); exact HO126.out) (Kd.S_base ho0) hb); have n4_ := Aside0.mk (Kd.S_lower (Kd.S_new' (Kd.S_new' ho0 (Kd.S_lt (by (with_reducible repeat (first | apply Kd.S_alloc | apply Kd.S_drewN | apply Kd.S_drew)); exact HO_7.out))) (Kd.S_lt (by (with_reducible repeat (first | apply Kd.S_alloc | apply Kd.S_drewN | apply Kd.S_drew)); exact HO126.out))) (below_size (by repeat (first | (with_reducible first | exact HB.out | apply below_alloc | apply pw_below_drewN | apply below_drew1) | exact HB.out)))); have n5_ := Aside0.mk (below_step (by repeat (first | (with_reducible first | exact HB.out | apply below_alloc | apply pw_below_drewN | apply below_drew1) | exact HB.out)) hb); clear HO_7; clear HO_11; clear HO_12; clear HO126; clear HB; have HO_7 := n0_; have HO_11 := n1_; have HO_12 := n2_; have HO126 := n3_; have HO130 := n4_; have HB := n5_; clear n0_ n1_ n2_ n3_ n4_ n5_; (try clear hb); (try clear hb2); (try clear hk); (try clear hi); (try clear ho0); obtain ⟨Ao80, co80, eo80⟩ := Kd.S_slice HO130.out; subst eo80) | ((with_reducible refine gate_callee (f := 55) rfl ?_); refine goesL_ (some 105) rfl rfl Try.func55 (by kernel_rfl) rfl #[.slice Ao78 t123.length co78, .slice Ao80 t127.length co80] rfl (by (try simp only [List.map_toArray, List.map_cons, List.map_nil]); first | done | rfl | (simp only [List.length_drop, List.length_take]; rfl)) ?_; (with_reducible refine (mooringref02_Mul.calls k3 _ _ t123 _ _ t127 t131 t132 _ ?side1 ?side2 ?side3 ?side4 A46.out).mono ?_); (case side1 => repeat (first | exact (Kd.S_reads' HO126.out).2.2 | (with_reducible refine Kd.C_alloc ?_ _) | (with_reducible refine Kd.C_drewN ?_ _) | (with_reducible refine Kd.C_drew ?_))); (case side2 => exact (Kd.S_reads' HO126.out).2.1); (case side3 => repeat (first | exact (Kd.S_reads' HO130.out).2.2 | (with_reducible refine Kd.C_alloc ?_ _) | (with_reducible refine Kd.C_drewN ?_ _) | (with_reducible refine Kd.C_drew ?_))); (case side4 => exact (Kd.S_reads' HO130.out).2.1); rintro e w81 ⟨v133, rfl, ho0, hb⟩; refine ⟨_, rfl, ?_⟩; have n0_ := Aside0.mk (Kd.S_elder' (by (with_reducible repeat (first | apply Kd.S_alloc | apply Kd.S_drewN | apply Kd.S_drew)); exact HO_7.out) (Kd.S_base ho0) hb); have n1_ := Aside0.mk (Kd.R_below (by (with_reducible repeat (first | apply Kd.R_alloc | apply Kd.R_drewN | apply Kd.R_drew)); exact HO_11.out) hb); have n2_ := Aside0.mk (Kd.R_below (by (with_reducible repeat (first | apply Kd.R_alloc | apply Kd.R_drewN | apply Kd.R_drew)); exact HO_12.out) hb); have n3_ := Aside0.mk (Kd.S_elder' (by (with_reducible repeat (first | apply Kd.S_alloc | apply Kd.S_drewN | apply Kd.S_drew)); exact HO126.out) (Kd.S_base ho0) hb); have n4_ := Aside0.mk (Kd.S_elder' (by (with_reducible repeat (first | apply Kd.S_alloc | apply Kd.S_drewN | apply Kd.S_drew)); exact HO130.out) (Kd.S_base ho0) hb); have n5_ := Aside0.mk (Kd.S_lower (Kd.S_new' (Kd.S_new' (Kd.S_new' ho0 (Kd.S_lt (by (with_reducible repeat (first | apply Kd.S_alloc | apply Kd.S_drewN | apply Kd.S_drew)); exact HO_7.out))) (Kd.S_lt (by (with_reducible repeat (first | apply Kd.S_alloc | apply Kd.S_drewN | apply Kd.S_drew)); exact HO126.out))) (Kd.S_lt (by (with_reducible repeat (first | apply Kd.S_alloc | apply Kd.S_drewN | apply Kd.S_drew)); exact HO130.out))) (below_size (by repeat (first | (with_reducible first | exact HB.out | apply below_alloc | apply pw_below_drewN | apply below_drew1) | exact HB.out)))); have n6_ := Aside0.mk (below_step (by repeat (first | (with_reducible first | exact HB.out | apply below_alloc | apply pw_below_drewN | apply below_drew1) | exact HB.out)) hb); clear HO_7; clear HO_11; clear HO_12; clear HO126; clear HO130; clear HB; have HO_7 := n0_; have HO_11 := n1_; have HO_12 := n2_; have HO126 := n3_; have HO130 := n4_; have HO134 := n5_; have HB := n6_; clear n0_ n1_ n2_ n3_ n4_ n5_ n6_; (try clear hb); (try clear hb2); (try clear hk); (try clear hi); (try clear ho0)))
                              go_ret
                              exact ⟨by first | rfl | (simp [errW_none, errW_some] <;> rfl) | (simp only [← hji19]; first | rfl | (simp [errW_none, errW_some] <;> rfl)) | (simp [*, errW_none, errW_some] <;> rfl), by repeat (first | (with_reducible first | exact HB.out | apply below_alloc | apply pw_below_drewN | apply below_drew1) | exact HB.out)⟩
                          · rw [if_neg c48] at H
                            have c48b0 : (t128 == 0) = false := beq_eq_false_iff_ne.mpr c48
                            have c48b1 : (t128 != 0) = true := bne_iff_ne.mpr c48
                            obtain rfl := Option.some.inj H
                            obtain ⟨Ao82, co82, eo82⟩ := Kd.R_slice HO_11.out
                            subst eo82
                            obtain ⟨Ao83, co83, eo83⟩ := Kd.S_slice HO_7.out
                            subst eo83
                            go_wp2_with (first | ((with_reducible refine gate_callee (f := 69) rfl ?_); refine goesL_ (some 94) rfl rfl Try.func69 (by kernel_rfl) rfl #[.slice Ao83 t101.length co83, .slice Ao82 x11_3.length co82] rfl (by (try simp only [List.map_toArray, List.map_cons, List.map_nil]); first | done | rfl | (simp only [List.length_drop, List.length_take]; rfl)) ?_; (with_reducible refine (matrix_Rows.calls k3 _ _ t101 _ _ x11_3 t123 t124 _ ?side1 ?side2 ?side3 ?side4 A44.out).mono ?_); (case side1 => repeat (first | exact (Kd.S_reads' HO_7.out).2.2 | (with_reducible refine Kd.C_alloc ?_ _) | (with_reducible refine Kd.C_drewN ?_ _) | (with_reducible refine Kd.C_drew ?_))); (case side2 => exact (Kd.S_reads' HO_7.out).2.1); (case side3 => repeat (first | exact (Kd.R_reads' HO_11.out).2.2 | (with_reducible refine Kd.C_alloc ?_ _) | (with_reducible refine Kd.C_drewN ?_ _) | (with_reducible refine Kd.C_drew ?_))); (case side4 => exact (Kd.R_reads' HO_11.out).2.1); rintro e w84 ⟨v125, rfl, ho0, hb⟩; refine ⟨_, rfl, ?_⟩; have n0_ := Aside0.mk (Kd.S_elder' (by (with_reducible repeat (first | apply Kd.S_alloc | apply Kd.S_drewN | apply Kd.S_drew)); exact HO_7.out) (Kd.S_base ho0) hb); have n1_ := Aside0.mk (Kd.R_below (by (with_reducible repeat (first | apply Kd.R_alloc | apply Kd.R_drewN | apply Kd.R_drew)); exact HO_11.out) hb); have n2_ := Aside0.mk (Kd.R_below (by (with_reducible repeat (first | apply Kd.R_alloc | apply Kd.R_drewN | apply Kd.R_drew)); exact HO_12.out) hb); have n3_ := Aside0.mk (Kd.S_lower (Kd.S_new' ho0 (Kd.S_lt (by (with_reducible repeat (first | apply Kd.S_alloc | apply Kd.S_drewN | apply Kd.S_drew)); exact HO_7.out))) (below_size (by repeat (first | (with_reducible first | exact HB.out | apply below_alloc | apply pw_below_drewN | apply below_drew1) | exact HB.out)))); have n4_ := Aside0.mk (below_step (by repeat (first | (with_reducible first | exact HB.out | apply below_alloc | apply pw_below_drewN | apply below_drew1) | exact HB.out)) hb); clear HO_7; clear HO_11; clear HO_12; clear HB; have HO_7 := n0_; have HO_11 := n1_; have HO_12 := n2_; have HO126 := n3_; have HB := n4_; clear n0_ n1_ n2_ n3_ n4_; (try clear hb); (try clear hb2); (try clear hk); (try clear hi); (try clear ho0); obtain ⟨Ao85, co85, eo85⟩ := Kd.S_slice HO126.out; subst eo85) | ((with_reducible refine gate_callee (f := 52) rfl ?_); refine goesL_ (some 99) rfl rfl Try.func52 (by kernel_rfl) rfl #[.slice Ao85 t123.length co85] rfl (by (try simp only [List.map_toArray, List.map_cons, List.map_nil]); first | done | rfl | (simp only [List.length_drop, List.length_take]; rfl)) ?_; (with_reducible refine (matrix_Inverse.calls _ _ t123 t127 t128 _ ?side1 ?side2 A45.out).mono ?_); (case side1 => repeat (first | exact (Kd.S_reads' HO126.out).2.2 | (with_reducible refine Kd.C_alloc ?_ _) | (with_reducible refine Kd.C_drewN ?_ _) | (with_reducible refine Kd.C_drew ?_))); (case side2 => exact (Kd.S_reads' HO126.out).2.1); rintro e w86 ⟨v129, rfl, ho0, hb⟩; refine ⟨_, rfl, ?_⟩; have n0_ := Aside0.mk (Kd.S_elder' (by (with_reducible repeat (first | apply Kd.S_alloc | apply Kd.S_drewN | apply Kd.S_drew)); exact HO_7.out) (Kd.S_base ho0) hb); have n1_ := Aside0.mk (Kd.R_below (by (with_reducible repeat (first | apply Kd.R_alloc | apply Kd.R_drewN | apply Kd.R_drew)); exact HO_11.out) hb); have n2_ := Aside0.mk (Kd.R_below (by (with_reducible repeat (first | apply Kd.R_alloc | apply Kd.R_drewN | apply Kd.R_drew)); exact HO_12.out) hb); have n3_ := Aside0.mk (Kd.S_elder' (by (with_reducible repeat (first | apply Kd.S_alloc | apply Kd.S_drewN | apply Kd.S_drew)); exact HO126.out) (Kd.S_base ho0) hb); have n4_ := Aside0.mk (Kd.S_lower (Kd.S_new' (Kd.S_new' ho0 (Kd.S_lt (by (with_reducible repeat (first | apply Kd.S_alloc | apply Kd.S_drewN | apply Kd.S_drew)); exact HO_7.out))) (Kd.S_lt (by (with_reducible repeat (first | apply Kd.S_alloc | apply Kd.S_drewN | apply Kd.S_drew)); exact HO126.out))) (below_size (by repeat (first | (with_reducible first | exact HB.out | apply below_alloc | apply pw_below_drewN | apply below_drew1) | exact HB.out)))); have n5_ := Aside0.mk (below_step (by repeat (first | (with_reducible first | exact HB.out | apply below_alloc | apply pw_below_drewN | apply below_drew1) | exact HB.out)) hb); clear HO_7; clear HO_11; clear HO_12; clear HO126; clear HB; have HO_7 := n0_; have HO_11 := n1_; have HO_12 := n2_; have HO126 := n3_; have HO130 := n4_; have HB := n5_; clear n0_ n1_ n2_ n3_ n4_ n5_; (try clear hb); (try clear hb2); (try clear hk); (try clear hi); (try clear ho0); obtain ⟨Ao87, co87, eo87⟩ := Kd.S_slice HO130.out; subst eo87) | ((with_reducible refine gate_callee (f := 55) rfl ?_); refine goesL_ (some 105) rfl rfl Try.func55 (by kernel_rfl) rfl #[.slice Ao85 t123.length co85, .slice Ao87 t127.length co87] rfl (by (try simp only [List.map_toArray, List.map_cons, List.map_nil]); first | done | rfl | (simp only [List.length_drop, List.length_take]; rfl)) ?_; (with_reducible refine (mooringref02_Mul.calls k3 _ _ t123 _ _ t127 t131 t132 _ ?side1 ?side2 ?side3 ?side4 A46.out).mono ?_); (case side1 => repeat (first | exact (Kd.S_reads' HO126.out).2.2 | (with_reducible refine Kd.C_alloc ?_ _) | (with_reducible refine Kd.C_drewN ?_ _) | (with_reducible refine Kd.C_drew ?_))); (case side2 => exact (Kd.S_reads' HO126.out).2.1); (case side3 => repeat (first | exact (Kd.S_reads' HO130.out).2.2 | (with_reducible refine Kd.C_alloc ?_ _) | (with_reducible refine Kd.C_drewN ?_ _) | (with_reducible refine Kd.C_drew ?_))); (case side4 => exact (Kd.S_reads' HO130.out).2.1); rintro e w88 ⟨v133, rfl, ho0, hb⟩; refine ⟨_, rfl, ?_⟩; have n0_ := Aside0.mk (Kd.S_elder' (by (with_reducible repeat (first | apply Kd.S_alloc | apply Kd.S_drewN | apply Kd.S_drew)); exact HO_7.out) (Kd.S_base ho0) hb); have n1_ := Aside0.mk (Kd.R_below (by (with_reducible repeat (first | apply Kd.R_alloc | apply Kd.R_drewN | apply Kd.R_drew)); exact HO_11.out) hb); have n2_ := Aside0.mk (Kd.R_below (by (with_reducible repeat (first | apply Kd.R_alloc | apply Kd.R_drewN | apply Kd.R_drew)); exact HO_12.out) hb); have n3_ := Aside0.mk (Kd.S_elder' (by (with_reducible repeat (first | apply Kd.S_alloc | apply Kd.S_drewN | apply Kd.S_drew)); exact HO126.out) (Kd.S_base ho0) hb); have n4_ := Aside0.mk (Kd.S_elder' (by (with_reducible repeat (first | apply Kd.S_alloc | apply Kd.S_drewN | apply Kd.S_drew)); exact HO130.out) (Kd.S_base ho0) hb); have n5_ := Aside0.mk (Kd.S_lower (Kd.S_new' (Kd.S_new' (Kd.S_new' ho0 (Kd.S_lt (by (with_reducible repeat (first | apply Kd.S_alloc | apply Kd.S_drewN | apply Kd.S_drew)); exact HO_7.out))) (Kd.S_lt (by (with_reducible repeat (first | apply Kd.S_alloc | apply Kd.S_drewN | apply Kd.S_drew)); exact HO126.out))) (Kd.S_lt (by (with_reducible repeat (first | apply Kd.S_alloc | apply Kd.S_drewN | apply Kd.S_drew)); exact HO130.out))) (below_size (by repeat (first | (with_reducible first | exact HB.out | apply below_alloc | apply pw_below_drewN | apply below_drew1) | exact HB.out)))); have n6_ := Aside0.mk (below_step (by repeat (first | (with_reducible first | exact HB.out | apply below_alloc | apply pw_below_drewN | apply below_drew1) | exact HB.out)) hb); clear HO_7; clear HO_11; clear HO_12; clear HO126; clear HO130; clear HB; have HO_7 := n0_; have HO_11 := n1_; have HO_12 := n2_; have HO126 := n3_; have HO130 := n4_; have HO134 := n5_; have HB := n6_; clear n0_ n1_ n2_ n3_ n4_ n5_ n6_; (try clear hb); (try clear hb2); (try clear hk); (try clear hi); (try clear ho0)))
                            go_ret
                            exact ⟨by first | rfl | (simp [errW_none, errW_some] <;> rfl) | (simp only [← hji19]; first | rfl | (simp [errW_none, errW_some] <;> rfl)) | (simp [*, errW_none, errW_some] <;> rfl), by repeat (first | (with_reducible first | exact HB.out | apply below_alloc | apply pw_below_drewN | apply below_drew1) | exact HB.out)⟩
                        · rw [if_neg c47] at H
                          have c47b0 : (t124 == 0) = false := beq_eq_false_iff_ne.mpr c47
                          have c47b1 : (t124 != 0) = true := bne_iff_ne.mpr c47
                          obtain rfl := Option.some.inj H
                          obtain ⟨Ao89, co89, eo89⟩ := Kd.R_slice HO_11.out
                          subst eo89
                          obtain ⟨Ao90, co90, eo90⟩ := Kd.S_slice HO_7.out
                          subst eo90
                          go_wp2_with (first | ((with_reducible refine gate_callee (f := 69) rfl ?_); refine goesL_ (some 94) rfl rfl Try.func69 (by kernel_rfl) rfl #[.slice Ao90 t101.length co90, .slice Ao89 x11_3.length co89] rfl (by (try simp only [List.map_toArray, List.map_cons, List.map_nil]); first | done | rfl | (simp only [List.length_drop, List.length_take]; rfl)) ?_; (with_reducible refine (matrix_Rows.calls k3 _ _ t101 _ _ x11_3 t123 t124 _ ?side1 ?side2 ?side3 ?side4 A44.out).mono ?_); (case side1 => repeat (first | exact (Kd.S_reads' HO_7.out).2.2 | (with_reducible refine Kd.C_alloc ?_ _) | (with_reducible refine Kd.C_drewN ?_ _) | (with_reducible refine Kd.C_drew ?_))); (case side2 => exact (Kd.S_reads' HO_7.out).2.1); (case side3 => repeat (first | exact (Kd.R_reads' HO_11.out).2.2 | (with_reducible refine Kd.C_alloc ?_ _) | (with_reducible refine Kd.C_drewN ?_ _) | (with_reducible refine Kd.C_drew ?_))); (case side4 => exact (Kd.R_reads' HO_11.out).2.1); rintro e w91 ⟨v125, rfl, ho0, hb⟩; refine ⟨_, rfl, ?_⟩; have n0_ := Aside0.mk (Kd.S_elder' (by (with_reducible repeat (first | apply Kd.S_alloc | apply Kd.S_drewN | apply Kd.S_drew)); exact HO_7.out) (Kd.S_base ho0) hb); have n1_ := Aside0.mk (Kd.R_below (by (with_reducible repeat (first | apply Kd.R_alloc | apply Kd.R_drewN | apply Kd.R_drew)); exact HO_11.out) hb); have n2_ := Aside0.mk (Kd.R_below (by (with_reducible repeat (first | apply Kd.R_alloc | apply Kd.R_drewN | apply Kd.R_drew)); exact HO_12.out) hb); have n3_ := Aside0.mk (Kd.S_lower (Kd.S_new' ho0 (Kd.S_lt (by (with_reducible repeat (first | apply Kd.S_alloc | apply Kd.S_drewN | apply Kd.S_drew)); exact HO_7.out))) (below_size (by repeat (first | (with_reducible first | exact HB.out | apply below_alloc | apply pw_below_drewN | apply below_drew1) | exact HB.out)))); have n4_ := Aside0.mk (below_step (by repeat (first | (with_reducible first | exact HB.out | apply below_alloc | apply pw_below_drewN | apply below_drew1) | exact HB.out)) hb); clear HO_7; clear HO_11; clear HO_12; clear HB; have HO_7 := n0_; have HO_11 := n1_; have HO_12 := n2_; have HO126 := n3_; have HB := n4_; clear n0_ n1_ n2_ n3_ n4_; (try clear hb); (try clear hb2); (try clear hk); (try clear hi); (try clear ho0); obtain ⟨Ao92, co92, eo92⟩ := Kd.S_slice HO126.out; subst eo92) | ((with_reducible refine gate_callee (f := 52) rfl ?_); refine goesL_ (some 99) rfl rfl Try.func52 (by kernel_rfl) rfl #[.slice Ao92 t123.length co92] rfl (by (try simp only [List.map_toArray, List.map_cons, List.map_nil]); first | done | rfl | (simp only [List.length_drop, List.length_take]; rfl)) ?_; (with_reducible refine (matrix_Inverse.calls _ _ t123 t127 t128 _ ?side1 ?side2 A45.out).mono ?_); (case side1 => repeat (first | exact (Kd.S_reads' HO126.out).2.2 | (with_reducible refine Kd.C_alloc ?_ _) | (with_reducible refine Kd.C_drewN ?_ _) | (with_reducible refine Kd.C_drew ?_))); (case side2 => exact (Kd.S_reads' HO126.out).2.1); rintro e w93 ⟨v129, rfl, ho0, hb⟩; refine ⟨_, rfl, ?_⟩; have n0_ := Aside0.mk (Kd.S_elder' (by (with_reducible repeat (first | apply Kd.S_alloc | apply Kd.S_drewN | apply Kd.S_drew)); exact HO_7.out) (Kd.S_base ho0) hb); have n1_ := Aside0.mk (Kd.R_below (by (with_reducible repeat (first | apply Kd.R_alloc | apply Kd.R_drewN | apply Kd.R_drew)); exact HO_11.out) hb); have n2_ := Aside0.mk (Kd.R_below (by (with_reducible repeat (first | apply Kd.R_alloc | apply Kd.R_drewN | apply Kd.R_drew)); exact HO_12.out) hb); have n3_ := Aside0.mk (Kd.S_elder' (by (with_reducible repeat (first | apply Kd.S_alloc | apply Kd.S_drewN | apply Kd.S_drew)); exact HO126.out) (Kd.S_base ho0) hb); have n4_ := Aside0.mk (Kd.S_lower (Kd.S_new' (Kd.S_new' ho0 (Kd.S_lt (by (with_reducible repeat (first | apply Kd.S_alloc | apply Kd.S_drewN | apply Kd.S_drew)); exact HO_7.out))) (Kd.S_lt (by (with_reducible repeat (first | apply Kd.S_alloc | apply Kd.S_drewN | apply Kd.S_drew)); exact HO126.out))) (below_size (by repeat (first | (with_reducible first | exact HB.out | apply below_alloc | apply pw_below_drewN | apply below_drew1) | exact HB.out)))); have n5_ := Aside0.mk (below_step (by repeat (first | (with_reducible first | exact HB.out | apply below_alloc | apply pw_below_drewN | apply below_drew1) | exact HB.out)) hb); clear HO_7; clear HO_11; clear HO_12; clear HO126; clear HB; have HO_7 := n0_; have HO_11 := n1_; have HO_12 := n2_; have HO126 := n3_; have HO130 := n4_; have HB := n5_; clear n0_ n1_ n2_ n3_ n4_ n5_; (try clear hb); (try clear hb2); (try clear hk); (try clear hi); (try clear ho0); obtain ⟨Ao94, co94, eo94⟩ := Kd.S_slice HO130.out; subst eo94) | ((with_reducible refine gate_callee (f := 55) rfl ?_); refine goesL_ (some 105) rfl rfl Try.func55 (by kernel_rfl) rfl #[.slice Ao92 t123.length co92, .slice Ao94 t127.length co94] rfl (by (try simp only [List.map_toArray, List.map_cons, List.map_nil]); first | done | rfl | (simp only [List.length_drop, List.length_take]; rfl)) ?_; (with_reducible refine (mooringref02_Mul.calls k3 _ _ t123 _ _ t127 t131 t132 _ ?side1 ?side2 ?side3 ?side4 A46.out).mono ?_); (case side1 => repeat (first | exact (Kd.S_reads' HO126.out).2.2 | (with_reducible refine Kd.C_alloc ?_ _) | (with_reducible refine Kd.C_drewN ?_ _) | (with_reducible refine Kd.C_drew ?_))); (case side2 => exact (Kd.S_reads' HO126.out).2.1); (case side3 => repeat (first | exact (Kd.S_reads' HO130.out).2.2 | (with_reducible refine Kd.C_alloc ?_ _) | (with_reducible refine Kd.C_drewN ?_ _) | (with_reducible refine Kd.C_drew ?_))); (case side4 => exact (Kd.S_reads' HO130.out).2.1); rintro e w95 ⟨v133, rfl, ho0, hb⟩; refine ⟨_, rfl, ?_⟩; have n0_ := Aside0.mk (Kd.S_elder' (by (with_reducible repeat (first | apply Kd.S_alloc | apply Kd.S_drewN | apply Kd.S_drew)); exact HO_7.out) (Kd.S_base ho0) hb); have n1_ := Aside0.mk (Kd.R_below (by (with_reducible repeat (first | apply Kd.R_alloc | apply Kd.R_drewN | apply Kd.R_drew)); exact HO_11.out) hb); have n2_ := Aside0.mk (Kd.R_below (by (with_reducible repeat (first | apply Kd.R_alloc | apply Kd.R_drewN | apply Kd.R_drew)); exact HO_12.out) hb); have n3_ := Aside0.mk (Kd.S_elder' (by (with_reducible repeat (first | apply Kd.S_alloc | apply Kd.S_drewN | apply Kd.S_drew)); exact HO126.out) (Kd.S_base ho0) hb); have n4_ := Aside0.mk (Kd.S_elder' (by (with_reducible repeat (first | apply Kd.S_alloc | apply Kd.S_drewN | apply Kd.S_drew)); exact HO130.out) (Kd.S_base ho0) hb); have n5_ := Aside0.mk (Kd.S_lower (Kd.S_new' (Kd.S_new' (Kd.S_new' ho0 (Kd.S_lt (by (with_reducible repeat (first | apply Kd.S_alloc | apply Kd.S_drewN | apply Kd.S_drew)); exact HO_7.out))) (Kd.S_lt (by (with_reducible repeat (first | apply Kd.S_alloc | apply Kd.S_drewN | apply Kd.S_drew)); exact HO126.out))) (Kd.S_lt (by (with_reducible repeat (first | apply Kd.S_alloc | apply Kd.S_drewN | apply Kd.S_drew)); exact HO130.out))) (below_size (by repeat (first | (with_reducible first | exact HB.out | apply below_alloc | apply pw_below_drewN | apply below_drew1) | exact HB.out)))); have n6_ := Aside0.mk (below_step (by repeat (first | (with_reducible first | exact HB.out | apply below_alloc | apply pw_below_drewN | apply below_drew1) | exact HB.out)) hb); clear HO_7; clear HO_11; clear HO_12; clear HO126; clear HO130; clear HB; have HO_7 := n0_; have HO_11 := n1_; have HO_12 := n2_; have HO126 := n3_; have HO130 := n4_; have HO134 := n5_; have HB := n6_; clear n0_ n1_ n2_ n3_ n4_ n5_ n6_; (try clear hb); (try clear hb2); (try clear hk); (try clear hi); (try clear ho0)))
                          go_ret
                          exact ⟨by first | rfl | (simp [errW_none, errW_some] <;> rfl) | (simp only [← hji19]; first | rfl | (simp [errW_none, errW_some] <;> rfl)) | (simp [*, errW_none, errW_some] <;> rfl), by repeat (first | (with_reducible first | exact HB.out | apply below_alloc | apply pw_below_drewN | apply below_drew1) | exact HB.out)⟩
                · rw [if_neg c21] at H
                  exact absurd H (by simp)
              · rw [if_neg c20] at H
                exact absurd H (by simp)

/-- THE ONE PURE STATEMENT of mooringlaw02_MatrixCauchy: yours. -/
def mooringlaw02_MatrixCauchy.Pure : Prop := ∀ (a0 : Int) (a1 : Int) (l2 : List Int), (Lit.int .i64 a0).wf = true → (Lit.int .i64 a1).wf = true → l2.length ≤ maxLen → l2.length * 1 ≤ 140737488351232 → (∀ x ∈ l2, (Lit.int .u8 x).wf = true) → ∃ k, mooringlaw02_MatrixCauchy.f k a0 a1 l2 = some true
theorem mooringlaw02_MatrixCauchy.walk (P : mooringlaw02_MatrixCauchy.Pure) (a0 : Int) (a1 : Int) (a2 : Option Addr) (len2 cap2 : Nat) (z2 : List Int) (w : World) (w0 : (Lit.int .i64 a0).wf = true) (w1 : (Lit.int .i64 a1).wf = true) (w2 : (a2 = none ∧ len2 = 0 ∧ cap2 = 0 ∧ z2 = []) ∨ ∃ x, a2 = some x ∧ len2 ≤ cap2 ∧ cap2 ≤ maxLen ∧ z2.length = cap2 ∧ (∀ i, i < z2.length → w.cell? (x.add i) = some (.int .u8 (z2.getD i 0))) ∧ ∀ n ∈ z2, (Lit.int .u8 n).wf = true) (y2 : len2 * 1 ≤ 140737488351232) :
    Calls Try.prog 17 #[.int .i64 a0, .int .i64 a1, .slice a2 len2 cap2] w fun e w' => e = .returned (.bool true) ∧ Below w.heap.size w w' := by
  obtain ⟨l2, rfl, hr2, hm2, hw2, hc2⟩ := ReadsInt.ofRowC w2
  obtain ⟨k, h⟩ := P a0 a1 l2 w0 w1 hm2 y2 hw2
  refine (mooringlaw02_MatrixCauchy.calls k a0 a1 _ _ l2 true w (Kd.C_of_reads (d := (0 : Int)) (h1 := fun _ => rfl) hr2) hc2 h).mono ?_
  rintro e w' ⟨rfl, hd⟩
  exact ⟨rfl, hd⟩

end Go.Proofs.Ytbogmlckbkogiaa.P
