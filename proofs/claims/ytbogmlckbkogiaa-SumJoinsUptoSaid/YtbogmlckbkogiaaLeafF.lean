import Derived.Test.YtbogmlckbkogiaaLeafE
namespace Go.Proofs.Ytbogmlckbkogiaa.Leaf
open Go.RowKit Go.Proofs.YtbogmlckbkogiaaW.PrintWords Go.Proofs.YtbogmlckbkogiaaW.PrintLast
set_option linter.unusedVariables false
set_option linter.unusedSimpArgs false
/-! ### slices.Equal at []byte -/
def slices_Equal_byte_byte.f (l0 : List Int) (l1 : List Int) : Option Bool := some (l0 == l1)
theorem eq_hit (l m : List Int) (k : Nat) (hk : k < l.length) (h : (rd l k != rd m k) = true) : (l == m) = false := by
  rw [beq_eq_false_iff_ne]
  rintro rfl
  simp at h
theorem eq_all (l m : List Int) (hl : l.length = m.length) (h : ∀ j, j < l.length → (rd l j != rd m j) = false) : (l == m) = true := by
  rw [beq_iff_eq]
  apply List.ext_getElem hl
  intro i h1 h2
  have := h i h1
  rw [bne_eq_false_iff_eq] at this
  simpa [rd, List.getD_eq_getElem?_getD, List.getElem?_eq_getElem h1, List.getElem?_eq_getElem h2] using this
set_option maxHeartbeats 2000000 in
set_option maxRecDepth 100000 in
theorem slices_Equal_byte_byte.calls (A0 : Option Addr) (c0 : Nat) (l0 : List Int) (A1 : Option Addr) (c1 : Nat) (l1 : List Int) (r : Bool) (w : World) (hr0 : Kd.C (Kd.int .u8) w A0 l0.length l0) (hc0 : l0.length ≤ c0) (hr1 : Kd.C (Kd.int .u8) w A1 l1.length l1) (hc1 : l1.length ≤ c1) (h : slices_Equal_byte_byte.f l0 l1 = some r) :
    Calls Try.prog 104 #[.slice A0 l0.length c0, .slice A1 l1.length c1] w fun e w' => e = .returned (.bool r) ∧ Drawn0 w w' := by
  obtain rfl := Option.some.inj h
  clear h
  have hl : l0.length ≤ 9223372036854775807 := hr0.2.1
  by_cases hlen : l0.length = l1.length
  · have HR0 := Aside0.mk hr0
    have HR1 := Aside0.mk hr1
    have HL := Aside0.mk hlen
    have e1 : ((l0.length : Int) != (l1.length : Int)) = false := by simp [hlen]
    have e2 : (l0.length == l1.length) = true := by simp [hlen]
    clear hr0 hr1 hlen
    go_enter Try.func104, Try.ntmps104
    go_wp2
    go_loopg [4, 5, 13] l0.length (fun gg s4 s5 s13 wr => ∃ kk m : Nat, kk ≤ l0.length ∧ l0.length - kk ≤ gg ∧ s4 = .bool false ∧ s13 = .int .i64 kk ∧ wr = w.drewN m ∧ Aside0 (∀ j, j < kk → (rd l0 j != rd l1 j) = false))
    case atStart => exact ⟨0, 0, Nat.zero_le _, by omega, rfl, rfl, rfl, ⟨fun j hj => absurd hj (Nat.not_lt_zero _)⟩⟩
    case round =>
      obtain ⟨kk, m, hkk, hg, rfl, rfl, rfl, AX⟩ := hrel
      by_cases hlt : kk < l0.length
      · have hlt0 : (kk : Int) < (l0.length : Int) := by omega
        have hlt1 : (kk : Int) < (l1.length : Int) := by have := HL.out; omega
        have hk0 : (0 : Int) ≤ (kk : Int) := Int.natCast_nonneg _
        obtain ⟨ad0, e0, hx0⟩ := Kd.at_int HR0.out (kk : Int) hk0 hlt0
        obtain ⟨ad1, e1', hx1⟩ := Kd.at_int HR1.out (kk : Int) hk0 hlt1
        cases e0
        cases e1'
        rw [show ((kk : Int)).toNat = kk from rfl] at hx0 hx1
        have HN := Aside0.mk (eq_hit l0 l1 kk hlt)
        cases hq : (rd l0 kk != rd l1 kk) with
        | true =>
          have HQ := Aside0.mk hq
          generalize rd l0 kk = x at hx0 hq
          generalize rd l1 kk = y at hx1 hq
          go_wp2_with fail
          go_quiet (fail)
          go_wp2
          go_ret
          exact ⟨by rw [HN.out HQ.out]; rfl, ⟨⟨m + nq, World.drewN_drewN ..⟩⟩⟩
        | false =>
          have HQ := Aside0.mk hq
          generalize rd l0 kk = x at hx0 hq
          generalize rd l1 kk = y at hx1 hq
          clear HN
          go_wp2_with fail
          go_quiet (fail)
          go_wp2
          go_roundg (l0.length - (kk + 1))
          case measure => omega
          case rel =>
            refine ⟨kk + 1, m + _, by omega, by omega, rfl, by go_num, rfl, ⟨fun j hj => ?_⟩⟩
            by_cases e : j = kk
            · rw [e]; exact HQ.out
            · exact AX.out j (by omega)
      · have hlt0 : ¬ (kk : Int) < (l0.length : Int) := by omega
        have hkl : kk = l0.length := by omega
        have HE := Aside0.mk (eq_all l0 l1 HL.out (fun j hj => AX.out j (by omega)))
        clear hkl
        go_wp2
        go_ret
        exact ⟨by rw [HE.out]; rfl, ⟨⟨m, rfl⟩⟩⟩
  · have e1 : ((l0.length : Int) != (l1.length : Int)) = true := by simp; omega
    have e2 : (l0.length == l1.length) = false := by simp [hlen]
    have HE : Aside0 ((l0 == l1) = false) := ⟨by rw [beq_eq_false_iff_ne]; rintro rfl; exact hlen rfl⟩
    clear hr0 hr1 hlen
    go_enter Try.func104, Try.ntmps104
    go_wp2
    go_ret
    exact ⟨by rw [HE.out]; rfl, Drawn0.refl _⟩

/-! ### slices.EqualFunc over slices.Equal; code.same -/
def code_same.f (l0 : List (List Int)) (l1 : List (List Int)) : Option Bool := some (l0 == l1)
theorem eqs_hit (l m : List (List Int)) (k : Nat) (hk : k < l.length) (h : (l.getD k [] == m.getD k []) = false) : (l == m) = false := by
  rw [beq_eq_false_iff_ne] at h ⊢
  rintro rfl
  exact h rfl
theorem eqs_all (l m : List (List Int)) (hl : l.length = m.length) (h : ∀ j, j < l.length → (l.getD j [] == m.getD j []) = true) : (l == m) = true := by
  rw [beq_iff_eq]
  apply List.ext_getElem hl
  intro i h1 h2
  have := h i h1
  rw [beq_iff_eq] at this
  simpa [List.getD_eq_getElem?_getD, List.getElem?_eq_getElem h1, List.getElem?_eq_getElem h2] using this
set_option maxHeartbeats 2000000 in
set_option maxRecDepth 100000 in
theorem equalFunc_calls (A0 : Option Addr) (c0 : Nat) (l0 : List (List Int)) (A1 : Option Addr) (c1 : Nat) (l1 : List (List Int)) (w : World) (hr0 : Kd.C KR w A0 l0.length l0) (hr1 : Kd.C KR w A1 l1.length l1) :
    Calls Try.prog 103 #[.slice A0 l0.length c0, .slice A1 l1.length c1, .func (.func 104) #[] #[]] w fun e w' => e = .returned (.bool (l0 == l1)) ∧ Drawn0 w w' := by
  have hl : l0.length ≤ 9223372036854775807 := hr0.2.1
  have eg := enters_id Try.func104 (by kernel_rfl) rfl
  by_cases hlen : l0.length = l1.length
  · obtain ⟨As, cs, hcell0, hrow0⟩ := rows_vals hr0
    obtain ⟨Bs, ds, hcell1, hrow1⟩ := rows_vals hr1
    have H0 := Aside0.mk hcell0
    have H1 := Aside0.mk hcell1
    have R0 := Aside0.mk hrow0
    have R1 := Aside0.mk hrow1
    have HL := Aside0.mk hlen
    have e1 : ((l0.length : Int) != (l1.length : Int)) = false := by simp [hlen]
    have e2 : (l0.length == l1.length) = true := by simp [hlen]
    clear hr0 hr1 hlen hcell0 hcell1 hrow0 hrow1
    go_enter Try.func103, Try.ntmps103
    go_wp2
    go_loopg [6, 17] l0.length (fun gg s6 s17 wr => ∃ kk m : Nat, kk ≤ l0.length ∧ l0.length - kk ≤ gg ∧ s6 = .bool false ∧ s17 = .int .i64 kk ∧ wr = w.drewN m ∧ Aside0 (∀ j, j < kk → (l0.getD j [] == l1.getD j []) = true))
    case atStart => exact ⟨0, 0, Nat.zero_le _, by omega, rfl, rfl, rfl, ⟨fun j hj => absurd hj (Nat.not_lt_zero _)⟩⟩
    case round =>
      obtain ⟨kk, m, hkk, hg, rfl, rfl, rfl, AX⟩ := hrel
      by_cases hlt : kk < l0.length
      · have hlt0 : (kk : Int) < (l0.length : Int) := by omega
        have hltn : kk < l1.length := by have := HL.out; omega
        have hlt1 : (kk : Int) < (l1.length : Int) := by omega
        have hk0 : (0 : Int) ≤ (kk : Int) := Int.natCast_nonneg _
        obtain ⟨ad0, e0, hx0⟩ := H0.out (by omega)
        obtain ⟨ad1, e1', hx1⟩ := H1.out (by omega)
        cases e0
        cases e1'
        have hy0 : (w.drewN m).cell? (ad0.add kk) = _ := hx0 kk hlt
        have hy1 : (w.drewN m).cell? (ad1.add kk) = _ := hx1 kk hltn
        have hcall := slices_Equal_byte_byte.calls (As kk) (cs kk) (l0.getD kk []) (Bs kk) (ds kk) (l1.getD kk []) _ (w.drewN m) (R0.out kk hlt).2 (R0.out kk hlt).1 (R1.out kk hltn).2 (R1.out kk hltn).1 rfl
        have HN := Aside0.mk (eqs_hit l0 l1 kk hlt)
        clear hx0 hx1 H0 H1 R0 R1
        cases hq : (l0.getD kk [] == l1.getD kk []) with
        | false =>
          have HQ := Aside0.mk hq
          rw [hq] at hcall
          have HCL := Aside0.mk hcall
          clear hcall hq
          generalize (l0.getD kk []).length = n0 at hy0 HCL
          generalize (l1.getD kk []).length = n1 at hy1 HCL
          go_wp2_with fail
          refine HCL.out.mono ?_
          rintro e w' ⟨rfl, ⟨nq, rfl⟩⟩
          go_wp2
          go_ret
          exact ⟨by rw [HN.out HQ.out]; rfl, ⟨⟨m + nq, rfl⟩⟩⟩
        | true =>
          have HQ := Aside0.mk hq
          rw [hq] at hcall
          have HCL := Aside0.mk hcall
          clear hcall hq HN
          generalize (l0.getD kk []).length = n0 at hy0 HCL
          generalize (l1.getD kk []).length = n1 at hy1 HCL
          go_wp2_with fail
          refine HCL.out.mono ?_
          rintro e w' ⟨rfl, ⟨nq, rfl⟩⟩
          go_wp2
          go_roundg (l0.length - (kk + 1))
          case measure => omega
          case rel =>
            refine ⟨kk + 1, m + nq, by omega, by omega, rfl, by go_num, rfl, ⟨fun j hj => ?_⟩⟩
            by_cases e : j = kk
            · rw [e]; exact HQ.out
            · exact AX.out j (by omega)
      · have hlt0 : ¬ (kk : Int) < (l0.length : Int) := by omega
        have hkl : kk = l0.length := by omega
        have HE := Aside0.mk (eqs_all l0 l1 HL.out (fun j hj => AX.out j (by omega)))
        clear hkl
        go_wp2
        go_ret
        exact ⟨by rw [HE.out]; rfl, ⟨⟨m, rfl⟩⟩⟩
  · have e1 : ((l0.length : Int) != (l1.length : Int)) = true := by simp; omega
    have e2 : (l0.length == l1.length) = false := by simp [hlen]
    have HE : Aside0 ((l0 == l1) = false) := ⟨by rw [beq_eq_false_iff_ne]; rintro rfl; exact hlen rfl⟩
    clear hr0 hr1 hlen
    go_enter Try.func103, Try.ntmps103
    go_wp2
    go_ret
    exact ⟨by rw [HE.out]; rfl, Drawn0.refl _⟩
set_option maxHeartbeats 2000000 in
set_option maxRecDepth 100000 in
theorem code_same.calls (A0 : Option Addr) (c0 : Nat) (l0 : List (List Int)) (A1 : Option Addr) (c1 : Nat) (l1 : List (List Int)) (r : Bool) (w : World) (hr0 : Kd.C KR w A0 l0.length l0) (hc0 : l0.length ≤ c0) (hr1 : Kd.C KR w A1 l1.length l1) (hc1 : l1.length ≤ c1) (h : code_same.f l0 l1 = some r) :
    Calls Try.prog 98 #[.slice A0 l0.length c0, .slice A1 l1.length c1] w fun e w' => e = .returned (.bool r) ∧ Drawn0 w w' := by
  obtain rfl := Option.some.inj h
  clear h
  have H := Aside0.mk (equalFunc_calls A0 c0 l0 A1 c1 l1 w hr0 hr1)
  clear hr0 hr1
  generalize (l0 == l1) = b at H ⊢
  go_enter Try.func98, Try.ntmps98
  go_wp2_with (go_at_call 103; refine H.out.mono ?_; rintro e w' ⟨rfl, ⟨nq, rfl⟩⟩)
  go_ret
  exact ⟨rfl, ⟨⟨nq, rfl⟩⟩⟩
end Go.Proofs.Ytbogmlckbkogiaa.Leaf
