import Derived.Test.YtbogmlckbkogiaaLeafD
import Derived.Shelf.Abstract
namespace Go.Proofs.Ytbogmlckbkogiaa.Leaf
open Go.RowKit Go.Proofs.YtbogmlckbkogiaaW.PrintWords Go.Proofs.YtbogmlckbkogiaaW.PrintLast
set_option linter.unusedVariables false
set_option linter.unusedSimpArgs false
abbrev KR : Kd (List Int) := Kd.slice 5 (Kd.int .u8)
theorem rows_at {w : World} {A : Option Addr} {n : Nat} {xs : List (List Int)} (h : Kd.C KR w A n xs) (j : Nat) (hj : j < n) :
    ∃ ad A' c', A = some ad ∧ w.cell? (ad.add j) = some (.slice A' (xs.getD j []).length c') ∧ (xs.getD j []).length ≤ c' ∧ Kd.C (Kd.int .u8) w A' (xs.getD j []).length (xs.getD j []) := by
  obtain ⟨ad, e, hc⟩ := h.2.2 (by omega)
  have hl : j < xs.length := by have := h.1; omega
  obtain ⟨c, hs, ⟨A', c', rfl, h1, h2⟩, hcell⟩ := hc j _ (List.getElem?_eq_getElem hl)
  have hx : xs.getD j [] = xs[j] := by rw [List.getD_eq_getElem?_getD, List.getElem?_eq_getElem hl]; rfl
  rw [hx]
  refine ⟨ad, A', c', e, ?_, h1, h2⟩
  have := hcell 0 _ rfl
  simpa [Kd.slice] using this

/-- The first index at which p holds; -1 if none. -/
def firstP (p : Nat → Bool) (n : Nat) : Int := match (List.range n).find? p with | some j => (j : Int) | none => -1
theorem firstP_hit (p : Nat → Bool) (n k : Nat) (hk : k < n) (h : p k = true) (hb : ∀ j, j < k → p j = false) : firstP p n = k := by
  unfold firstP
  have : (List.range n).find? p = some k := by
    rw [List.find?_range_eq_some]
    exact ⟨h, List.mem_range.2 hk, fun j hj => by simp [hb j hj]⟩
  rw [this]
theorem firstP_miss (p : Nat → Bool) (n : Nat) (hb : ∀ j, j < n → p j = false) : firstP p n = -1 := by
  unfold firstP
  have : (List.range n).find? p = none := by
    rw [List.find?_eq_none]
    intro j hj
    simp [hb j (List.mem_range.1 hj)]
  rw [this]
theorem firstP_nonneg (p : Nat → Bool) (n : Nat) : decide (0 ≤ firstP p n) = (List.range n).any p := by
  unfold firstP
  cases h : (List.range n).find? p with
  | none =>
    rw [List.find?_eq_none] at h
    symm
    simp only [show ¬ (0 : Int) ≤ -1 by decide, decide_false]
    rw [List.any_eq_false]
    intro x hx
    have := h x hx
    simpa using this
  | some j =>
    simp only [Int.natCast_nonneg, decide_true]
    symm
    rw [List.any_eq_true]
    exact ⟨j, List.mem_of_find?_eq_some h, by simpa using List.find?_some h⟩

set_option maxHeartbeats 2000000 in
set_option maxRecDepth 100000 in
theorem indexFunc_calls (p : Nat → Bool) (g : Nat) (lb : Array Value) (eg : ∀ args w, (callFunc g args).run Try.prog w = .ok (.enter g args) w) (A : Option Addr) (n c : Nat) (vs : Nat → Value) (w : World)
    (hbig : n ≤ 9223372036854775807) (hc : 0 < n → ∃ ad, A = some ad ∧ ∀ j, j < n → w.cell? (ad.add j) = some (vs j)) (hv : ∀ j, j < n → (vs j).oneCell' = true)
    (hp : ∀ W j, j < n → Below w.heap.size w W → Calls Try.prog g (#[vs j] ++ lb) W fun e w' => e = .returned (.bool (p j)) ∧ Below w.heap.size w w') :
    Calls Try.prog 99 #[.slice A n c, .func (.func g) #[] lb] w fun e w' => e = .returned (.int .i64 (firstP p n)) ∧ Below w.heap.size w w' := by
  have HC := Aside0.mk hc
  have HP := Aside0.mk hp
  clear hc hp
  go_enter Try.func99, Try.ntmps99
  go_wp2
  go_loopg [5, 8] n (fun gg _ s8 wr => ∃ kk : Nat, kk ≤ n ∧ n - kk ≤ gg ∧ s8 = .int .i64 kk ∧ Aside0 (Below w.heap.size w wr) ∧ Aside0 (∀ j, j < kk → p j = false))
  case atStart => exact ⟨0, Nat.zero_le _, by omega, rfl, ⟨Below.refl _ w⟩, ⟨fun j hj => absurd hj (Nat.not_lt_zero _)⟩⟩
  case round =>
    obtain ⟨kk, hkk, hg, rfl, BW, A0⟩ := hrel
    by_cases hlt : kk < n
    · have hltz : (kk : Int) < (n : Int) := by omega
      obtain ⟨ad, rfl, hcell⟩ := HC.out (by omega)
      have l2 := pw_cell_below BW.out (hcell kk hlt)
      have hcall := HP.out wr kk hlt BW.out
      have hone := hv kk hlt
      clear hcell HC
      generalize vs kk = y at l2 hcall hone
      cases hq : p kk with
      | true =>
        rw [hq] at hcall
        go_wp2_with fail
        refine hcall.mono ?_
        rintro e w' ⟨rfl, hb'⟩
        clear hcall
        go_wp2
        go_ret
        refine ⟨?_, hb'⟩
        rw [firstP_hit p n kk hlt hq A0.out]
        rfl
      | false =>
        rw [hq] at hcall
        go_wp2_with fail
        refine hcall.mono ?_
        rintro e w' ⟨rfl, hb'⟩
        clear hcall
        go_wp2
        go_roundg (n - (kk + 1))
        case measure => omega
        case rel =>
          refine ⟨kk + 1, by omega, by omega, by go_num, ⟨hb'⟩, ⟨fun j hj => ?_⟩⟩
          by_cases e : j = kk
          · subst e
            exact hq
          · exact A0.out j (by omega)
    · have hltz : ¬ (kk : Int) < (n : Int) := by omega
      have : kk = n := by omega
      subst this
      go_wp2
      go_ret
      refine ⟨?_, BW.out⟩
      rw [firstP_miss p kk A0.out]
      rfl

theorem enters_id {f : FuncId} {fn : Func} {c : Code} (hf : Try.prog.funcs[f]? = some fn) (hname : (fn.name == "runtime.NumGoroutine") = false) (hb : fn.body = some c) : ∀ args w, (callFunc f args).run Try.prog w = .ok (.enter f args) w :=
  fun args w => enters_of hf hname hb args w
set_option maxHeartbeats 2000000 in
set_option maxRecDepth 100000 in
theorem containsFunc_calls (p : Nat → Bool) (g : Nat) (lb : Array Value) (eg : ∀ args w, (callFunc g args).run Try.prog w = .ok (.enter g args) w) (A : Option Addr) (n c : Nat) (vs : Nat → Value) (w : World)
    (hbig : n ≤ 9223372036854775807) (hc : 0 < n → ∃ ad, A = some ad ∧ ∀ j, j < n → w.cell? (ad.add j) = some (vs j)) (hv : ∀ j, j < n → (vs j).oneCell' = true)
    (hp : ∀ W j, j < n → Below w.heap.size w W → Calls Try.prog g (#[vs j] ++ lb) W fun e w' => e = .returned (.bool (p j)) ∧ Below w.heap.size w w') :
    Calls Try.prog 101 #[.slice A n c, .func (.func g) #[] lb] w fun e w' => e = .returned (.bool ((List.range n).any p)) ∧ Below w.heap.size w w' := by
  rw [← firstP_nonneg]
  have H := Aside0.mk (indexFunc_calls p g lb eg A n c vs w hbig hc hv hp)
  clear hc hv hp eg
  go_enter Try.func101, Try.ntmps101
  go_wp2_with (go_at_call 99; refine H.out.mono ?_; rintro e w' ⟨rfl, hb⟩)
  go_ret
  exact ⟨rfl, hb⟩

/-! ### code.even -/
set_option maxHeartbeats 2000000 in
set_option maxRecDepth 100000 in
theorem even1_calls (A A' A0' : Option Addr) (ad : Addr) (n c n' c' n0' c0' B : Nat) (W : World) (h0 : 0 < n) (hA : A = some ad) (hB : W.cell? ⟨B, 0, none⟩ = some (.slice A n c)) (hc : W.cell? ad = some (.slice A0' n0' c0')) :
    Calls Try.prog 102 #[.slice A' n' c', .pointer (some ⟨B, 0, none⟩)] W fun e w' => e = .returned (.bool ((n' : Int) != (n0' : Int))) ∧ w' = W := by
  subst hA
  have hn : (0 : Int) < (n : Int) := by omega
  go_enter Try.func102, Try.ntmps102
  go_wp2
  go_ret
  exact ⟨rfl, rfl⟩
/-- The row's cells, and what they are. -/
theorem rows_vals {w : World} {A : Option Addr} {n : Nat} {xs : List (List Int)} (h : Kd.C KR w A n xs) : ∃ (As : Nat → Option Addr) (cs : Nat → Nat), (0 < n → ∃ ad, A = some ad ∧ ∀ j, j < n → w.cell? (ad.add j) = some (.slice (As j) (xs.getD j []).length (cs j))) ∧
    ∀ j, j < n → (xs.getD j []).length ≤ cs j ∧ Kd.C (Kd.int .u8) w (As j) (xs.getD j []).length (xs.getD j []) := by
  have h1 : ∀ j, ∃ (p : Option Addr × Nat), j < n → ∃ ad, A = some ad ∧ w.cell? (ad.add j) = some (.slice p.1 (xs.getD j []).length p.2) ∧ (xs.getD j []).length ≤ p.2 ∧ Kd.C (Kd.int .u8) w p.1 (xs.getD j []).length (xs.getD j []) := by
    intro j
    by_cases hj : j < n
    · obtain ⟨ad, A', c', h1, h2, h3, h4⟩ := rows_at h j hj
      exact ⟨(A', c'), fun _ => ⟨ad, h1, h2, h3, h4⟩⟩
    · exact ⟨(none, 0), fun h => absurd h hj⟩
  refine ⟨fun j => (Classical.choose (h1 j)).1, fun j => (Classical.choose (h1 j)).2, fun h0 => ?_, fun j hj => ?_⟩
  · obtain ⟨ad, e, _⟩ := Classical.choose_spec (h1 0) h0
    refine ⟨ad, e, fun j hj => ?_⟩
    obtain ⟨ad', e', h2, _⟩ := Classical.choose_spec (h1 j) hj
    rw [e] at e'
    cases e'
    exact h2
  · obtain ⟨ad', e', _, h3⟩ := Classical.choose_spec (h1 j) hj
    exact h3
def unevenAt (l0 : List (List Int)) (j : Nat) : Bool := ((l0.getD j []).length : Int) != ((l0.getD 0 []).length : Int)
def code_even.f (l0 : List (List Int)) (a1 : Int) : Option Bool := some (((l0.length : Int) == a1) && decide (a1 > 0) && !((List.range l0.length).any (unevenAt l0)))
set_option maxHeartbeats 2000000 in
set_option maxRecDepth 100000 in
theorem code_even.calls (A0 : Option Addr) (c0 : Nat) (l0 : List (List Int)) (a1 : Int) (r : Bool) (w : World) (hr0 : Kd.C KR w A0 l0.length l0) (hc0 : l0.length ≤ c0) (h : code_even.f l0 a1 = some r) :
    Calls Try.prog 95 #[.slice A0 l0.length c0, .int .i64 a1] w fun e w' => e = .returned (.bool r) ∧ Below w.heap.size w w' := by
  obtain rfl := Option.some.inj h
  clear h
  have hl : l0.length ≤ 9223372036854775807 := hr0.2.1
  have eg := enters_id Try.func102 (by kernel_rfl) rfl
  by_cases h1 : (l0.length : Int) = a1
  · have e1 : ((l0.length : Int) == a1) = true := beq_iff_eq.2 h1
    by_cases h2 : a1 > 0
    · have e2 : decide (0 < a1) = true := decide_eq_true h2
      have H : ∀ W : World, W.heap.size = w.heap.size + 1 → Below w.heap.size w W → W.cell? ⟨w.heap.size, 0, none⟩ = some (.slice A0 l0.length c0) →
          Calls Try.prog 101 #[.slice A0 l0.length c0, .func (.func 102) #[] #[.pointer (some ⟨w.heap.size, 0, none⟩)]] W fun e w' => e = .returned (.bool ((List.range l0.length).any (unevenAt l0))) ∧ Below w.heap.size w w' := by
        intro W hsz hB hbox
        obtain ⟨As, cs, hcell, hrow⟩ := rows_vals hr0
        have h0 : 0 < l0.length := by omega
        obtain ⟨ad, e, hce⟩ := hcell h0
        refine (containsFunc_calls (unevenAt l0) 102 #[.pointer (some ⟨w.heap.size, 0, none⟩)] eg A0 l0.length c0 (fun j => .slice (As j) (l0.getD j []).length (cs j)) W hl (fun _ => ⟨ad, e, fun j hj => pw_cell_below hB (hce j hj)⟩) (fun j _ => rfl) ?_).mono ?_
        · intro W2 j hj hB2
          have hb2 : W2.cell? ⟨w.heap.size, 0, none⟩ = some (.slice A0 l0.length c0) := pw_cell_below hB2 hbox
          have hz : W2.cell? ad = some (.slice (As 0) (l0.getD 0 []).length (cs 0)) := by
            have := pw_cell_below hB2 (pw_cell_below hB (hce 0 h0))
            rwa [Addr.add_zero'] at this
          exact (even1_calls A0 (As j) (As 0) ad l0.length c0 _ _ _ _ w.heap.size W2 h0 e hb2 hz).mono fun _ _ ⟨a, b⟩ => ⟨a, by rw [b]; exact hB2⟩
        · rintro e w' ⟨rfl, hb⟩
          exact ⟨rfl, below_step hB hb⟩
      have HC := Aside0.mk H
      clear H hr0 eg
      rw [e1, decide_eq_true h2]
      generalize (List.range l0.length).any (unevenAt l0) = b at HC ⊢
      clear h1 h2
      go_enter Try.func95, Try.ntmps95
      go_wp2_with (go_at_call 101; refine (HC.out _ ?s1 ?s2 ?s3).mono ?_; (case s1 => simp); (case s2 => exact (Below.refl _ _).alloc (Nat.le_refl _) _); (case s3 => simp); rintro e w' ⟨rfl, hb⟩)
      go_ret
      exact ⟨rfl, hb⟩
    · have e2 : decide (0 < a1) = false := decide_eq_false h2
      have e3 : decide (a1 > 0) = false := decide_eq_false h2
      rw [e1, e3]
      clear eg hr0 h1 h2
      go_enter Try.func95, Try.ntmps95
      go_wp2
      go_ret
      exact ⟨rfl, (Below.refl _ _).alloc (Nat.le_refl _) _⟩
  · have e1 : ((l0.length : Int) == a1) = false := beq_eq_false_iff_ne.2 h1
    rw [e1]
    clear eg hr0 h1
    go_enter Try.func95, Try.ntmps95
    go_wp2
    go_ret
    exact ⟨rfl, (Below.refl _ _).alloc (Nat.le_refl _) _⟩
end Go.Proofs.Ytbogmlckbkogiaa.Leaf
