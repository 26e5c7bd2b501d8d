import Derived.Test.YtbogmlckbkogiaaLeafA
import Derived.Deep.RegionHeld3
import Derived.StillTactics
import Derived.IntWalk
namespace Go.Proofs.Ytbogmlckbkogiaa.Leaf
open Go.RowKit Go.Proofs.YtbogmlckbkogiaaW.PrintWords
set_option linter.unusedVariables false
theorem exps_below (B : Nat) (w0 w : World) (h : Below B w0 w ∧ B ≤ w.heap.size) : Calls Try.prog 84 #[] w fun e w' => e = .returned (.agg (tabE.map (Value.int .u8)).toArray) ∧ Below B w0 w' ∧ B ≤ w'.heap.size :=
  (exps_calls w).mono fun _ _ ⟨a, b⟩ => ⟨a, below_then h.1 h.2 b, Nat.le_trans h.2 b.size⟩
theorem logs_below (B : Nat) (w0 w : World) (h : Below B w0 w ∧ B ≤ w.heap.size) : Calls Try.prog 85 #[] w fun e w' => e = .returned (.agg (tabL.map (Value.int .u8)).toArray) ∧ Below B w0 w' ∧ B ≤ w'.heap.size :=
  (logs_calls w).mono fun _ _ ⟨a, b⟩ => ⟨a, below_then h.1 h.2 b, Nat.le_trans h.2 b.size⟩
theorem known_below (B : Nat) (w0 w : World) (h : Below B w0 w ∧ B ≤ w.heap.size) : Calls Try.prog 87 #[] w fun e w' => e = .returned (.agg (tabK.map (Value.int .u32)).toArray) ∧ Below B w0 w' ∧ B ≤ w'.heap.size :=
  (known_calls w).mono fun _ _ ⟨a, b⟩ => ⟨a, below_then h.1 h.2 b, Nat.le_trans h.2 b.size⟩
theorem tab_range (t : List Int) (N : Int) (hN : 0 < N) (h : t.all (fun x => decide (0 ≤ x) && decide (x < N)) = true) (i : Int) : 0 ≤ rd t i ∧ rd t i < N := by
  unfold rd
  rw [List.getD_eq_getElem?_getD]
  cases e : t[i.toNat]? with
  | none => simp; exact hN
  | some x =>
    have := List.all_eq_true.1 h x (List.mem_of_getElem? e)
    simpa using this
theorem tabE_range (i : Int) : 0 ≤ rd tabE i ∧ rd tabE i < 256 := tab_range tabE 256 (by decide) (by as_aux_lemma => kernel_rfl) i
theorem tabL_range (i : Int) : 0 ≤ rd tabL i ∧ rd tabL i < 256 := tab_range tabL 256 (by decide) (by as_aux_lemma => kernel_rfl) i
theorem tabK_range (i : Int) : 0 ≤ rd tabK i ∧ rd tabK i < 4294967296 := tab_range tabK 4294967296 (by decide) (by as_aux_lemma => kernel_rfl) i
theorem run_index_tab {P : Program} {T n e : Nat} {kk k : IntKind} {tab : List Int} (hu : P.underlying T = some (.array n e)) (hl : tab.length = n)
    (hs : ∀ w, (sizeOf e).run P w = .ok 1 w) (ha : ∀ w, (isAgg e).run P w = .ok false w) (i : Int) (h0 : 0 ≤ i) (h1 : i < n) (w : World) :
    (Instr.index T (.agg (tab.map (Value.int kk)).toArray) (.int k i)).run P w = .ok (.int kk (rd tab i)) w := by
  have hj : i.toNat < tab.length := by omega
  unfold Instr.index part
  simp only [asIntOf, Sem.run_bind, Sem.run_pure, Result.andThen_ok, run_underlying hu, h0, h1, and_self, if_true, hs, ha, Nat.mul_one, Bool.false_eq_true, if_false]
  have : ((tab.map (Value.int kk)).toArray)[i.toNat]? = some (.int kk (rd tab i)) := by
    rw [List.getElem?_toArray, List.getElem?_map, List.getElem?_eq_getElem hj]
    simp [rd, List.getD_eq_getElem?_getD, List.getElem?_eq_getElem hj]
  rw [this]
  rfl
theorem lenE : tabE.length = 255 := by as_aux_lemma => kernel_rfl
theorem lenL : tabL.length = 256 := by as_aux_lemma => kernel_rfl
theorem lenK : tabK.length = 256 := by as_aux_lemma => kernel_rfl
theorem index_E (k : IntKind) (i : Int) (h0 : 0 ≤ i) (h1 : i < 255) (w : World) : (Instr.index 95 (.agg (tabE.map (Value.int .u8)).toArray) (.int k i)).run Try.prog w = .ok (.int .u8 (rd tabE i)) w :=
  run_index_tab Try.underlying95 lenE Try.sizeOf5 Try.isAgg5 i h0 h1 w
theorem index_L (k : IntKind) (i : Int) (h0 : 0 ≤ i) (h1 : i < 256) (w : World) : (Instr.index 97 (.agg (tabL.map (Value.int .u8)).toArray) (.int k i)).run Try.prog w = .ok (.int .u8 (rd tabL i)) w :=
  run_index_tab Try.underlying97 lenL Try.sizeOf5 Try.isAgg5 i h0 h1 w
theorem index_K (k : IntKind) (i : Int) (h0 : 0 ≤ i) (h1 : i < 256) (w : World) : (Instr.index 100 (.agg (tabK.map (Value.int .u32)).toArray) (.int k i)).run Try.prog w = .ok (.int .u32 (rd tabK i)) w :=
  run_index_tab Try.underlying100 lenK Try.sizeOf23 Try.isAgg23 i h0 h1 w
attribute [local irreducible] tabE tabL tabK

def gf_Mul.f (a0 : Int) (a1 : Int) : Option Int :=
  if a0 = 0 then some 0 else if a1 = 0 then some 0 else if 0 ≤ a0 then if a0 < 256 then if 0 ≤ a1 then if a1 < 256 then
    some (rd tabE ((rd tabL a0 + rd tabL a1) % 255)) else none else none else none else none
set_option maxHeartbeats 1000000 in
set_option maxRecDepth 100000 in
theorem gf_Mul.calls (a0 : Int) (a1 : Int) (r : Int) (w : World) (h : gf_Mul.f a0 a1 = some r) :
    Calls Try.prog 26 #[.int .u8 a0, .int .u8 a1] w fun e w' => e = .returned (.int .u8 r) ∧ Below w.heap.size w w' := by
  unfold gf_Mul.f at h
  by_cases h0 : a0 = 0
  · rw [if_pos h0] at h
    obtain rfl := Option.some.inj h
    subst h0
    go_enter Try.func26, Try.ntmps26
    go_wp2
    go_ret
    exact ⟨rfl, Below.refl _ _⟩
  rw [if_neg h0] at h
  have e0 : (a0 == 0) = false := beq_eq_false_iff_ne.2 h0
  by_cases h1 : a1 = 0
  · rw [if_pos h1] at h
    obtain rfl := Option.some.inj h
    subst h1
    clear h0
    go_enter Try.func26, Try.ntmps26
    go_wp2
    go_ret
    exact ⟨rfl, Below.refl _ _⟩
  rw [if_neg h1] at h
  have e1 : (a1 == 0) = false := beq_eq_false_iff_ne.2 h1
  by_cases c0 : 0 ≤ a0
  · by_cases c1 : a0 < 256
    · by_cases c2 : 0 ≤ a1
      · by_cases c3 : a1 < 256
        · rw [if_pos c0, if_pos c1, if_pos c2, if_pos c3] at h
          have x0 := index_L .u8 a0 c0 c1
          have x1 := index_L .u8 a1 c2 c3
          obtain ⟨r0, r0'⟩ := tabL_range a0
          obtain ⟨r1, r1'⟩ := tabL_range a1
          generalize rd tabL a0 = x at *
          generalize rd tabL a1 = y at *
          have x2 := index_E .i64 ((x + y) % 255) (by omega) (by omega)
          generalize rd tabE ((x + y) % 255) = z at *
          obtain rfl := Option.some.inj h
          have HB : Below w.heap.size w w ∧ w.heap.size ≤ w.heap.size := ⟨Below.refl _ _, Nat.le_refl _⟩
          have wx : IntKind.i64.wrap x = x := IntWalk.i64_in _ (by omega)
          have wy : IntKind.i64.wrap y = y := IntWalk.i64_in _ (by omega)
          have wz : IntKind.i64.wrap (x + y) = x + y := IntWalk.i64_in _ (by omega)
          have wm : (x + y).tmod 255 = (x + y) % 255 := Int.tmod_eq_emod_of_nonneg (by omega)
          clear h h0 h1 c0 c1 c2 c3
          go_enter Try.func26, Try.ntmps26
          go_wp2
          go_region_held3 (fun w' => Below w.heap.size w w' ∧ w.heap.size ≤ w'.heap.size) (first | assumption | exact ⟨(Below.refl _ _).drew, Nat.le_refl _⟩)
            (first
              | (go_at_call 84; refine (exps_below w.heap.size w _ (by assumption)).mono ?_; rintro e w' ⟨rfl, hb⟩)
              | (go_at_call 85; refine (logs_below w.heap.size w _ (by assumption)).mono ?_; rintro e w' ⟨rfl, hb⟩))
          all_goals
            go_wp2
            go_ret
            exact ⟨rfl, (by assumption : Below w.heap.size w _ ∧ w.heap.size ≤ _).1⟩
        · rw [if_pos c0, if_pos c1, if_pos c2, if_neg c3] at h; cases h
      · rw [if_pos c0, if_pos c1, if_neg c2] at h; cases h
    · rw [if_pos c0, if_neg c1] at h; cases h
  · rw [if_neg c0] at h; cases h

def gf_Inv.f (a0 : Int) : Option (Int × Bool) :=
  if a0 = 0 then some (0, false) else if 0 ≤ a0 then if a0 < 256 then some (rd tabE ((255 - rd tabL a0) % 255), true) else none else none
set_option maxHeartbeats 1000000 in
set_option maxRecDepth 100000 in
theorem gf_Inv.calls (a0 : Int) (r1 : Int) (r2 : Bool) (w : World) (h : gf_Inv.f a0 = some (r1, r2)) :
    Calls Try.prog 28 #[.int .u8 a0] w fun e w' => e = .returned (.tuple #[.int .u8 r1, .bool r2]) ∧ Below w.heap.size w w' := by
  unfold gf_Inv.f at h
  by_cases h0 : a0 = 0
  · rw [if_pos h0] at h
    obtain ⟨rfl, rfl⟩ : 0 = r1 ∧ false = r2 := by simpa using h
    subst h0
    clear h
    go_enter Try.func28, Try.ntmps28
    go_wp2
    go_ret2
    exact ⟨rfl, Below.refl _ _⟩
  rw [if_neg h0] at h
  have e0 : (a0 == 0) = false := beq_eq_false_iff_ne.2 h0
  by_cases c0 : 0 ≤ a0
  · by_cases c1 : a0 < 256
    · rw [if_pos c0, if_pos c1] at h
      have x0 := index_L .u8 a0 c0 c1
      obtain ⟨r0, r0'⟩ := tabL_range a0
      generalize rd tabL a0 = x at *
      have x2 := index_E .i64 ((255 - x) % 255) (by omega) (by omega)
      have e3 : (255 - x) % 255 = -x % 255 := by omega
      rw [e3] at x2 h
      generalize rd tabE (-x % 255) = z at *
      obtain ⟨rfl, rfl⟩ : z = r1 ∧ true = r2 := by simpa using h
      have wx : IntKind.i64.wrap x = x := IntWalk.i64_in _ (by omega)
      have wz : IntKind.i64.wrap (255 - x) = 255 - x := IntWalk.i64_in _ (by omega)
      have wm : (255 - x).tmod 255 = (255 - x) % 255 := Int.tmod_eq_emod_of_nonneg (by omega)
      clear h h0 c0 c1 e3
      have HB : Below w.heap.size w w ∧ w.heap.size ≤ w.heap.size := ⟨Below.refl _ _, Nat.le_refl _⟩
      go_enter Try.func28, Try.ntmps28
      go_wp2_with (first
          | (go_at_call 84; refine (exps_below w.heap.size w _ (by assumption)).mono ?_; rintro e w' ⟨rfl, hb⟩)
          | (go_at_call 85; refine (logs_below w.heap.size w _ (by assumption)).mono ?_; rintro e w' ⟨rfl, hb⟩))
      go_ret2
      exact ⟨rfl, (by assumption : Below w.heap.size w _ ∧ w.heap.size ≤ _).1⟩
    · rw [if_pos c0, if_neg c1] at h; cases h
  · rw [if_neg c0] at h; cases h

def gf_Log.f (a0 : Int) : Option (Int × Bool) := if 0 ≤ a0 then if a0 < 256 then some (rd tabL a0, a0 != 0) else none else none
set_option maxHeartbeats 1000000 in
set_option maxRecDepth 100000 in
theorem gf_Log.calls (a0 : Int) (r1 : Int) (r2 : Bool) (w : World) (h : gf_Log.f a0 = some (r1, r2)) :
    Calls Try.prog 29 #[.int .u8 a0] w fun e w' => e = .returned (.tuple #[.int .i64 r1, .bool r2]) ∧ Below w.heap.size w w' := by
  unfold gf_Log.f at h
  by_cases c0 : 0 ≤ a0
  · by_cases c1 : a0 < 256
    · rw [if_pos c0, if_pos c1] at h
      have x0 := index_L .u8 a0 c0 c1
      obtain ⟨r0, r0'⟩ := tabL_range a0
      generalize rd tabL a0 = x at *
      have wx : IntKind.i64.wrap x = x := IntWalk.i64_in _ (by omega)
      obtain ⟨rfl, rfl⟩ : x = r1 ∧ (a0 != 0) = r2 := by simpa using h
      clear h c0 c1
      have HB : Below w.heap.size w w ∧ w.heap.size ≤ w.heap.size := ⟨Below.refl _ _, Nat.le_refl _⟩
      go_enter Try.func29, Try.ntmps29
      go_wp2_with (first
          | (go_at_call 85; refine (logs_below w.heap.size w _ (by assumption)).mono ?_; rintro e w' ⟨rfl, hb⟩))
      go_ret2
      exact ⟨rfl, (by assumption : Below w.heap.size w _ ∧ w.heap.size ≤ _).1⟩
    · rw [if_pos c0, if_neg c1] at h; cases h
  · rw [if_neg c0] at h; cases h

def gm (a0 : Int) : Int := Int.tmod (wrap64 ((Int.tmod a0 255) + 255)) 255
theorem gm_range (a0 : Int) : 0 ≤ gm a0 ∧ gm a0 < 255 := by
  have h1 := Int.tmod_lt_of_pos a0 (b := 255) (by decide)
  have h2 := Int.lt_tmod_of_pos a0 (b := 255) (by decide)
  unfold gm
  rw [show wrap64 (a0.tmod 255 + 255) = a0.tmod 255 + 255 by unfold wrap64; omega, Int.tmod_eq_emod_of_nonneg (by omega)]
  omega
theorem mod_calls (a0 : Int) (w : World) : Calls Try.prog 86 #[.int .i64 a0] w fun e w' => e = .returned (.int .i64 (gm a0)) ∧ w' = w := by
  go_enter Try.func86, Try.ntmps86
  go_wp2
  go_ret
  exact ⟨rfl, rfl⟩
theorem mod_below (a0 : Int) (B : Nat) (w0 w : World) (h : Below B w0 w ∧ B ≤ w.heap.size) : Calls Try.prog 86 #[.int .i64 a0] w fun e w' => e = .returned (.int .i64 (gm a0)) ∧ Below B w0 w' ∧ B ≤ w'.heap.size :=
  (mod_calls a0 w).mono fun _ _ ⟨a, b⟩ => ⟨a, by rw [b]; exact h⟩
def gf_Exp.f (a0 : Int) : Option Int := some (rd tabE (gm a0))
set_option maxHeartbeats 1000000 in
set_option maxRecDepth 100000 in
theorem gf_Exp.calls (a0 : Int) (r : Int) (w : World) (h : gf_Exp.f a0 = some r) :
    Calls Try.prog 30 #[.int .i64 a0] w fun e w' => e = .returned (.int .u8 r) ∧ Below w.heap.size w w' := by
  obtain rfl := Option.some.inj h
  clear h
  have x0 := index_E .i64 (gm a0) (gm_range a0).1 (gm_range a0).2
  have HB : Below w.heap.size w w ∧ w.heap.size ≤ w.heap.size := ⟨Below.refl _ _, Nat.le_refl _⟩
  go_enter Try.func30, Try.ntmps30
  go_wp2_with (first
      | (go_at_call 84; refine (exps_below w.heap.size w _ (by assumption)).mono ?_; rintro e w' ⟨rfl, hb⟩)
      | (go_at_call 86; refine (mod_below _ w.heap.size w _ (by assumption)).mono ?_; rintro e w' ⟨rfl, hb⟩))
  go_ret
  exact ⟨rfl, (by assumption : Below w.heap.size w _ ∧ w.heap.size ≤ _).1⟩
theorem Exp_below (a0 : Int) (B : Nat) (w0 w : World) (h : Below B w0 w ∧ B ≤ w.heap.size) : Calls Try.prog 30 #[.int .i64 a0] w fun e w' => e = .returned (.int .u8 (rd tabE (gm a0))) ∧ Below B w0 w' ∧ B ≤ w'.heap.size :=
  (gf_Exp.calls a0 _ w rfl).mono fun _ _ ⟨a, b⟩ => ⟨a, below_then h.1 h.2 b, Nat.le_trans h.2 b.size⟩
def gf_Pow.f (a0 : Int) (a1 : Int) : Option (Int × Bool) :=
  if a1 = 0 then some (1, true) else if a0 = 0 then some (0, decide (a1 > 0)) else
  if 0 ≤ a0 then if a0 < 256 then some (rd tabE (gm (rd tabL a0 * gm a1)), true) else none else none
set_option maxHeartbeats 1000000 in
set_option maxRecDepth 100000 in
theorem gf_Pow.calls (a0 : Int) (a1 : Int) (r1 : Int) (r2 : Bool) (w : World) (h : gf_Pow.f a0 a1 = some (r1, r2)) :
    Calls Try.prog 42 #[.int .u8 a0, .int .i64 a1] w fun e w' => e = .returned (.tuple #[.int .u8 r1, .bool r2]) ∧ Below w.heap.size w w' := by
  unfold gf_Pow.f at h
  by_cases h1 : a1 = 0
  · rw [if_pos h1] at h
    obtain ⟨rfl, rfl⟩ : 1 = r1 ∧ true = r2 := by simpa using h
    subst h1
    clear h
    go_enter Try.func42, Try.ntmps42
    go_wp2
    go_ret2
    exact ⟨rfl, Below.refl _ _⟩
  rw [if_neg h1] at h
  have e1 : (a1 == 0) = false := beq_eq_false_iff_ne.2 h1
  by_cases h0 : a0 = 0
  · rw [if_pos h0] at h
    obtain ⟨rfl, rfl⟩ : 0 = r1 ∧ decide (a1 > 0) = r2 := by simpa using h
    subst h0
    clear h h1
    go_enter Try.func42, Try.ntmps42
    go_wp2
    go_ret2
    exact ⟨rfl, Below.refl _ _⟩
  rw [if_neg h0] at h
  have e0 : (a0 == 0) = false := beq_eq_false_iff_ne.2 h0
  by_cases c0 : 0 ≤ a0
  · by_cases c1 : a0 < 256
    · rw [if_pos c0, if_pos c1] at h
      have x0 := index_L .u8 a0 c0 c1
      obtain ⟨r0, r0'⟩ := tabL_range a0
      generalize rd tabL a0 = x at *
      obtain ⟨g0, g1⟩ := gm_range a1
      have hm : 0 ≤ x * gm a1 ∧ x * gm a1 ≤ 255 * 255 := ⟨Int.mul_nonneg r0 g0, Int.mul_le_mul (by omega) (by omega) g0 (by decide)⟩
      have wx : IntKind.i64.wrap x = x := IntWalk.i64_in _ (by omega)
      have wz : IntKind.i64.wrap (x * gm a1) = x * gm a1 := IntWalk.i64_in _ (by omega)
      obtain ⟨rfl, rfl⟩ : rd tabE (gm (x * gm a1)) = r1 ∧ true = r2 := by simpa using h
      clear h h0 h1 c0 c1 hm g0 g1
      go_enter Try.func42, Try.ntmps42
      go_wp2
      go_region_held3 (fun w' => Below w.heap.size w w' ∧ w.heap.size ≤ w'.heap.size) (first | assumption | exact ⟨(Below.refl _ _).drew, Nat.le_refl _⟩)
        (first
          | (go_at_call 85; refine (logs_below w.heap.size w _ (by assumption)).mono ?_; rintro e w' ⟨rfl, hb⟩)
          | (go_at_call 86; refine (mod_below _ w.heap.size w _ (by assumption)).mono ?_; rintro e w' ⟨rfl, hb⟩)
          | (go_at_call 30; refine (Exp_below _ w.heap.size w _ (by assumption)).mono ?_; rintro e w' ⟨rfl, hb⟩))
      all_goals
        go_wp2
        go_ret2
        exact ⟨rfl, (by assumption : Below w.heap.size w _ ∧ w.heap.size ≤ _).1⟩
    · rw [if_pos c0, if_neg c1] at h; cases h
  · rw [if_neg c0] at h; cases h
end Go.Proofs.Ytbogmlckbkogiaa.Leaf
