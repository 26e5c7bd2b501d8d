import Derived.Test.YtbogmlckbkogiaaLeafF
import Derived.Lib.SlBytesConst
namespace Go.Proofs.Ytbogmlckbkogiaa.Leaf
open Go.RowKit Go.Proofs.YtbogmlckbkogiaaW.PrintWords Go.Proofs.YtbogmlckbkogiaaW.PrintLast
set_option linter.unusedVariables false
set_option linter.unusedSimpArgs false
def sum_Of.f (l0 : List Int) : Option Int := sum_More.f 0 l0
set_option maxHeartbeats 1000000 in
theorem sum_Of.calls (A0 : Option Addr) (c0 : Nat) (l0 : List Int) (r : Int) (w : World) (hr0 : Kd.C (Kd.int .u8) w A0 l0.length l0) (hc0 : l0.length ≤ c0) (h : sum_Of.f l0 = some r) :
    Calls Try.prog 25 #[.slice A0 l0.length c0] w fun e w' => e = .returned (.int .u32 r) ∧ Below w.heap.size w w' := by
  have H := Aside0.mk (sum_More.calls 0 A0 c0 l0 r w hr0 hc0 h)
  clear hr0 h
  go_enter Try.func25, Try.ntmps25
  go_wp2_with (go_at_call 33; refine H.out.mono ?_; rintro e w' ⟨rfl, hb⟩)
  go_ret
  exact ⟨rfl, hb⟩
def digits9 : List Int := [49, 50, 51, 52, 53, 54, 55, 56, 57]
def mooringlaw04_awake.f : Option Bool := (sum_Of.f digits9).bind fun x => if x = 3808858755 then (sum_Of.f []).bind fun y => some (y == 0) else some false
theorem reads_block (w : World) (cs : Array Value) (fr : Nat × Nat) (xs : List Int) (hc : cs = (xs.map (Value.int .u8)).toArray) (hl : xs.length ≤ 9223372036854775807) :
    Kd.C (Kd.int .u8) (w.alloc (.cells cs 5 fr)) (some ⟨w.heap.size, 0, none⟩) xs.length xs := by
  subst hc
  refine ⟨rfl, hl, fun _ => ⟨_, rfl, fun j p hj => ⟨[.int .u8 p], rfl, rfl, fun i u hu => ?_⟩⟩⟩
  have hlj : j < xs.length := (List.getElem?_eq_some_iff.1 hj).1
  cases i with
  | zero =>
    cases hu
    have hadd : (⟨w.heap.size, 0, none⟩ : Addr).add (j * (Kd.int .u8).sz + 0) = ⟨w.heap.size, j, none⟩ := by
      show Addr.add _ (j * 1 + 0) = _
      rw [Nat.mul_one, Nat.add_zero]
      exact add_plain _ _
    rw [hadd, cell_of_row _ _ j _ 5 fr (heap_alloc_new w _)]
    rw [List.getElem?_toArray, List.getElem?_map, hj]
    rfl
  | succ i => simp at hu
set_option maxHeartbeats 1000000 in
set_option maxRecDepth 100000 in
theorem mooringlaw04_awake.calls (r : Bool) (w : World) (h : mooringlaw04_awake.f = some r) :
    Calls Try.prog 24 #[] w fun e w' => e = .returned (.bool r) ∧ Below w.heap.size w w' := by
  unfold mooringlaw04_awake.f at h
  obtain ⟨x, hx, h⟩ := Option.bind_eq_some_iff.1 h
  have H1 := Aside0.mk hx
  have F1 : Aside0 (∀ W : World, Calls Try.prog 25 #[.slice (some ⟨W.heap.size, 0, none⟩) 9 9] (W.alloc (.cells #[.int .u8 49, .int .u8 50, .int .u8 51, .int .u8 52, .int .u8 53, .int .u8 54, .int .u8 55, .int .u8 56, .int .u8 57] 5 (9, 10))) fun e w' => e = .returned (.int .u32 x) ∧ Below W.heap.size W w') :=
    ⟨fun W => (sum_Of.calls _ 9 digits9 x _ (reads_block W _ _ digits9 rfl (by decide)) (by decide) H1.out).mono fun _ _ ⟨a, b⟩ => ⟨a, below_step ((Below.refl _ _).alloc (Nat.le_refl _) _) b⟩⟩
  have kc := fun (w : World) (C : Array Value) (n c : Nat) => Lib.run_convert_bytes_const (P := Try.prog) w 22 5 C n c Try.underlying22 Try.underlying5
  clear hx
  by_cases h1 : x = 3808858755
  · rw [if_pos h1] at h
    obtain ⟨y, hy, h⟩ := Option.bind_eq_some_iff.1 h
    obtain rfl := Option.some.inj h
    have F2 : Aside0 (∀ W : World, Calls Try.prog 25 #[.slice none 0 0] W fun e w' => e = .returned (.int .u32 y) ∧ Below W.heap.size W w') :=
      ⟨fun W => sum_Of.calls none 0 [] y W ⟨rfl, by decide, fun h => absurd h (by decide)⟩ (by decide) hy⟩
    have e1 : (x == 3808858755) = true := beq_iff_eq.2 h1
    clear h hy h1 H1
    go_enter Try.func24, Try.ntmps24
    go_wp2_with (first | (go_at_call 25; (with_reducible refine (F1.out _).mono ?_); rintro e w' ⟨rfl, hb⟩; have HB := Aside0.mk hb; clear hb) | (go_at_call 25; (with_reducible refine (F2.out _).mono ?_); rintro e w' ⟨rfl, hb⟩; have HB2 := Aside0.mk hb; clear hb))
    go_ret
    exact ⟨rfl, below_step HB.out HB2.out⟩
  · rw [if_neg h1] at h
    obtain rfl := Option.some.inj h
    have e1 : (x == 3808858755) = false := beq_eq_false_iff_ne.2 h1
    clear h h1 H1
    go_enter Try.func24, Try.ntmps24
    go_wp2_with (first | (go_at_call 25; (with_reducible refine (F1.out _).mono ?_); rintro e w' ⟨rfl, hb⟩; have HB := Aside0.mk hb; clear hb))
    go_ret
    exact ⟨rfl, HB.out⟩
end Go.Proofs.Ytbogmlckbkogiaa.Leaf
