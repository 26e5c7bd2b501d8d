import Derived.Test.YtbogmlckbkogiaaLeafB
namespace Go.Proofs.Ytbogmlckbkogiaa.Leaf
open Go.RowKit Go.Proofs.YtbogmlckbkogiaaW.PrintWords
set_option linter.unusedVariables false
attribute [local irreducible] tabE tabL tabK
def stepK (x c : Int) : Int := Go.bits .xor .u32 (rd tabK (Go.bits .xor .u8 (x % 256) c)) (x / 256)
theorem bits_u8_range (op : BinOp) (a b : Int) : 0 ≤ Go.bits op .u8 a b ∧ Go.bits op .u8 a b < 256 := by
  unfold Go.bits
  simp only [IntKind.wrap_u8]
  omega
theorem known_step (w0 w : World) (h : Below w0.heap.size w0 w) : Calls Try.prog 87 #[] w fun e w' => e = .returned (.agg (tabK.map (Value.int .u32)).toArray) ∧ Below w0.heap.size w0 w' :=
  (known_calls w).mono fun _ _ ⟨a, b⟩ => ⟨a, below_step h b⟩
def sum_More.f (a0 : Int) (l1 : List Int) : Option Int := some (Go.bits .xor .u32 IntKind.u32.max (l1.foldl stepK (Go.bits .xor .u32 IntKind.u32.max a0)))
theorem fold_take (l : List Int) (x : Int) (i : Nat) (h : i < l.length) : (l.take (i + 1)).foldl stepK x = stepK ((l.take i).foldl stepK x) (rd l i) := by
  rw [List.take_succ_eq_append_getElem h, List.foldl_append]
  simp [rd, List.getD_eq_getElem?_getD, List.getElem?_eq_getElem h]
set_option maxHeartbeats 1000000 in
set_option maxRecDepth 100000 in
theorem sum_More.calls (a0 : Int) (A1 : Option Addr) (c1 : Nat) (l1 : List Int) (r : Int) (w : World) (hr1 : Kd.C (Kd.int .u8) w A1 l1.length l1) (hc1 : l1.length ≤ c1) (h : sum_More.f a0 l1 = some r) :
    Calls Try.prog 33 #[.int .u32 a0, .slice A1 l1.length c1] w fun e w' => e = .returned (.int .u32 r) ∧ Below w.heap.size w w' := by
  obtain rfl := Option.some.inj h
  clear h
  have hl : l1.length ≤ 9223372036854775807 := hr1.2.1
  have HR := Aside0.mk hr1
  have HX := Aside0.mk (fold_take l1)
  have HT := Aside0.mk (List.take_length (l := l1))
  have hs : IntKind.u32.signed = false := rfl
  clear hr1
  go_enter Try.func33, Try.ntmps33
  go_wp2
  go_loopw [5, 12] (fun x i wr => ∃ k : Nat, k ≤ l1.length ∧ i = .int .i64 k ∧ x = .int .u32 ((l1.take k).foldl stepK (Go.bits .xor .u32 (IntKind.u32.max) a0)) ∧ Below w.heap.size w wr) (fun _ i _ => l1.length - (intOf i).toNat)
  case atStart => exact ⟨0, Nat.zero_le _, rfl, rfl, Below.refl _ _⟩
  case round =>
    obtain ⟨k, hk, rfl, rfl, hB⟩ := hrel
    by_cases hlt : k < l1.length
    · obtain ⟨ad, e1, hx⟩ := Kd.at_int (Kd.C_below HR.out hB) (k : Int) (by omega) (by omega)
      cases e1
      have he := HX.out (Go.bits .xor .u32 (IntKind.u32.max) a0) k hlt
      generalize rd l1 k = c at hx he
      generalize (l1.take k).foldl stepK (Go.bits .xor .u32 (IntKind.u32.max) a0) = x at he ⊢
      have hb := bits_u8_range .xor (x % 256) c
      have xi := index_K .u8 _ hb.1 hb.2
      clear hb
      have hB' := Aside0.mk hB
      have he' := Aside0.mk he
      clear hB he HR HX HT
      rw [show ((k : Int)).toNat = k from rfl] at hx
      go_wp2_with (first | (go_at_call 87; refine (known_step w _ hB'.out).mono ?_; rintro e w' ⟨rfl, hb⟩; have hB2 := Aside0.mk hb; clear hb))
      exact ⟨⟨k + 1, hlt, by rw [Int.natCast_add]; rfl, by rw [he'.out]; rfl, hB2.out⟩, by simp [intOf]; omega⟩
    · have hk' : k = l1.length := by omega
      subst hk'
      rw [HT.out]
      go_wp2
      go_ret
      exact ⟨rfl, hB⟩

def stepZ (x : Int) : Int := Go.bits .xor .u32 (rd tabK (x % 256)) (x / 256)
def iterZ : Nat → Int → Int
  | 0, x => x
  | n + 1, x => stepZ (iterZ n x)
def sum_zeros.f (a0 : Int) (a1 : Int) : Option Int := if a1 ≤ 9223372036854775807 then some (iterZ a1.toNat a0) else none
set_option maxHeartbeats 1000000 in
set_option maxRecDepth 100000 in
theorem sum_zeros.calls (a0 : Int) (a1 : Int) (r : Int) (w : World) (h : sum_zeros.f a0 a1 = some r) :
    Calls Try.prog 88 #[.int .u32 a0, .int .i64 a1] w fun e w' => e = .returned (.int .u32 r) ∧ Below w.heap.size w w' := by
  unfold sum_zeros.f at h
  by_cases hm : a1 ≤ 9223372036854775807
  · rw [if_pos hm] at h
    obtain rfl := Option.some.inj h
    clear h
    go_enter Try.func88, Try.ntmps88
    go_wp2
    go_loopw [0, 6] (fun x i wr => ∃ k : Nat, k ≤ a1.toNat ∧ i = .int .i64 k ∧ x = .int .u32 (iterZ k a0) ∧ Below w.heap.size w wr) (fun _ i _ => a1.toNat - (intOf i).toNat)
    case atStart => exact ⟨0, Nat.zero_le _, rfl, rfl, Below.refl _ _⟩
    case round =>
      obtain ⟨k, hk, rfl, rfl, hB⟩ := hrel
      by_cases hlt : (k : Int) < a1
      · have he : iterZ (k + 1) a0 = stepZ (iterZ k a0) := rfl
        generalize iterZ k a0 = x at he ⊢
        have xi := index_K .u8 (x % 256) (by omega) (by omega)
        have hB' := Aside0.mk hB
        have he' := Aside0.mk he
        clear hB he
        go_wp2_with (first | (go_at_call 87; refine (known_step w _ hB'.out).mono ?_; rintro e w' ⟨rfl, hb⟩; have hB2 := Aside0.mk hb; clear hb))
        exact ⟨⟨k + 1, by omega, by rw [Int.natCast_add]; rfl, by rw [he'.out]; rfl, hB2.out⟩, by simp [intOf]; omega⟩
      · have hk' : a1.toNat = k := by omega
        have hk2 := Aside0.mk hk'
        clear hk'
        go_wp2
        go_ret
        exact ⟨by rw [hk2.out]; rfl, hB⟩
  · rw [if_neg hm] at h; cases h
end Go.Proofs.Ytbogmlckbkogiaa.Leaf
