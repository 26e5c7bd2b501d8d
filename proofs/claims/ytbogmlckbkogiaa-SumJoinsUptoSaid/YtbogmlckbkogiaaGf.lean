namespace Go.Proofs.Ytbogmlckbkogiaa.Gf
abbrev B := BitVec 8
def xt (x : B) : B := (x <<< 1) ^^^ (if x.msb then 0x1D#8 else 0#8)
theorem xor_swap4 (a b c d : B) : (a ^^^ b) ^^^ (c ^^^ d) = (a ^^^ c) ^^^ (b ^^^ d) := by ac_rfl
theorem xt_add (x y : B) : xt (x ^^^ y) = xt x ^^^ xt y := by
  unfold xt
  rw [xor_swap4, BitVec.shiftLeft_xor_distrib, BitVec.msb_xor]
  congr 1
  cases x.msb <;> cases y.msb <;> rfl
theorem xt_zero : xt 0#8 = 0#8 := by decide
def M : Nat → B → Nat → B
  | 0, _, _ => 0#8
  | n + 1, x, y => (if y % 2 = 1 then x else 0#8) ^^^ M n (xt x) (y / 2)
def mul (a b : B) : B := M 8 a b.toNat
theorem M_addL (n : Nat) : ∀ (x x' : B) (y : Nat), M n (x ^^^ x') y = M n x y ^^^ M n x' y := by
  induction n with
  | zero => intro x x' y; simp [M]
  | succ n ih =>
    intro x x' y
    simp only [M]
    rw [xt_add, ih, xor_swap4 _ _ _ (M n (xt x') (y / 2))]
    congr 1
    split <;> simp
theorem M_zeroL (n : Nat) : ∀ y, M n 0#8 y = 0#8 := by
  induction n with
  | zero => intro y; rfl
  | succ n ih => intro y; simp only [M, xt_zero, ih]; simp
theorem M_addR (n : Nat) : ∀ (x : B) (y y' : Nat), M n x (y ^^^ y') = M n x y ^^^ M n x y' := by
  induction n with
  | zero => intro x y y'; simp [M]
  | succ n ih =>
    intro x y y'
    simp only [M]
    rw [Nat.xor_div_two, ih, xor_swap4 _ _ _ (M n (xt x) (y' / 2))]
    congr 1
    have h := Nat.xor_mod_two_eq_one (a := y) (b := y')
    rcases Nat.mod_two_eq_zero_or_one y with h1 | h1 <;> rcases Nat.mod_two_eq_zero_or_one y' with h2 | h2 <;> simp only [h1, h2] at h ⊢ <;> simp at h ⊢ <;> simp [h]
theorem M_zeroR (n : Nat) : ∀ x, M n x 0 = 0#8 := by
  induction n with
  | zero => intro y; rfl
  | succ n ih => intro x; simp only [M, Nat.zero_div, ih]; simp
theorem M_xt (n : Nat) : ∀ (x : B) (y : Nat), M n (xt x) y = xt (M n x y) := by
  induction n with
  | zero => intro x y; exact xt_zero.symm
  | succ n ih =>
    intro x y
    simp only [M]
    rw [ih (xt x), xt_add]
    congr 1
    split
    · rfl
    · exact xt_zero.symm
theorem mul_add (a b c : B) : mul a (b ^^^ c) = mul a b ^^^ mul a c := by
  unfold mul; rw [BitVec.toNat_xor, M_addR]
theorem add_mul (a b c : B) : mul (a ^^^ b) c = mul a c ^^^ mul b c := M_addL _ _ _ _
theorem mul_zero (a : B) : mul a 0#8 = 0#8 := M_zeroR _ _
theorem zero_mul (a : B) : mul 0#8 a = 0#8 := M_zeroL _ _
theorem mul_xt (a b : B) : mul (xt a) b = xt (mul a b) := M_xt _ _ _
theorem forall_B {P : B → Prop} (h : ∀ i : Fin 256, P (BitVec.ofFin i)) : ∀ x, P x := fun x => h x.toFin
theorem one_mul : ∀ b : B, mul 1#8 b = b := forall_B (by decide +kernel)
/-- Powers of two. -/
def ex : Nat → B
  | 0 => 1#8
  | n + 1 => xt (ex n)
theorem mul_ex (i j : Nat) : mul (ex i) (ex j) = ex (i + j) := by
  induction i with
  | zero => rw [Nat.zero_add]; exact one_mul _
  | succ n ih => rw [show n + 1 + j = (n + j) + 1 by omega]; simp only [ex]; rw [mul_xt, ih]
theorem ex_255 : ex 255 = 1#8 := by decide +kernel
theorem ex_add255 (n : Nat) : ex (n + 255) = ex n := by
  rw [← mul_ex, ex_255]
  induction n with
  | zero => exact one_mul _
  | succ n ih => simp only [ex]; rw [mul_xt, ih]
theorem ex_mod (n : Nat) : ex (n % 255) = ex n := by
  induction n using Nat.strongRecOn with
  | _ n ih =>
    by_cases h : n < 255
    · rw [Nat.mod_eq_of_lt h]
    · obtain ⟨m, rfl⟩ : ∃ m, n = m + 255 := ⟨n - 255, by omega⟩
      rw [ex_add255, ← ih m (by omega), Nat.add_mod_right]
def lgGo (x : B) : Nat → Nat → B → Nat
  | 0, n, _ => n
  | f + 1, n, e => if e = x then n else lgGo x f (n + 1) (xt e)
/-- The least power of two that the element is (of 0: 255). -/
def lg (x : B) : Nat := lgGo x 255 0 1#8
theorem ex_lg : ∀ x : B, x ≠ 0#8 → ex (lg x) = x ∧ lg x < 255 := forall_B (by decide +kernel)
theorem lg_ex : ∀ n : Fin 255, lg (ex n) = n := by decide +kernel
theorem lg_ex_lt (n : Nat) (h : n < 255) : lg (ex n) = n := lg_ex ⟨n, h⟩
theorem ex_ne (n : Nat) : ex n ≠ 0#8 := by
  rw [← ex_mod]
  have h : ∀ n : Fin 255, ex n ≠ 0#8 := by decide +kernel
  exact h ⟨n % 255, Nat.mod_lt _ (by decide)⟩
theorem ex_inj (m n : Nat) (hm : m < 255) (hn : n < 255) (h : ex m = ex n) : m = n := by
  rw [← lg_ex_lt m hm, h, lg_ex_lt n hn]
theorem mul_comm (a b : B) : mul a b = mul b a := by
  by_cases ha : a = 0#8
  · rw [ha, mul_zero, zero_mul]
  by_cases hb : b = 0#8
  · rw [hb, mul_zero, zero_mul]
  rw [← (ex_lg a ha).1, ← (ex_lg b hb).1, mul_ex, mul_ex, Nat.add_comm]
theorem mul_assoc (a b c : B) : mul (mul a b) c = mul a (mul b c) := by
  by_cases ha : a = 0#8
  · rw [ha, zero_mul, zero_mul, zero_mul]
  by_cases hb : b = 0#8
  · rw [hb, zero_mul, mul_zero, zero_mul]
  by_cases hc : c = 0#8
  · rw [hc, mul_zero, mul_zero, mul_zero]
  rw [← (ex_lg a ha).1, ← (ex_lg b hb).1, ← (ex_lg c hc).1, mul_ex, mul_ex, mul_ex, mul_ex, Nat.add_assoc]
theorem mul_one (a : B) : mul a 1#8 = a := by rw [mul_comm, one_mul]
theorem mul_ne (a b : B) (ha : a ≠ 0#8) (hb : b ≠ 0#8) : mul a b ≠ 0#8 := by
  rw [← (ex_lg a ha).1, ← (ex_lg b hb).1, mul_ex]; exact ex_ne _
def inv (a : B) : B := if a = 0#8 then 0#8 else ex ((255 - lg a) % 255)
theorem mul_inv (a : B) (ha : a ≠ 0#8) : mul a (inv a) = 1#8 := by
  unfold inv
  rw [if_neg ha, ex_mod]
  have h := ex_lg a ha
  conv => lhs; arg 1; rw [← h.1]
  rw [mul_ex, show lg a + (255 - lg a) = 255 by omega]
  exact ex_255
theorem inv_mul (a : B) (ha : a ≠ 0#8) : mul (inv a) a = 1#8 := by rw [mul_comm, mul_inv a ha]
theorem inv_zero : inv 0#8 = 0#8 := rfl
theorem inv_ne (a : B) (ha : a ≠ 0#8) : inv a ≠ 0#8 := by
  intro h
  have := mul_inv a ha
  rw [h, mul_zero] at this
  exact absurd this (by decide)
theorem mul_eq_one (a b : B) (h : mul a b = 1#8) : a ≠ 0#8 ∧ b = inv a := by
  have ha : a ≠ 0#8 := by
    intro h0
    rw [h0, zero_mul] at h
    exact absurd h (by decide)
  refine ⟨ha, ?_⟩
  have h2 : mul (inv a) (mul a b) = inv a := by rw [h, mul_one]
  rw [← mul_assoc, inv_mul a ha, one_mul] at h2
  exact h2
end Go.Proofs.Ytbogmlckbkogiaa.Gf
