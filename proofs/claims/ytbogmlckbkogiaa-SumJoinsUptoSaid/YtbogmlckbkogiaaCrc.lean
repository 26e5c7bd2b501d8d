/- The sum of the program (by table) and of the reference (bit by bit) are one function of the bytes; how it answers to a turned bit. Conditions: none. -/
import Derived.Test.YtbogmlckbkogiaaGfl
import Derived.Test.YtbogmlckbkogiaaLeafG
import Derived.Test.YtbogmlckbkogiaaPMooringref04Of
namespace Go.Proofs.Ytbogmlckbkogiaa.Crc
open Go.RowKit Go.Proofs.YtbogmlckbkogiaaW.PrintWords Go.Proofs.Ytbogmlckbkogiaa.Leaf Go.Proofs.Ytbogmlckbkogiaa.P Go.Proofs.Ytbogmlckbkogiaa.Gf
abbrev W32 := BitVec 32
/-- One bit's step. -/
def S (x : W32) : W32 := (x >>> 1) ^^^ (if x.getLsbD 0 then 2197175160#32 else 0#32)
theorem S_xor (x y : W32) : S (x ^^^ y) = S x ^^^ S y := by
  unfold S
  rw [BitVec.ushiftRight_xor_distrib, BitVec.getLsbD_xor]
  cases x.getLsbD 0 <;> cases y.getLsbD 0
  · simp
  · simp; ac_rfl
  · simp; ac_rfl
  · simp only [Bool.xor_self, Bool.false_eq_true, if_false, if_true, BitVec.xor_zero]
    rw [show x >>> 1 ^^^ 2197175160#32 ^^^ (y >>> 1 ^^^ 2197175160#32) = x >>> 1 ^^^ y >>> 1 ^^^ (2197175160#32 ^^^ 2197175160#32) by ac_rfl, BitVec.xor_self, BitVec.xor_zero]
theorem S_zero : S 0#32 = 0#32 := by decide
theorem S_ne (x : W32) (h : S x = 0#32) : x = 0#32 := by
  unfold S at h
  cases h0 : x.getLsbD 0 with
  | true =>
    rw [h0, if_pos rfl] at h
    have := congrArg (fun y : W32 => y.getLsbD 31) h
    simp at this
  | false =>
    rw [h0, if_neg (by simp), BitVec.xor_zero] at h
    refine BitVec.eq_of_getLsbD_eq fun i hi => ?_
    cases i with
    | zero => rw [h0]; simp
    | succ i =>
      have := congrArg (fun y : W32 => y.getLsbD i) h
      simp only [BitVec.getLsbD_ushiftRight] at this
      rw [Nat.add_comm 1 i] at this
      rw [this]; simp
def Sn : Nat → W32 → W32
  | 0, x => x
  | n + 1, x => Sn n (S x)
theorem Sn_xor (n : Nat) : ∀ x y, Sn n (x ^^^ y) = Sn n x ^^^ Sn n y := by
  induction n with
  | zero => intro x y; rfl
  | succ n ih => intro x y; simp only [Sn]; rw [S_xor, ih]
theorem Sn_add (m n : Nat) : ∀ x, Sn (m + n) x = Sn n (Sn m x) := by
  induction m with
  | zero => intro x; rw [Nat.zero_add]; rfl
  | succ m ih => intro x; rw [Nat.succ_add]; simp only [Sn]; exact ih _
theorem Sn_zero (n : Nat) : Sn n 0#32 = 0#32 := by
  induction n with
  | zero => rfl
  | succ n ih => simp only [Sn]; rw [S_zero, ih]
theorem Sn_ne (n : Nat) : ∀ x, Sn n x = 0#32 → x = 0#32 := by
  induction n with
  | zero => intro x h; exact h
  | succ n ih => intro x h; exact S_ne x (ih _ h)
theorem S_even (x : W32) (m : Nat) (h : x.toNat = 2 * m) : (S x).toNat = m := by
  unfold S
  have h0 : x.getLsbD 0 = false := by
    unfold BitVec.getLsbD
    rw [h]
    simp [Nat.testBit_zero]
  rw [h0, if_neg (by simp), BitVec.xor_zero, BitVec.toNat_ushiftRight, h, Nat.shiftRight_eq_div_pow]
  omega
theorem Sn_even (n : Nat) : ∀ (x : W32) (m : Nat), x.toNat = 2 ^ n * m → (Sn n x).toNat = m := by
  induction n with
  | zero => intro x m h; simpa [Sn] using h
  | succ n ih =>
    intro x m h
    exact ih (S x) m (S_even x _ (by rw [h, Nat.pow_succ, Nat.mul_comm (2 ^ n) 2, Nat.mul_assoc]))
def lo (x : W32) : B := x.setWidth 8
def wd (c : B) : W32 := c.setWidth 32
theorem wd_xor (a b : B) : wd (a ^^^ b) = wd a ^^^ wd b := by unfold wd; rw [BitVec.setWidth_xor]
theorem split (x : W32) : x = ((x >>> 8) <<< 8) ^^^ wd (lo x) := by
  refine BitVec.eq_of_getLsbD_eq fun i hi => ?_
  unfold wd lo
  simp only [BitVec.getLsbD_xor, BitVec.getLsbD_shiftLeft, BitVec.getLsbD_ushiftRight, BitVec.getLsbD_setWidth]
  by_cases h8 : i < 8
  · simp [h8, hi]
  · simp only [h8, hi, decide_true, decide_false, Bool.true_and, Bool.not_false, Bool.false_and, Bool.and_false, Bool.xor_false]
    rw [show 8 + (i - 8) = i by omega]
theorem S8_hi (x : W32) : Sn 8 ((x >>> 8) <<< 8) = x >>> 8 := by
  refine BitVec.eq_of_toNat_eq (Sn_even 8 _ _ ?_)
  have := x.isLt
  rw [BitVec.toNat_shiftLeft, BitVec.toNat_ushiftRight, Nat.shiftRight_eq_div_pow, Nat.shiftLeft_eq]
  omega
theorem S8_split (x : W32) : Sn 8 x = (x >>> 8) ^^^ Sn 8 (wd (lo x)) := by
  conv => lhs; rw [split x]
  rw [Sn_xor, S8_hi]
/-- One byte's step. -/
def step (x : W32) (c : B) : W32 := Sn 8 (x ^^^ wd c)
def ofW (x : W32) : Int := (x.toNat : Int)
theorem tabK_S : ∀ i : Fin 256, rd tabK (i.val : Int) = ofW (Sn 8 (wd (BitVec.ofFin i))) := by decide +kernel
theorem rdK (c : B) : rd tabK (ofB c) = ofW (Sn 8 (wd c)) := tabK_S c.toFin
theorem ofW_inj {a b : W32} (h : ofW a = ofW b) : a = b := by unfold ofW at h; exact BitVec.eq_of_toNat_eq (by omega)
theorem ofW_range (a : W32) : 0 ≤ ofW a ∧ ofW a < 4294967296 := by have := a.isLt; unfold ofW; omega
theorem xor_ofW (a b : W32) : Go.bits .xor .u32 (ofW a) (ofW b) = ofW (a ^^^ b) := by
  have h1 := a.isLt
  have h2 := b.isLt
  have h := Nat.xor_lt_two_pow h1 h2
  unfold Go.bits ofW
  simp only [BitVec.ofInt_natCast, BitVec.toNat_xor, BitVec.toNat_ofNat]
  show IntKind.u32.wrap (((a.toNat % 2 ^ 32) ^^^ (b.toNat % 2 ^ 32) : Nat) : Int) = _
  rw [Nat.mod_eq_of_lt h1, Nat.mod_eq_of_lt h2, IntKind.wrap_u32]
  omega
theorem lo_ofW (x : W32) : ofW x % 256 = ofB (lo x) := by
  unfold ofW ofB lo
  rw [BitVec.toNat_setWidth]
  omega
theorem hi_ofW (x : W32) : ofW x / (256 : Int) = ofW (x >>> 8) := by
  unfold ofW
  rw [BitVec.toNat_ushiftRight, Nat.shiftRight_eq_div_pow]
  omega
theorem stepK_eq (x : W32) (c : B) : stepK (ofW x) (ofB c) = ofW (step x c) := by
  unfold stepK step
  rw [lo_ofW, xor_ofB, rdK, hi_ofW, xor_ofW, Sn_xor, S8_split x, wd_xor, Sn_xor]
  congr 1
  ac_rfl
theorem stepZ_eq (x : W32) : stepZ (ofW x) = ofW (Sn 8 x) := by
  unfold stepZ
  rw [lo_ofW, rdK, hi_ofW, xor_ofW, S8_split x]
  congr 1
  ac_rfl
def F (x : W32) (L : List B) : W32 := L.foldl step x
theorem foldK (L : List B) : ∀ x, (ofL L).foldl stepK (ofW x) = ofW (F x L) := by
  induction L with
  | nil => intro x; rfl
  | cons c L ih =>
    intro x
    show (ofL L).foldl stepK (stepK (ofW x) (ofB c)) = _
    rw [stepK_eq, ih]
    rfl
theorem iterZ_eq (n : Nat) (x : W32) : iterZ n (ofW x) = ofW (Sn (8 * n) x) := by
  induction n with
  | zero => rfl
  | succ n ih =>
    simp only [iterZ]
    rw [ih, stepZ_eq, ← Sn_add, Nat.mul_succ]
def ones : W32 := 4294967295#32
theorem max_ones : IntKind.u32.max = ofW ones := by decide
/-- The sum of bytes that go on behind a sum. -/
def more (s : W32) (L : List B) : W32 := ones ^^^ F (ones ^^^ s) L
def sumB (L : List B) : W32 := more 0#32 L
theorem sumMore_eq (s : W32) (L : List B) : sum_More.f (ofW s) (ofL L) = some (ofW (more s L)) := by
  unfold sum_More.f more
  rw [max_ones, xor_ofW, foldK, xor_ofW]
theorem sumOf_eq (L : List B) : sum_Of.f (ofL L) = some (ofW (sumB L)) := sumMore_eq 0#32 L
/-! ### The reference's -/
theorem refOf_l1 (L : List B) (p : Nat) (hp : p < L.length) (hs : L.length < 2 ^ 62) {v : Int} (n : Nat) : ∀ (k0 : Nat) (x : W32), k0 + n = 8 →
    Ev (fun k => mooringref04_Of.l0 k (ofL L) (ofW (Sn n (x ^^^ (wd (at0 L p) >>> k0)))) ((p + 1 : Nat) : Int)) v →
    Ev (fun k => mooringref04_Of.l1 k (ofL L) (ofW x) (p : Int) (k0 : Int)) v := by
  induction n with
  | zero =>
    intro k0 x hk h
    refine Ev.step (fun k => ?_) h
    simp only [mooringref04_Of.l1]
    have h8 : wd (at0 L p) >>> k0 = 0#32 := by
      refine BitVec.eq_of_toNat_eq ?_
      unfold wd
      have := (at0 L p).isLt
      rw [BitVec.toNat_ushiftRight, BitVec.toNat_setWidth, Nat.shiftRight_eq_div_pow, show k0 = 8 by omega, BitVec.toNat_ofNat]
      omega
    rw [if_neg (by omega), h8, BitVec.xor_zero, w64 _ (by omega) (by omega)]
    rfl
  | succ n ih =>
    intro k0 x hk h
    have hc := (at0 L p).isLt
    have hx := x.isLt
    have e1 : shr .u32 ((rd (ofL L) (p : Int)) % 4294967296) (IntKind.u64.wrap (k0 : Int)) = ofW (wd (at0 L p) >>> k0) := by
      rw [rd_ofL]
      have ek : IntKind.u64.wrap (k0 : Int) = (k0 : Int) := by rw [IntKind.wrap_u64]; omega
      rw [ek]
      have ec : ofB (at0 L p) % 4294967296 = ofW (wd (at0 L p)) := by
        unfold ofB ofW wd
        rw [BitVec.toNat_setWidth]
        omega
      rw [ec]
      have hk8 : k0 < 8 := by omega
      unfold shr ofW
      rw [Int.toNat_natCast, show min k0 IntKind.u32.bits = k0 from Nat.min_eq_left (by show k0 ≤ 32; omega), BitVec.toNat_ushiftRight, Nat.shiftRight_eq_div_pow]
      rfl
    have e2 : Int.tmod (ofW (x ^^^ (wd (at0 L p) >>> k0))) 2 = if (x ^^^ (wd (at0 L p) >>> k0)).getLsbD 0 then 1 else 0 := by
      unfold ofW
      generalize x ^^^ (wd (at0 L p) >>> k0) = y
      rw [Int.tmod_eq_emod_of_nonneg (by omega)]
      unfold BitVec.getLsbD
      rw [Nat.testBit_zero]
      by_cases h2 : y.toNat % 2 = 1
      · simp [h2]; omega
      · simp [h2]; omega
    have e3 : (Int.tdiv (ofW x) 2) % (4294967296 : Int) = ofW (x >>> 1) := by
      unfold ofW
      rw [Int.tdiv_eq_ediv_of_nonneg (by omega), BitVec.toNat_ushiftRight, Nat.shiftRight_eq_div_pow]
      omega
    have e4 : ((x >>> 1) ^^^ (if (x ^^^ (wd (at0 L p) >>> k0)).getLsbD 0 then 2197175160#32 else 0#32)) ^^^ (wd (at0 L p) >>> (k0 + 1)) = S (x ^^^ (wd (at0 L p) >>> k0)) := by
      unfold S
      rw [BitVec.ushiftRight_xor_distrib, BitVec.shiftRight_add]
      ac_rfl
    refine Ev.step (f := fun k => mooringref04_Of.l1 k (ofL L) (ofW ((x >>> 1) ^^^ (if (x ^^^ (wd (at0 L p) >>> k0)).getLsbD 0 then 2197175160#32 else 0#32))) (p : Int) ((k0 + 1 : Nat) : Int)) (fun k => ?_) (ih (k0 + 1) _ (by omega) ?_)
    · simp only [mooringref04_Of.l1, ofL_length]
      rw [if_pos (by omega), if_pos (by omega), if_pos (by omega), if_pos (by rw [IntKind.wrap_u64]; omega), e1, xor_ofW, e2, e3, w64 _ (by omega) (by omega)]
      cases (x ^^^ (wd (at0 L p) >>> k0)).getLsbD 0 with
      | true =>
        rw [if_pos rfl, if_pos rfl, if_pos rfl, show (2197175160 : Int) = ofW 2197175160#32 from rfl, xor_ofW]
        rfl
      | false =>
        rw [if_neg (by decide), if_neg (by decide), BitVec.xor_zero]
        rfl
    · rw [e4]
      exact h
theorem F_drop (L : List B) (p : Nat) (hp : p < L.length) (x : W32) : F x (L.drop p) = F (step x (at0 L p)) (L.drop (p + 1)) := by
  rw [List.drop_eq_getElem_cons hp]
  unfold F at0
  rw [List.foldl_cons, List.getD_eq_getElem?_getD, List.getElem?_eq_getElem hp]
  rfl
theorem refOf_l0 (L : List B) (hs : L.length < 2 ^ 62) (n : Nat) : ∀ (p : Nat) (x : W32), p + n = L.length → Ev (fun k => mooringref04_Of.l0 k (ofL L) (ofW x) (p : Int)) (ofW (F x (L.drop p) ^^^ ones)) := by
  induction n with
  | zero =>
    intro p x hp
    refine Ev.step (f := fun _ => some (ofW (x ^^^ ones))) (fun k => ?_) ?_
    · simp only [mooringref04_Of.l0, ofL_length]
      rw [if_neg (by omega), show (4294967295 : Int) = ofW ones from rfl, xor_ofW]
    · rw [List.drop_eq_nil_of_le (by omega)]
      exact Ev.now _
  | succ n ih =>
    intro p x hp
    refine Ev.step (f := fun k => mooringref04_Of.l1 k (ofL L) (ofW x) (p : Int) ((0 : Nat) : Int)) (fun k => ?_) (refOf_l1 L p (by omega) hs 8 0 x rfl ?_)
    · simp only [mooringref04_Of.l0, ofL_length]
      rw [if_pos (by omega)]
      rfl
    · rw [F_drop L p (by omega)]
      exact ih (p + 1) _ (by omega)
theorem refOf (L : List B) (hs : L.length < 2 ^ 62) : Ev (fun k => mooringref04_Of.f k (ofL L)) (ofW (sumB L)) := by
  have h := refOf_l0 L hs L.length 0 ones (by omega)
  rw [List.drop_zero] at h
  have e : sumB L = F ones L ^^^ ones := by
    show ones ^^^ F (ones ^^^ 0#32) L = _
    rw [BitVec.xor_zero, BitVec.xor_comm]
  rw [e]
  exact h
/-! ### Going on, joining -/
theorem F_append (x : W32) (L M : List B) : F x (L ++ M) = F (F x L) M := by unfold F; rw [List.foldl_append]
theorem F_xor (M : List B) : ∀ x y, F (x ^^^ y) M = Sn (8 * M.length) x ^^^ F y M := by
  induction M with
  | nil => intro x y; rfl
  | cons c M ih =>
    intro x y
    show F (step (x ^^^ y) c) M = Sn (8 * (M.length + 1)) x ^^^ F (step y c) M
    have : step (x ^^^ y) c = Sn 8 x ^^^ step y c := by
      unfold step
      rw [← Sn_xor, BitVec.xor_assoc]
    rw [this, ih, Nat.mul_succ, Nat.add_comm, Sn_add]
theorem more_append (L M : List B) : more (sumB L) M = sumB (L ++ M) := by
  show ones ^^^ F (ones ^^^ (ones ^^^ F (ones ^^^ 0#32) L)) M = ones ^^^ F (ones ^^^ 0#32) (L ++ M)
  rw [F_append, ← BitVec.xor_assoc, BitVec.xor_self, BitVec.zero_xor]
theorem join_append (L M : List B) : Sn (8 * M.length) (sumB L) ^^^ sumB M = sumB (L ++ M) := by
  rw [← more_append]
  show _ ^^^ (ones ^^^ F (ones ^^^ 0#32) M) = ones ^^^ F (ones ^^^ sumB L) M
  rw [show ones ^^^ 0#32 = ones from BitVec.xor_zero, BitVec.xor_comm ones (sumB L), F_xor M (sumB L) ones]
  ac_rfl
end Go.Proofs.Ytbogmlckbkogiaa.Crc
