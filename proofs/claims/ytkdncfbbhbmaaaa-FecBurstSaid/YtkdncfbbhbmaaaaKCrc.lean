/- Plain mathematics of the checksum's register: eight single-bit steps as one table row, without any program. -/
import Derived.Laws.BitsLemmas
namespace Go.Proofs.Ytkdncfbbhbmaaaa.K
/-- The step of the checksum's register: one bit. -/
def crcHalf (c : Nat) : Nat := if c % 2 = 1 then (c / 2) ^^^ 3988292384 else c / 2
def crcIter : Nat → Nat → Nat
  | 0, c => c
  | n + 1, c => crcHalf (crcIter n c)
theorem crcHalf_lt (c : Nat) (h : c < 4294967296) : crcHalf c < 4294967296 := by
  unfold crcHalf
  split
  · exact Nat.xor_lt_two_pow (n := 32) (by omega) (by decide)
  · omega
theorem crcIter_lt (n c : Nat) (h : c < 4294967296) : crcIter n c < 4294967296 := by
  induction n with
  | zero => exact h
  | succ n ih => exact crcHalf_lt _ ih
theorem xor_mod2 (x y : Nat) : (x ^^^ y) % 2 = (x % 2 + y % 2) % 2 := by
  have h1 : (x ^^^ y) % 2 = x % 2 ^^^ y % 2 := Nat.xor_mod_two_pow (a := x) (b := y) (n := 1)
  rw [h1]
  rcases Nat.mod_two_eq_zero_or_one x with hx | hx <;> rcases Nat.mod_two_eq_zero_or_one y with hy | hy <;> rw [hx, hy] <;> rfl
theorem xor_div2 (x y : Nat) : (x ^^^ y) / 2 = x / 2 ^^^ y / 2 := by
  have := Nat.shiftRight_xor_distrib (a := x) (b := y) (i := 1)
  simpa [Nat.shiftRight_eq_div_pow] using this
theorem half_xor (x y : Nat) : crcHalf (x ^^^ y) = crcHalf x ^^^ crcHalf y := by
  unfold crcHalf
  rw [xor_mod2, xor_div2]
  rcases Nat.mod_two_eq_zero_or_one x with hx | hx <;> rcases Nat.mod_two_eq_zero_or_one y with hy | hy <;> simp [hx, hy]
  · ac_rfl
  · ac_rfl
  · rw [show x / 2 ^^^ 3988292384 ^^^ (y / 2 ^^^ 3988292384) = (x / 2 ^^^ y / 2) ^^^ (3988292384 ^^^ 3988292384) by ac_rfl]; simp
theorem iter_xor (n x y : Nat) : crcIter n (x ^^^ y) = crcIter n x ^^^ crcIter n y := by
  induction n with
  | zero => rfl
  | succ n ih => simp only [crcIter, ih, half_xor]
theorem iter_high (n : Nat) : ∀ x, crcIter n (x * 2 ^ n) = x := by
  induction n with
  | zero => intro x; simp [crcIter]
  | succ n ih =>
    intro x
    simp only [crcIter]
    rw [show x * 2 ^ (n + 1) = (x * 2) * 2 ^ n by rw [Nat.pow_succ, Nat.mul_assoc, Nat.mul_comm 2]]
    rw [ih]
    unfold crcHalf
    rw [if_neg (by omega)]
    omega
theorem byte_step (c b : Nat) : crcIter 8 (c ^^^ b) = c / 256 ^^^ crcIter 8 ((c % 256) ^^^ b) := by
  have h : c = (c / 256) * 2 ^ 8 ^^^ c % 256 := by
    apply Nat.eq_of_testBit_eq
    intro i
    rw [Nat.testBit_xor, Nat.testBit_mul_two_pow, show 256 = 2 ^ 8 from rfl, Nat.testBit_mod_two_pow, Nat.testBit_div_two_pow]
    by_cases h : i < 8
    · simp [h, show ¬ 8 ≤ i by omega]
    · simp [h, show 8 ≤ i by omega]
  conv => lhs; rw [h]
  rw [Nat.xor_assoc, iter_xor, iter_high]
theorem xor_byte (a b : Nat) (ha : a < 256) (hb : b < 256) : a ^^^ b < 256 := Nat.xor_lt_two_pow (n := 8) ha hb
/-- The register after some bytes. -/
def crcReg (l : List UInt8) : Nat := l.foldl (fun c b => crcIter 8 (c ^^^ b.toNat)) 4294967295
theorem crcReg_snoc (l : List UInt8) (b : UInt8) : crcReg (l ++ [b]) = crcIter 8 (crcReg l ^^^ b.toNat) := by simp [crcReg]
theorem fold_lt (l : List UInt8) : ∀ c, c < 4294967296 → l.foldl (fun c b => crcIter 8 (c ^^^ b.toNat)) c < 4294967296 := by
  induction l with
  | nil => intro c h; exact h
  | cons b l ih =>
    intro c h
    exact ih _ (crcIter_lt 8 _ (Nat.xor_lt_two_pow (n := 32) h (Nat.lt_trans (UInt8.toNat_lt b) (by decide))))
theorem crcReg_lt (l : List UInt8) : crcReg l < 4294967296 := fold_lt l _ (by decide)
/-- The checksum of some bytes. -/
def crcOf (l : List UInt8) : Nat := crcReg l ^^^ 4294967295
theorem crcOf_lt (l : List UInt8) : crcOf l < 4294967296 := Nat.xor_lt_two_pow (n := 32) (crcReg_lt l) (by decide)
theorem xorU32 (a b : Nat) (ha : a < 4294967296) (hb : b < 4294967296) : Go.bits .xor .u32 (a : Int) (b : Int) = ((a ^^^ b : Nat) : Int) := by
  have h : a ^^^ b < 2 ^ 32 := Nat.xor_lt_two_pow (by omega) (by omega)
  simp only [Go.bits, BitVec.ofInt_natCast, BitVec.toNat_xor, BitVec.toNat_ofNat]
  rw [IntKind.wrap_u32, show IntKind.u32.bits = 32 from rfl, Nat.mod_eq_of_lt (by omega), Nat.mod_eq_of_lt (by omega)]
  omega
theorem xorU8 (a b : Nat) (ha : a < 256) (hb : b < 256) : Go.bits .xor .u8 (a : Int) (b : Int) = ((a ^^^ b : Nat) : Int) := by
  have h : a ^^^ b < 2 ^ 8 := Nat.xor_lt_two_pow (by omega) (by omega)
  simp only [Go.bits, BitVec.ofInt_natCast, BitVec.toNat_xor, BitVec.toNat_ofNat]
  rw [IntKind.wrap_u8, show IntKind.u8.bits = 8 from rfl, Nat.mod_eq_of_lt (by omega), Nat.mod_eq_of_lt (by omega)]
  omega
theorem andU32 (a : Nat) (ha : a < 4294967296) : Go.bits .and .u32 (a : Int) 1 = ((a % 2 : Nat) : Int) := by
  have := (bits_nat .u32 32 (by decide) (fun n h0 h1 => by rw [IntKind.wrap_u32]; omega) a 1 (by omega) (by omega)).1
  rw [show ((1 : Int)) = ((1 : Nat) : Int) from rfl, this, Nat.and_one_is_mod]
end Go.Proofs.Ytkdncfbbhbmaaaa.K
