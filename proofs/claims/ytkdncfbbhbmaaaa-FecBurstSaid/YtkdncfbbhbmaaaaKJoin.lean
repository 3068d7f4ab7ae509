/- Plain mathematics of crc.times and crc.Join: multiplying by a power of x is shifting the register. -/
import Derived.Test.YtkdncfbbhbmaaaaKCrc
namespace Go.Proofs.Ytkdncfbbhbmaaaa.K
theorem crcHalf_zero : crcHalf 0 = 0 := by decide
theorem crcIter_zero (n : Nat) : crcIter n 0 = 0 := by
  induction n with
  | zero => rfl
  | succ n ih => rw [crcIter, ih, crcHalf_zero]
theorem crcIter_add (m n c : Nat) : crcIter (m + n) c = crcIter m (crcIter n c) := by
  induction m with
  | zero => rw [Nat.zero_add]; rfl
  | succ m ih => rw [Nat.succ_add, crcIter, ih, crcIter]
/-- The product of two remainders, bit by bit from bit n - 1 of the first one downwards. -/
def tmul : Nat → Nat → Nat → Nat
  | 0, _, _ => 0
  | n + 1, a, b => (if a / 2 ^ n % 2 = 1 then b else 0) ^^^ tmul n a (crcHalf b)
theorem tmul_lt (n a : Nat) : ∀ b, b < 4294967296 → tmul n a b < 4294967296 := by
  induction n with
  | zero => intro b _; exact (by decide : 0 < 4294967296)
  | succ n ih =>
    intro b hb
    refine Nat.xor_lt_two_pow (n := 32) ?_ (ih _ (crcHalf_lt b hb))
    split
    · exact hb
    · decide
theorem tmul_half (n a : Nat) : ∀ b, tmul n a (crcHalf b) = crcHalf (tmul n a b) := by
  induction n with
  | zero => intro b; exact crcHalf_zero.symm
  | succ n ih =>
    intro b
    rw [tmul, tmul, half_xor, ih (crcHalf b)]
    split
    · rfl
    · rw [crcHalf_zero]
theorem tmul_iter (n a j : Nat) (b : Nat) : tmul n a (crcIter j b) = crcIter j (tmul n a b) := by
  induction j with
  | zero => rfl
  | succ j ih => rw [crcIter, tmul_half, ih, crcIter]
theorem half_pow (n : Nat) : crcHalf (2 ^ (n + 1)) = 2 ^ n := by
  unfold crcHalf
  rw [Nat.pow_succ, if_neg (by omega)]
  omega
theorem tmul_pow (n a : Nat) : tmul (n + 1) a (2 ^ n) = a % 2 ^ (n + 1) := by
  induction n with
  | zero =>
    simp only [tmul, Nat.pow_zero, Nat.div_one, Nat.xor_zero, Nat.zero_add, Nat.pow_one]
    split <;> omega
  | succ n ih =>
    rw [tmul, half_pow, ih]
    apply Nat.eq_of_testBit_eq
    intro i
    rw [Nat.testBit_xor, Nat.testBit_mod_two_pow, Nat.testBit_mod_two_pow]
    have hb : (a / 2 ^ (n + 1) % 2 = 1) ↔ a.testBit (n + 1) = true := by rw [Nat.testBit_eq_decide_div_mod_eq]; simp
    by_cases h : a / 2 ^ (n + 1) % 2 = 1
    · rw [if_pos h, Nat.testBit_two_pow]
      have h2 := hb.1 h
      by_cases e : n + 1 = i
      · subst e; simp [h2]
      · by_cases e2 : i < n + 1
        · simp [e, e2, show i < n + 1 + 1 by omega]
        · simp [e, e2, show ¬ i < n + 1 + 1 by omega]
    · rw [if_neg h, Nat.zero_testBit]
      have h2 : a.testBit (n + 1) = false := by simpa using fun z => h (hb.2 z)
      by_cases e : n + 1 = i
      · subst e; simp [h2]
      · by_cases e2 : i < n + 1
        · simp [e2, show i < n + 1 + 1 by omega]
        · simp [e2, show ¬ i < n + 1 + 1 by omega]
/-- The remainder of a power of x. -/
def xpow (j : Nat) : Nat := crcIter j 2147483648
theorem xpow_lt (j : Nat) : xpow j < 4294967296 := crcIter_lt j _ (by decide)
theorem tmul_xpow (a j : Nat) (ha : a < 4294967296) : tmul 32 a (xpow j) = crcIter j a := by
  unfold xpow
  rw [tmul_iter, show (2147483648 : Nat) = 2 ^ 31 from rfl, tmul_pow 31 a, Nat.mod_eq_of_lt ha]
theorem xpow_eight : xpow 8 = 8388608 := by decide
theorem xpow_double (j : Nat) : crcIter j (xpow j) = xpow (j + j) := by unfold xpow; rw [crcIter_add]
end Go.Proofs.Ytkdncfbbhbmaaaa.K
