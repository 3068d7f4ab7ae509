/- What backoff.Wait answers: the draw's rest by a power of two. -/
import Derived.Test.YtkdncfbbhbmaaaaQf35
import Derived.Test.YtkdncfbbhbmaaaaKWithin
import Derived.Laws.BitsLemmas
namespace Go.Proofs.Ytkdncfbbhbmaaaa.Br
open Go.RowKit Go.Proofs.Ytkdncfbbhbmaaaa.Q Go.Proofs.YtkdncfbbhbmaaaaW.PrintWords Go.Proofs.YtkdncfbbhbmaaaaW.PrintLast Go.Proofs.YtkdncfbbhbmaaaaW.PrintMore Go.Proofs.Ytkdncfbbhbmaaaa.K
theorem mask_nat : ∀ j : Fin 41, (BitVec.ofInt 64 (2 ^ j.val - 1)).toNat = 2 ^ j.val - 1 := by decide +kernel
theorem pow_le : ∀ j : Fin 41, 1 ≤ 2 ^ j.val ∧ 2 ^ j.val ≤ 1099511627776 ∧ 2 ^ j.val ∣ 18446744073709551616 := by decide +kernel
theorem and_mask (n : Int) (j : Nat) (hj : j ≤ 40) : Go.bits .and .i64 n (2 ^ j - 1) = n % ((2 ^ j : Nat) : Int) := by
  obtain ⟨h1, h2, h3⟩ := pow_le ⟨j, by omega⟩
  have hm := mask_nat ⟨j, by omega⟩
  simp only at h1 h2 h3 hm
  have key : (BitVec.ofInt 64 n &&& BitVec.ofInt 64 (2 ^ j - 1)).toNat = (n % ((2 ^ 64 : Nat) : Int)).toNat % 2 ^ j := by
    rw [BitVec.toNat_and, BitVec.toNat_ofInt, hm, Nat.and_two_pow_sub_one_eq_mod]
  show IntKind.i64.wrap ((BitVec.ofInt 64 n &&& BitVec.ofInt 64 (2 ^ j - 1)).toNat : Nat) = _
  have h4 : (((n % ((2 ^ 64 : Nat) : Int)).toNat % 2 ^ j : Nat) : Int) = n % ((2 ^ j : Nat) : Int) := by
    rw [Int.natCast_emod, Int.toNat_of_nonneg (Int.emod_nonneg _ (by decide))]
    exact Int.emod_emod_of_dvd n (Int.natCast_dvd_natCast.2 h3)
  rw [key, IntKind.wrap_i64, h4]
  have h5 := Int.emod_nonneg n (show ((2 ^ j : Nat) : Int) ≠ 0 by omega)
  have h6 := Int.emod_lt_of_pos n (show (0 : Int) < ((2 ^ j : Nat) : Int) by omega)
  omega
/-- The size of the range of the waits. -/
def rangeOf (t : Nat) : Nat := 2 ^ (min t 10)
theorem mn_try (t : Nat) : mn (t : Int) 10 = ((min t 10 : Nat) : Int) := by
  unfold mn
  split <;> omega
theorem range_le (t : Nat) : 1 ≤ rangeOf t ∧ rangeOf t ≤ 1024 := by
  have h1 : 1 ≤ 2 ^ (min t 10) := Nat.one_le_two_pow
  have h2 : 2 ^ (min t 10) ≤ 2 ^ 10 := Nat.pow_le_pow_right (by omega) (by omega)
  exact ⟨h1, h2⟩
theorem range_wrap (t : Nat) : wrap64 (2 ^ (mn (t : Int) 10).toNat) = ((rangeOf t : Nat) : Int) := by
  rw [mn_try, Int.toNat_natCast]
  have h := range_le t
  have h2 : ((2 : Int) ^ (min t 10)) = ((rangeOf t : Nat) : Int) := by simp [rangeOf]
  rw [h2]
  unfold wrap64
  omega
theorem wait_eq (t : Nat) (h1 : 1 ≤ t) (h2 : t ≤ 16) (n : Int) : backoff_Wait.f (t : Int) n = some (n % ((rangeOf t : Nat) : Int), 0) := by
  unfold backoff_Wait.f
  rw [if_neg (by omega), if_neg (by omega), if_pos (by rw [mn_try]; omega), range_wrap]
  have hr := range_le t
  have h3 : wrap64 (((rangeOf t : Nat) : Int) - 1) = (2 : Int) ^ (min t 10) - 1 := by
    have h4 : ((2 : Int) ^ (min t 10)) = ((rangeOf t : Nat) : Int) := by simp [rangeOf]
    rw [h4]
    unfold wrap64
    omega
  rw [h3, and_mask n (min t 10) (by omega)]
  rfl
end Go.Proofs.Ytkdncfbbhbmaaaa.Br
