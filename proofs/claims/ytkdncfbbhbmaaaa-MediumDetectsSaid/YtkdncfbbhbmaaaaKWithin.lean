/- What 'within' answers: a number from 0 to n - 1. -/
import Derived.Test.YtkdncfbbhbmaaaaQf21
namespace Go.Proofs.Ytkdncfbbhbmaaaa.K
open Go.RowKit Go.Proofs.Ytkdncfbbhbmaaaa.Q Go.Proofs.YtkdncfbbhbmaaaaW.PrintWords Go.Proofs.YtkdncfbbhbmaaaaW.PrintLast
theorem wrap_u64 (n : Int) : IntKind.u64.wrap n = n % 18446744073709551616 := by simp [IntKind.wrap, IntKind.bits, IntKind.signed]
/-- The number that within gives. -/
def withinN (a : Int) (n : Nat) : Nat := ((a % 18446744073709551616) % (n : Int)).toNat
theorem withinN_lt (a : Int) (n : Nat) (h : 0 < n) : withinN a n < n := by unfold withinN; have := Int.emod_lt_of_pos (a % 18446744073709551616) (show (0 : Int) < n by omega); omega
theorem within_f (a : Int) (n : Nat) (h : 0 < n) (h2 : n < 9223372036854775808) : patchbaykeep1_within.f a (n : Int) = some ((withinN a n : Nat) : Int) := by
  unfold patchbaykeep1_within.f
  have hn : IntKind.u64.wrap (n : Int) = (n : Int) := by rw [wrap_u64]; omega
  have h0 : 0 ≤ a % 18446744073709551616 := Int.emod_nonneg _ (by decide)
  rw [hn, if_neg (by omega), wrap_u64, Int.tmod_eq_emod_of_nonneg h0]
  have h1 := Int.emod_lt_of_pos (a % 18446744073709551616) (show (0 : Int) < n by omega)
  have h3 := Int.emod_nonneg (a % 18446744073709551616) (show (n : Int) ≠ 0 by omega)
  unfold withinN
  congr 1
  unfold wrap64
  omega
theorem within_small (n : Nat) (m : Nat) (h : m < n) (h2 : n < 9223372036854775808) : withinN (m : Int) n = m := by
  unfold withinN
  rw [Int.emod_eq_of_lt (by omega) (by omega), Int.emod_eq_of_lt (by omega) (by omega)]
  omega
end Go.Proofs.Ytkdncfbbhbmaaaa.K
