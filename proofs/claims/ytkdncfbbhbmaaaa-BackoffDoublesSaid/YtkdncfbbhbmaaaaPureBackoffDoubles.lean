/- BackoffDoubles: for every number of collisions and every draw the wait lies in a range that doubles, and every element of it is chosen: the plain statement. -/
import Derived.Test.YtkdncfbbhbmaaaaQf8
import Derived.Test.YtkdncfbbhbmaaaaPWait
namespace Go.Proofs.Ytkdncfbbhbmaaaa.Pure
open Go.RowKit Go.Proofs.Ytkdncfbbhbmaaaa.Q Go.Proofs.YtkdncfbbhbmaaaaW.PrintWords Go.Proofs.YtkdncfbbhbmaaaaW.PrintLast Go.Proofs.YtkdncfbbhbmaaaaW.PrintMore Go.Proofs.Ytkdncfbbhbmaaaa.K Go.Proofs.Ytkdncfbbhbmaaaa.Br
set_option linter.unusedVariables false
set_option linter.unusedSimpArgs false
theorem works_backoff : patchbaykeep1_backoffWorks.f 40 = some true := by decide +kernel
theorem BackoffDoubles : patchbaykeep1_BackoffDoubles.Pure := by
  intro a0 a1 ha0 ha1
  refine ⟨40, ?_⟩
  have f0 : patchbaykeep1_within.f a0 16 = _ := within_f a0 16 (by decide) (by decide)
  have h0 := withinN_lt a0 16 (by decide)
  generalize withinN a0 16 = t0 at f0 h0
  have ht : wrap64 (1 + ((t0 : Nat) : Int)) = ((t0 + 1 : Nat) : Int) := by unfold wrap64; omega
  have hr := range_le (t0 + 1)
  have hw := range_wrap (t0 + 1)
  have f1 := within_f a1 (rangeOf (t0 + 1)) (by omega) (by omega)
  have h1 := withinN_lt a1 (rangeOf (t0 + 1)) (by omega)
  have g0 := wait_eq (t0 + 1) (by omega) (by omega) a1
  have hm : Go.bits .and .i64 a1 1099511627775 = a1 % 1099511627776 := and_mask a1 40 (by decide)
  have hdv : ((rangeOf (t0 + 1) : Nat) : Int) ∣ 1099511627776 := by
    have h2 : 2 ^ (min (t0 + 1) 10) ∣ 2 ^ 40 := Nat.pow_dvd_pow 2 (by omega)
    exact Int.natCast_dvd_natCast.2 h2
  have g1 : backoff_Wait.f ((t0 + 1 : Nat) : Int) (wrap64 (a1 % 1099511627776 + ((rangeOf (t0 + 1) : Nat) : Int))) = some (a1 % ((rangeOf (t0 + 1) : Nat) : Int), 0) := by
    have h3 : wrap64 (a1 % 1099511627776 + ((rangeOf (t0 + 1) : Nat) : Int)) = a1 % 1099511627776 + ((rangeOf (t0 + 1) : Nat) : Int) := by unfold wrap64; omega
    rw [h3, wait_eq (t0 + 1) (by omega) (by omega), Int.add_emod_right, Int.emod_emod_of_dvd _ hdv]
  have g2 : backoff_Wait.f ((t0 + 1 : Nat) : Int) ((withinN a1 (rangeOf (t0 + 1)) : Nat) : Int) = some (((withinN a1 (rangeOf (t0 + 1)) : Nat) : Int), 0) := by
    rw [wait_eq (t0 + 1) (by omega) (by omega), Int.emod_eq_of_lt (by omega) (by omega)]
  have p1 := Int.emod_nonneg a1 (show ((rangeOf (t0 + 1) : Nat) : Int) ≠ 0 by omega)
  have p2 := Int.emod_lt_of_pos a1 (show (0 : Int) < ((rangeOf (t0 + 1) : Nat) : Int) by omega)
  have hmn : (0 : Int) ≤ mn ((t0 + 1 : Nat) : Int) 10 := by rw [mn_try]; omega
  unfold patchbaykeep1_BackoffDoubles.f
  rw [f0, Option.bind_some, ht, g0, Option.bind_some, if_pos hmn, hm, hw, g1, Option.bind_some, f1, Option.bind_some, g2, Option.bind_some, works_backoff, Option.bind_some]
  simp only [if_true, Option.bind_some]
  rw [if_pos p1, if_pos p2]
  simp
end Go.Proofs.Ytkdncfbbhbmaaaa.Pure
