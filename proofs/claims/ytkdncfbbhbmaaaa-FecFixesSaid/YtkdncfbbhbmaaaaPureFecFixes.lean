/- FecFixes: for all numbers n and positions, one inverted bit of the code word of n (taken below 16) is corrected, and its position is returned: the plain statement. -/
import Derived.Test.YtkdncfbbhbmaaaaQf5
import Derived.Test.YtkdncfbbhbmaaaaKWithin
namespace Go.Proofs.Ytkdncfbbhbmaaaa.Pure
open Go.RowKit Go.Proofs.Ytkdncfbbhbmaaaa.Q Go.Proofs.YtkdncfbbhbmaaaaW.PrintWords Go.Proofs.YtkdncfbbhbmaaaaW.PrintLast Go.Proofs.YtkdncfbbhbmaaaaW.PrintMore Go.Proofs.Ytkdncfbbhbmaaaa.K
def fixesRest (t146 t147 : Int) : Option Bool := (patchbaykeep1_fecWorks.f).bind fun t148 => (if t148 = true then ((Ext.fec_Word.f t146).bind fun bt149 => ((bits_Flip.f bt149.1 (wrap64 (t147 - 1))).bind fun t151 => ((Ext.fec_Fix.f t151).bind fun bt152 => (if bt152.2.2 = 0 then (if bt152.1 = t146 then (some (bt152.2.1 == t147)) else (some false)) else (some false))))) else (some false))
theorem fixesRest_all : ∀ m : Fin 16, ∀ n : Fin 8, fixesRest (m.val : Int) (n.val : Int) = some true := by decide +kernel
theorem FecFixes : patchbaykeep1_FecFixes.Pure := by
  intro a0 a1 _ _
  have f0 : patchbaykeep1_within.f a0 16 = _ := within_f a0 16 (by decide) (by decide)
  have f1 : patchbaykeep1_within.f a1 8 = _ := within_f a1 8 (by decide) (by decide)
  have h0 := withinN_lt a0 16 (by decide)
  have h1 := withinN_lt a1 8 (by decide)
  unfold patchbaykeep1_FecFixes.f
  rw [f0, f1]
  exact fixesRest_all ⟨_, h0⟩ ⟨_, h1⟩
end Go.Proofs.Ytkdncfbbhbmaaaa.Pure
