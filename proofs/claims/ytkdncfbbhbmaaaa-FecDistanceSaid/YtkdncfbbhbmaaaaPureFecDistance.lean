/- FecDistance: for all numbers m, n, the code words of m and n (each taken below 16) differ nowhere if they are equal and in at least three positions otherwise: the plain statement. -/
import Derived.Test.YtkdncfbbhbmaaaaQf4
import Derived.Test.YtkdncfbbhbmaaaaKWithin
namespace Go.Proofs.Ytkdncfbbhbmaaaa.Pure
open Go.RowKit Go.Proofs.Ytkdncfbbhbmaaaa.Q Go.Proofs.YtkdncfbbhbmaaaaW.PrintWords Go.Proofs.YtkdncfbbhbmaaaaW.PrintLast Go.Proofs.YtkdncfbbhbmaaaaW.PrintMore Go.Proofs.Ytkdncfbbhbmaaaa.K
def distRest (t123 t124 : Int) : Option Bool := (patchbaykeep1_fecWorks.f).bind fun t125 => (if t125 = true then ((Ext.fec_Word.f t123).bind fun bt126 => ((Ext.fec_Word.f t124).bind fun bt128 => ((bits_Xor.f 12 bt126.1 bt128.1).bind fun bt130 => (if bt130.2 = 0 then (if (bt130.1.size : Int) = 7 then (if t123 = t124 then ((bits_Weight.f 12 bt130.1).bind fun t132 => (if t132 = 0 then (some true) else (some false))) else ((bits_Weight.f 12 bt130.1).bind fun t133 => (some (decide (t133 ≥ 3))))) else (some false)) else (some false))))) else (some false))
theorem distRest_all : ∀ m : Fin 16, ∀ n : Fin 16, distRest (m.val : Int) (n.val : Int) = some true := by decide +kernel
theorem FecDistance : patchbaykeep1_FecDistance.Pure := by
  intro a0 a1 _ _
  have f0 : patchbaykeep1_within.f a0 16 = _ := within_f a0 16 (by decide) (by decide)
  have f1 : patchbaykeep1_within.f a1 16 = _ := within_f a1 16 (by decide) (by decide)
  have h0 := withinN_lt a0 16 (by decide)
  have h1 := withinN_lt a1 16 (by decide)
  refine ⟨12, ?_⟩
  unfold patchbaykeep1_FecDistance.f
  rw [f0, f1]
  exact distRest_all ⟨_, h0⟩ ⟨_, h1⟩
end Go.Proofs.Ytkdncfbbhbmaaaa.Pure
