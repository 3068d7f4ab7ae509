/- The fixed example frameWorks holds. -/
import Derived.Test.YtkdncfbbhbmaaaaQf30
import Derived.Test.YtkdncfbbhbmaaaaPFrame
namespace Go.Proofs.Ytkdncfbbhbmaaaa.Br
open Go.RowKit Go.Proofs.Ytkdncfbbhbmaaaa.Q Go.Proofs.YtkdncfbbhbmaaaaW.PrintWords Go.Proofs.YtkdncfbbhbmaaaaW.PrintLast Go.Proofs.YtkdncfbbhbmaaaaW.PrintMore Go.Proofs.Ytkdncfbbhbmaaaa.K
theorem frameWorks_true (K : Nat) : patchbaykeep1_frameWorks.f (K + 10) = some true := by
  unfold patchbaykeep1_frameWorks.f
  have hz : Fr.good ⟨0, 0, 0, 0, []⟩ := ⟨⟨by decide, by decide, by decide, by decide, by decide, by decide⟩, by decide⟩
  have e : frame_Encode.f (K + 10) 0 0 0 0 (⟨#[]⟩ : ByteArray) = some (mkB (encL ⟨0, 0, 0, 0, []⟩), 0) := encode_ok K ⟨0, 0, 0, 0, []⟩ hz
  rw [e]
  simp only [Option.bind_some, if_true, mk_size, encL_length]
  rw [if_pos (by decide), group_f _ (by decide) (by decide)]
  rfl
end Go.Proofs.Ytkdncfbbhbmaaaa.Br
