/- FrameUnique: every string that Decode takes is the encoding of the frame that it gives, and an error gives the zero frame: the plain statement. -/
import Derived.Test.YtkdncfbbhbmaaaaQf17
import Derived.Test.YtkdncfbbhbmaaaaPWorks
import Derived.Test.YtkdncfbbhbmaaaaPDecode
namespace Go.Proofs.Ytkdncfbbhbmaaaa.Pure
open Go.RowKit Go.Proofs.Ytkdncfbbhbmaaaa.Q Go.Proofs.YtkdncfbbhbmaaaaW.PrintWords Go.Proofs.YtkdncfbbhbmaaaaW.PrintLast Go.Proofs.YtkdncfbbhbmaaaaW.PrintMore Go.Proofs.Ytkdncfbbhbmaaaa.K Go.Proofs.Ytkdncfbbhbmaaaa.Br
theorem FrameUnique : patchbaykeep1_FrameUnique.Pure := by
  intro a _
  refine ⟨11, ?_⟩
  unfold patchbaykeep1_FrameUnique.f
  rw [frameWorks_true 1]
  simp only [Option.bind_some, if_true]
  rcases decode_any 0 a with ⟨e, he, h⟩ | ⟨f, hf, ha, h⟩
  · rw [show (11 : Nat) = 0 + 11 from rfl, h]
    unfold no
    simp only [Option.bind_some]
    rw [if_neg he, toList_lst]
    rfl
  · rw [show (11 : Nat) = 0 + 11 from rfl, h]
    simp only [Option.bind_some, if_true]
    rw [show 0 + 11 = 1 + 10 from rfl, encode_ok 1 f hf]
    simp only [Option.bind_some, if_true, beq_toList, ha]
    rfl
end Go.Proofs.Ytkdncfbbhbmaaaa.Pure
