/- FrameRoundTrip: for every frame, Encode either gives the error of Check and no bytes, or bytes of which Decode gives the frame back, and their number lies within the bounds: the plain statement. -/
import Derived.Test.YtkdncfbbhbmaaaaQf16
import Derived.Test.YtkdncfbbhbmaaaaPWorks
import Derived.Test.YtkdncfbbhbmaaaaPDecode
namespace Go.Proofs.Ytkdncfbbhbmaaaa.Pure
open Go.RowKit Go.Proofs.Ytkdncfbbhbmaaaa.Q Go.Proofs.YtkdncfbbhbmaaaaW.PrintWords Go.Proofs.YtkdncfbbhbmaaaaW.PrintLast Go.Proofs.YtkdncfbbhbmaaaaW.PrintMore Go.Proofs.Ytkdncfbbhbmaaaa.K Go.Proofs.Ytkdncfbbhbmaaaa.Br
theorem FrameRoundTrip (d s t y : Int) (x : ByteArray) (w0 : (Lit.int .i64 d).wf = true) (w1 : (Lit.int .i64 s).wf = true) (w2 : (Lit.int .i64 t).wf = true) (w3 : (Lit.int .i64 y).wf = true) (w4 : x.size ≤ maxLen) : ∃ k, patchbaykeep1_FrameRoundTrip.f k d s t y x = some true := by
  refine ⟨11, ?_⟩
  unfold patchbaykeep1_FrameRoundTrip.f
  rw [frameWorks_true 1]
  simp only [Option.bind_some, if_true]
  by_cases h : chk d s t y x.size = 0
  · obtain ⟨f, hf, rfl, rfl, rfl, rfl, rfl⟩ := good_chk d s t y x h
    rw [encode_ok 1 f hf]
    simp only [Option.bind_some, if_true]
    rw [decode_enc 0 f hf]
    simp only [Option.bind_some, if_true, beq_self_eq_true, Bool.and_self, mk_size]
    have hl := encL_length f
    have hb := hf.1.2.2.2.2.2
    have h1 : 64 ≤ (encL f).length := by rw [hl]; omega
    have h2 : (encL f).length ≤ 1524 := by rw [hl]; split <;> omega
    have q1 : ((encL f).length : Int) ≥ 64 := by omega
    have q2 : ((encL f).length : Int) ≤ 1524 := by omega
    rw [if_pos q1, decide_eq_true q2]
  · rw [encode_bad 1 _ _ _ _ _ h, show (11 : Nat) = 9 + 2 from rfl, check_f]
    simp only [Option.bind_some, if_neg h, if_true]
    rw [toList_lst]
    rfl
end Go.Proofs.Ytkdncfbbhbmaaaa.Pure
