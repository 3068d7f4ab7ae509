/- TagStrips: for every port, network and frame, what leaves the port has the tag 0 if the network is the access network and otherwise the tag of its network, nothing else has changed, and otherwise the zero frame and false are given: the plain statement. -/
import Derived.Test.YtkdncfbbhbmaaaaQf11
import Derived.Test.YtkdncfbbhbmaaaaPTag
namespace Go.Proofs.Ytkdncfbbhbmaaaa.Pure
set_option linter.unusedVariables false
open Go.RowKit Go.Proofs.Ytkdncfbbhbmaaaa.Q Go.Proofs.YtkdncfbbhbmaaaaW.PrintWords Go.Proofs.YtkdncfbbhbmaaaaW.PrintLast Go.Proofs.YtkdncfbbhbmaaaaW.PrintMore Go.Proofs.Ytkdncfbbhbmaaaa.Br
theorem TagStrips (a : Int) (l : List Int) (n : Int) (d s t y : Int) (x : ByteArray) (w : (Lit.int .i64 a).wf = true) (hm : l.length ≤ maxLen) (hw : ∀ z ∈ l, (Lit.int .i64 z).wf = true) (wn : (Lit.int .i64 n).wf = true)
    (w0 : (Lit.int .i64 d).wf = true) (w1 : (Lit.int .i64 s).wf = true) (w2 : (Lit.int .i64 t).wf = true) (w3 : (Lit.int .i64 y).wf = true) (w4 : x.size ≤ maxLen) : ∃ k, patchbaykeep1_TagStrips.f k a l n d s t y x = some true := by
  refine ⟨300, ?_⟩
  unfold patchbaykeep1_TagStrips.f
  rw [tagWorks_true]
  simp only [Option.bind_some, if_true]
  obtain ⟨c, hc, hp⟩ := tcheck_f a l
  by_cases h : c = 0 ∧ (1 ≤ n ∧ n ≤ 4094) ∧ chk d s t y x.size = 0
  · obtain ⟨rfl, hn, hf⟩ := h
    obtain ⟨ha0, ha1, hl⟩ := hp rfl
    rw [out_ok a l n d s t y x hc hl hn hf]
    simp only [Option.bind_some, patchbaykeep1_TagStrips.j0]
    by_cases c1 : n = a
    · simp [c1]
    · by_cases c2 : n ∈ l
      · simp [c1, c2]
      · simp [c1, c2]
  · obtain ⟨e, he, hi⟩ := out_bad a l n d s t y x c hc (by
      by_cases z : c = 0
      · by_cases z2 : 1 ≤ n ∧ n ≤ 4094
        · exact .inr (.inr (fun q => h ⟨z, z2, q⟩))
        · exact .inr (.inl z2)
      · exact .inl z)
    rw [hi]
    simp only [Option.bind_some, patchbaykeep1_TagStrips.j0]
    rw [if_neg he]
    simp
end Go.Proofs.Ytkdncfbbhbmaaaa.Pure
