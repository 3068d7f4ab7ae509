/- TagReturns: for every port and frame, if the frame belongs to a network at the port, it leaves through the port as a frame that belongs to the same network, and nothing but the tag has changed: the plain statement. -/
import Derived.Test.YtkdncfbbhbmaaaaQf9
import Derived.Test.YtkdncfbbhbmaaaaPTag
namespace Go.Proofs.Ytkdncfbbhbmaaaa.Pure
set_option linter.unusedVariables false
open Go.RowKit Go.Proofs.Ytkdncfbbhbmaaaa.Q Go.Proofs.YtkdncfbbhbmaaaaW.PrintWords Go.Proofs.YtkdncfbbhbmaaaaW.PrintLast Go.Proofs.YtkdncfbbhbmaaaaW.PrintMore Go.Proofs.Ytkdncfbbhbmaaaa.Br
theorem TagReturns (a : Int) (l : List Int) (d s t y : Int) (x : ByteArray) (w : (Lit.int .i64 a).wf = true) (hm : l.length ≤ maxLen) (hw : ∀ z ∈ l, (Lit.int .i64 z).wf = true)
    (w0 : (Lit.int .i64 d).wf = true) (w1 : (Lit.int .i64 s).wf = true) (w2 : (Lit.int .i64 t).wf = true) (w3 : (Lit.int .i64 y).wf = true) (w4 : x.size ≤ maxLen) : ∃ k, patchbaykeep1_TagReturns.f k a l d s t y x = some true := by
  refine ⟨300, ?_⟩
  unfold patchbaykeep1_TagReturns.f
  rw [tagWorks_true]
  simp only [Option.bind_some, if_true]
  obtain ⟨c, hc, hp⟩ := tcheck_f a l
  by_cases h : c = 0 ∧ chk d s t y x.size = 0
  · obtain ⟨rfl, hf⟩ := h
    obtain ⟨ha0, ha1, hl⟩ := hp rfl
    have ht := chk_range d s t y _ hf
    rw [in_ok a l d s t y x hc hl hf]
    simp only [Option.bind_some]
    have hz := chk_tag d s t 0 y _ hf (by omega) (by omega)
    by_cases c1 : t = 0 ∧ a > 0
    · rw [if_pos c1]
      obtain ⟨rfl, ha⟩ := c1
      simp only [if_true]
      rw [out_ok a l a d s 0 y x hc hl (by omega) hf, if_pos rfl]
      simp only [Option.bind_some, if_true]
      rw [in_ok a l d s 0 y x hc hl hf, if_pos ⟨rfl, ha⟩]
      simp
    · rw [if_neg c1]
      by_cases c2 : t > 0 ∧ t ∈ l
      · rw [if_pos c2]
        simp only [if_true]
        rw [out_ok a l t d s t y x hc hl (by omega) hf]
        by_cases c3 : t = a
        · rw [if_pos c3]
          simp only [Option.bind_some, if_true]
          rw [in_ok a l d s 0 y x hc hl hz, if_pos ⟨rfl, by omega⟩]
          simp [c3]
        · rw [if_neg c3, if_pos c2.2]
          simp only [Option.bind_some, if_true]
          rw [in_ok a l d s t y x hc hl hf, if_neg c1, if_pos c2]
          simp
      · rw [if_neg c2]
        rfl
  · obtain ⟨e, he, hi⟩ := in_bad a l d s t y x c hc (by
      by_cases z : c = 0
      · exact .inr (fun q => h ⟨z, q⟩)
      · exact .inl z)
    rw [hi]
    simp only [Option.bind_some]
    rw [if_neg he]
    rfl
end Go.Proofs.Ytkdncfbbhbmaaaa.Pure
