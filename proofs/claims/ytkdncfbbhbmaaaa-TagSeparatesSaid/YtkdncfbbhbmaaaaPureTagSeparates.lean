/- TagSeparates: for every valid port and every network, what leaves through the port and arrives at an equal port belongs to the same network, and a frame of a network that the port does not have does not leave: the plain statement. -/
import Derived.Test.YtkdncfbbhbmaaaaQf10
import Derived.Test.YtkdncfbbhbmaaaaPTag
import Derived.Test.YtkdncfbbhbmaaaaKWithin
namespace Go.Proofs.Ytkdncfbbhbmaaaa.Pure
set_option linter.unusedVariables false
open Go.RowKit Go.Proofs.Ytkdncfbbhbmaaaa.Q Go.Proofs.YtkdncfbbhbmaaaaW.PrintWords Go.Proofs.YtkdncfbbhbmaaaaW.PrintLast Go.Proofs.YtkdncfbbhbmaaaaW.PrintMore Go.Proofs.Ytkdncfbbhbmaaaa.Br Go.Proofs.Ytkdncfbbhbmaaaa.K
theorem TagSeparates (a : Int) (l : List Int) (d s t y : Int) (x : ByteArray) (n : Int) (w : (Lit.int .i64 a).wf = true) (hm : l.length ≤ maxLen) (hw : ∀ z ∈ l, (Lit.int .i64 z).wf = true)
    (w0 : (Lit.int .i64 d).wf = true) (w1 : (Lit.int .i64 s).wf = true) (w2 : (Lit.int .i64 t).wf = true) (w3 : (Lit.int .i64 y).wf = true) (w4 : x.size ≤ maxLen) (wn : (Lit.int .i64 n).wf = true) : ∃ k, patchbaykeep1_TagSeparates.f k a l d s t y x n = some true := by
  refine ⟨301, ?_⟩
  unfold patchbaykeep1_TagSeparates.f
  have hw1 : patchbaykeep1_tagWorks.f 301 = some true := patchbaykeep1_tagWorks.mono 300 true tagWorks_true
  obtain ⟨c, hc0, hp⟩ := tcheck_f a l
  have hc : tag_Check.f 301 a l = some c := tag_Check.mono a l 300 c hc0
  rw [hw1, hc]
  simp only [Option.bind_some, if_true, patchbaykeep1_TagSeparates.j0]
  by_cases h : c = 0
  · subst h
    obtain ⟨ha0, ha1, hl⟩ := hp rfl
    have f1 : patchbaykeep1_within.f n 4094 = _ := within_f n 4094 (by decide) (by decide)
    have f2 : patchbaykeep1_within.f t 4095 = _ := within_f t 4095 (by decide) (by decide)
    have q1 := withinN_lt n 4094 (by decide)
    have q2 := withinN_lt t 4095 (by decide)
    rw [f1, f2]
    generalize withinN n 4094 = m at *
    generalize withinN t 4095 = v at *
    have hv : wrap64 (1 + (m : Int)) = (m : Int) + 1 := by unfold wrap64; omega
    have hf : ∀ u : Int, 0 ≤ u → u ≤ 4094 → chk 2 1 u 0 (⟨#[]⟩ : ByteArray).size = 0 := fun u h0 h1 => by
      unfold chk
      rw [if_neg (by omega), if_neg (by omega)]
      rfl
    rw [if_neg (by decide)]
    simp only [Option.bind_some]
    rw [hv, out_ok a l ((m : Int) + 1) 2 1 v 0 _ hc0 hl (by omega) (hf _ (by omega) (by omega))]
    by_cases c1 : (m : Int) + 1 = a
    · rw [if_pos c1]
      simp only [Option.bind_some, if_true]
      rw [in_ok a l 2 1 0 0 _ hc0 hl (hf 0 (by omega) (by omega)), if_pos ⟨rfl, by omega⟩]
      simp [c1]
    · rw [if_neg c1]
      by_cases c2 : (m : Int) + 1 ∈ l
      · rw [if_pos c2]
        simp only [Option.bind_some, if_true]
        rw [in_ok a l 2 1 ((m : Int) + 1) 0 _ hc0 hl (hf _ (by omega) (by omega)), if_neg (by omega), if_pos ⟨by omega, c2⟩]
        simp
      · rw [if_neg c2]
        simp only [Option.bind_some, if_true]
        rw [if_neg (by decide), ByteArray.toList_eq, if_pos (by decide), if_neg c1, contains_f l _ 300 (by omega) (by omega)]
        simp [c2]
  · rw [if_pos (by simpa using h), tagWorks_true]
    rfl
end Go.Proofs.Ytkdncfbbhbmaaaa.Pure
