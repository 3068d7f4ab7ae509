/- FrameUnlike: for all frames f, g, if both are encoded without an error, the encodings are equal exactly if the frames are: the plain statement. -/
import Derived.Test.YtkdncfbbhbmaaaaQf6
import Derived.Test.YtkdncfbbhbmaaaaPWorks
namespace Go.Proofs.Ytkdncfbbhbmaaaa.Pure
open Go.RowKit Go.Proofs.Ytkdncfbbhbmaaaa.Q Go.Proofs.YtkdncfbbhbmaaaaW.PrintWords Go.Proofs.YtkdncfbbhbmaaaaW.PrintLast Go.Proofs.YtkdncfbbhbmaaaaW.PrintMore Go.Proofs.Ytkdncfbbhbmaaaa.K Go.Proofs.Ytkdncfbbhbmaaaa.Br
theorem FrameUnlike (d s t y : Int) (x : ByteArray) (d' s' t' y' : Int) (x' : ByteArray) (w0 : (Lit.int .i64 d).wf = true) (w1 : (Lit.int .i64 s).wf = true) (w2 : (Lit.int .i64 t).wf = true) (w3 : (Lit.int .i64 y).wf = true) (w4 : x.size ≤ maxLen)
    (v0 : (Lit.int .i64 d').wf = true) (v1 : (Lit.int .i64 s').wf = true) (v2 : (Lit.int .i64 t').wf = true) (v3 : (Lit.int .i64 y').wf = true) (v4 : x'.size ≤ maxLen) : ∃ k, patchbaykeep1_FrameUnlike.f k d s t y x d' s' t' y' x' = some true := by
  refine ⟨10, ?_⟩
  unfold patchbaykeep1_FrameUnlike.f
  rw [frameWorks_true 0]
  simp only [Option.bind_some, if_true]
  by_cases h : chk d s t y x.size = 0
  · obtain ⟨f, hf, rfl, rfl, rfl, rfl, rfl⟩ := good_chk d s t y x h
    rw [encode_ok 0 f hf]
    simp only [Option.bind_some, if_true]
    by_cases h' : chk d' s' t' y' x'.size = 0
    · obtain ⟨g, hg, rfl, rfl, rfl, rfl, rfl⟩ := good_chk d' s' t' y' x' h'
      rw [encode_ok 0 g hg]
      simp only [Option.bind_some, if_true, beq_toList]
      by_cases e : f = g
      · subst e
        simp
      · have e2 : mkB (encL f) ≠ mkB (encL g) := fun z => e (encL_inj f g hf.1 hg.1 (by rw [← lst_mk (encL f), z, lst_mk]))
        rw [decide_eq_false e2]
        congr 1
        rw [beq_iff_eq]
        symm
        rw [Bool.eq_false_iff]
        intro z
        simp only [Bool.and_eq_true, beq_iff_eq, decide_eq_true_iff] at z
        obtain ⟨z1, z2, z3, z4, z5⟩ := z
        refine e ?_
        obtain ⟨d, s, t, y, b⟩ := f
        obtain ⟨d', s', t', y', b'⟩ := g
        have z6 : b = b' := by rw [← lst_mk b, z5, lst_mk]
        simp only [Int.natCast_inj] at z1 z2 z3 z4
        subst z1 z2 z3 z4 z6
        rfl
    · rw [encode_bad 0 _ _ _ _ _ h']
      simp only [Option.bind_some]
      rw [if_neg h']
  · rw [encode_bad 0 _ _ _ _ _ h]
    simp only [Option.bind_some, if_neg h]
    by_cases h' : chk d' s' t' y' x'.size = 0
    · obtain ⟨g, hg, rfl, rfl, rfl, rfl, rfl⟩ := good_chk d' s' t' y' x' h'
      rw [encode_ok 0 g hg]
      rfl
    · rw [encode_bad 0 _ _ _ _ _ h']
      rfl
end Go.Proofs.Ytkdncfbbhbmaaaa.Pure
