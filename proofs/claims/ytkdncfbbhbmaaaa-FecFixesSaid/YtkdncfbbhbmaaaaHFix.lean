/- The call fec.Fix: a word of seven characters 0 or 1 is corrected as fec.fix says; anything else is refused. -/
import Derived.Test.YtkdncfbbhbmaaaaQf62
import Derived.Test.YtkdncfbbhbmaaaaQf61
import Derived.Test.YtkdncfbbhbmaaaaHBytes
import Derived.Lib.Hide
namespace Go.Proofs.Ytkdncfbbhbmaaaa.Ext
open Go.RowKit Go.Proofs.YtkdncfbbhbmaaaaW.PrintWords Go.Proofs.YtkdncfbbhbmaaaaW.PrintLast Go.Proofs.YtkdncfbbhbmaaaaW.PrintMore
/-- What fec.Fix tells of a string. -/
def fec_Fix.f (a0 : ByteArray) : Option (Int × Int × Int) := if a0.size = 7 then (Q.fec_good.f 20 a0).bind fun g => if g = true then (Q.fec_fix.f 20 (bytesInts a0)).bind fun r => some (r.1, r.2, 0) else some (0, 0, 3) else some (0, 0, 3)
set_option maxHeartbeats 1000000 in
set_option maxRecDepth 100000 in
theorem fec_Fix.calls (a0 : ByteArray) (r1 r2 r3 : Int) (w : World) (h : fec_Fix.f a0 = some (r1, r2, r3)) :
    Calls Try.prog 28 #[.string a0] w fun e w' => e = .returned (.tuple #[.int .i64 r1, .int .i64 r2, .int .i64 r3]) ∧ Below w.heap.size w w' := by
  unfold fec_Fix.f at h
  by_cases h7 : a0.size = 7
  · rw [if_pos h7] at h
    have b0 : ((a0.size : Int) != 7) = false := by simp; omega
    have b1 : (a0.size == 7) = true := by simp [h7]
    obtain ⟨g, hg, h⟩ := Option.bind_eq_some_iff.mp h
    have HG := Aside0.mk hg
    have H7 := Aside0.mk h7
    clear h7 hg
    cases g with
    | false =>
      simp at h
      obtain ⟨rfl, rfl, rfl⟩ := h
      go_enter Try.func28, Try.ntmps28
      go_wp2_with (go_at_call 61; (with_reducible refine (Q.fec_good.calls 20 a0 false _ HG.out).mono ?_); rintro e w' ⟨rfl, ⟨nd, rfl⟩⟩)
      go_ret3
      exact ⟨rfl, pw_below_drewN (Below.refl _ _) _⟩
    | true =>
      rw [if_pos rfl] at h
      obtain ⟨⟨v, at_⟩, hf, h⟩ := Option.bind_eq_some_iff.mp h
      simp at h
      obtain ⟨rfl, rfl, rfl⟩ := h
      have HF := Aside0.mk hf
      clear hf
      have kb := fun (w : World) => run_bytes w a0
      go_enter Try.func28, Try.ntmps28
      go_wp2_with (go_at_call 61; (with_reducible refine (Q.fec_good.calls 20 a0 true _ HG.out).mono ?_); rintro e w' ⟨rfl, ⟨nd, rfl⟩⟩)
      refine (Q.fec_fix.calls 20 _ _ (bytesInts a0) v at_ _ (bytes_C (w.drewN nd) a0 _ _ _ (by have := H7.out; omega)) (bytes_cap (w.drewN nd) _ _) HF.out).mono ?_
      rintro e w1 ⟨rfl, hb⟩
      have HB := Aside0.mk (below_step (below_drew_alloc (pw_below_drewN (Below.refl w.heap.size w) nd) _) hb)
      clear hb
      go_wp2
      go_ret3
      exact ⟨rfl, HB.out⟩
  · rw [if_neg h7] at h
    simp only [Option.some.injEq, Prod.mk.injEq] at h
    obtain ⟨rfl, rfl, rfl⟩ := h
    have b0 : ((a0.size : Int) != 7) = true := by simp; omega
    have b1 : (a0.size == 7) = false := by simp [h7]
    clear h7
    go_enter Try.func28, Try.ntmps28
    go_wp2_with fail
    go_ret3
    exact ⟨rfl, Below.refl _ _⟩
end Go.Proofs.Ytkdncfbbhbmaaaa.Ext
