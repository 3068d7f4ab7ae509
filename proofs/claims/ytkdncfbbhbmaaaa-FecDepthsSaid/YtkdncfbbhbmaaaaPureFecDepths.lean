/- FecDepths: for every text (cut to 60 bytes) and any two depths, the encodings are equally long and have equally many ones, and Decode tells the text without a correction: the plain statement. -/
import Derived.Test.YtkdncfbbhbmaaaaQf20
import Derived.Test.YtkdncfbbhbmaaaaPFecLaw
namespace Go.Proofs.Ytkdncfbbhbmaaaa.Pure
open Go.RowKit Go.Proofs.Ytkdncfbbhbmaaaa.Q Go.Proofs.YtkdncfbbhbmaaaaW.PrintWords Go.Proofs.YtkdncfbbhbmaaaaW.PrintLast Go.Proofs.YtkdncfbbhbmaaaaW.PrintMore Go.Proofs.Ytkdncfbbhbmaaaa.K Go.Proofs.Ytkdncfbbhbmaaaa.Br
set_option linter.unusedVariables false
set_option linter.unusedSimpArgs false
theorem works_fec : patchbaykeep1_fecWorks.f = some true := by decide +kernel
theorem cut_f (s : ByteArray) (n : Nat) (hn : n ≤ 100000) : ∃ t : ByteArray, patchbaykeep1_cut.f s (n : Int) = some t ∧ t.size = min s.size n := by
  refine ⟨s.extract 0 (mn (s.size : Int) (n : Int)).toNat, ?_, ?_⟩
  · unfold patchbaykeep1_cut.f
    have h : mn (s.size : Int) (n : Int) = ((min s.size n : Nat) : Int) := by unfold mn; split <;> omega
    rw [h, if_pos (by omega), if_pos (by omega)]
  · have h : mn (s.size : Int) (n : Int) = ((min s.size n : Nat) : Int) := by unfold mn; split <;> omega
    rw [h, ByteArray.size_extract]
    omega
theorem FecDepths : patchbaykeep1_FecDepths.Pure := by
  intro a0 a1 a2 h0 h1 h2
  obtain ⟨s, hcut, hsz⟩ := cut_f a0 60 (by decide)
  have hs : s.size ≤ 60 := by omega
  have f1 : patchbaykeep1_within.f a1 64 = _ := within_f a1 64 (by decide) (by decide)
  have g1 := withinN_lt a1 64 (by decide)
  generalize withinN a1 64 = d at f1 g1
  have f2 : patchbaykeep1_within.f a2 64 = _ := within_f a2 64 (by decide) (by decide)
  have g2 := withinN_lt a2 64 (by decide)
  generalize withinN a2 64 = e at f2 g2
  have w1 : wrap64 (1 + (d : Int)) = ((d + 1 : Nat) : Int) := by unfold wrap64; omega
  have w2 : wrap64 (1 + (e : Int)) = ((e + 1 : Nat) : Int) := by unfold wrap64; omega
  have w3 : wrap64 (14 * (s.size : Int)) = ((14 * s.size : Nat) : Int) := by unfold wrap64; omega
  have l1 := encB_length (d + 1) (by omega) s
  have l2 := encB_length (e + 1) (by omega) s
  have hwt1 : Ev (fun k => bits_Weight.f k (strOfNums (encB (d + 1) s))) ((wt (encB (d + 1) s) : Nat) : Int) := Ev.of (fun k => bits_Weight.mono _ k) (weight_eq _ (encB_bin _ s) (by omega) (14 * s.size + 1) (by omega))
  have hwt2 : Ev (fun k => bits_Weight.f k (strOfNums (encB (e + 1) s))) ((wt (encB (e + 1) s) : Nat) : Int) := Ev.of (fun k => bits_Weight.mono _ k) (weight_eq _ (encB_bin _ s) (by omega) (14 * s.size + 1) (by omega))
  have hww : wt (encB (d + 1) s) = wt (encB (e + 1) s) := by rw [wt_ones, wt_ones, encB_ones _ (by omega), encB_ones _ (by omega)]
  have hdec := decode_fl s (by omega) (d + 1) (by omega) (by omega) (fun _ => false) (by
    have : ∀ f o m, Once (fun _ => false) (d + 1) f o m := by
      intro f
      induction f with
      | zero => intro o m; trivial
      | succ f ih => intro o m; exact ⟨fun i k k2 _ _ _ h => (by cases h), ih _ _⟩
    exact this _ _ _)
  have hz : sumN (fun j => on (fun _ => false) j) (14 * s.size) = 0 := sumN_zero _
  rw [fl_none, hz] at hdec
  have e1 := encode_eq s (by omega) (d + 1) (by omega) (by omega)
  have e2 := encode_eq s (by omega) (e + 1) (by omega) (by omega)
  have c1 : ((strOfNums (encB (d + 1) s)).size : Int) = ((14 * s.size : Nat) : Int) := by rw [size_str, l1]
  have c2 : ((strOfNums (encB (e + 1) s)).size : Int) = ((14 * s.size : Nat) : Int) := by rw [size_str, l2]
  refine Ev.rounds (g := fun k => patchbaykeep1_FecDepths.f k a0 a1 a2) ?_
  have hcut2 : patchbaykeep1_cut.f a0 60 = some s := hcut
  simp only [patchbaykeep1_FecDepths.f, hcut2, f1, f2, works_fec, Option.bind_some, if_true, w1, w2, w3, e1, e2, c1, c2]
  rw [hww] at hwt1
  refine Ev.bind hwt1 (Ev.bind hwt2 ?_)
  simp only [if_true]
  refine Ev.bind hdec ?_
  simp only [Int.natCast_zero, if_true, beq_self_eq_true]
  exact Ev.now _
end Go.Proofs.Ytkdncfbbhbmaaaa.Pure
