/- FecBurst: for every text (cut to 60 bytes), depth, block and every change of consecutive bits of a block, at most as many as the block has words, Decode tells the text and the number of changed bits: the plain statement. -/
import Derived.Test.YtkdncfbbhbmaaaaQf19
import Derived.Test.YtkdncfbbhbmaaaaPFecLaw
namespace Go.Proofs.Ytkdncfbbhbmaaaa.Pure
open Go.RowKit Go.Proofs.Ytkdncfbbhbmaaaa.Q Go.Proofs.YtkdncfbbhbmaaaaW.PrintWords Go.Proofs.YtkdncfbbhbmaaaaW.PrintLast Go.Proofs.YtkdncfbbhbmaaaaW.PrintMore Go.Proofs.Ytkdncfbbhbmaaaa.K Go.Proofs.Ytkdncfbbhbmaaaa.Br
set_option linter.unusedVariables false
set_option linter.unusedSimpArgs false
theorem works_fec : patchbaykeep1_fecWorks.f = some true := by decide +kernel
theorem cut_f (s : ByteArray) (n : Nat) (hn : n ≤ 100000) : ∃ t : ByteArray, patchbaykeep1_cut.f s (n : Int) = some t ∧ t.size = min s.size n := by
  refine ⟨s.extract 0 (mn (s.size : Int) (n : Int)).toNat, ?_, ?_⟩
  · unfold patchbaykeep1_cut.f
    have h : mn (s.size : Int) (n : Int) = ((min s.size n : Nat) : Int) := by unfold mn; split <;> omega
    rw [h, if_pos (by omega), if_pos (by omega)]
  · have h : mn (s.size : Int) (n : Int) = ((min s.size n : Nat) : Int) := by unfold mn; split <;> omega
    rw [h, ByteArray.size_extract]
    omega
theorem mn_burst (first t fm sz : Nat) (h2 : t ≤ 64) (h3 : fm ≤ 120) (h4 : sz ≤ 64) (hh : first ≤ 7 * (fm + sz)) : mn (wrap64 ((first : Int) + (t : Int))) (wrap64 (7 * (wrap64 ((fm : Int) + (sz : Int))))) = ((min (first + t) (7 * (fm + sz)) : Nat) : Int) := by
  have a1 : wrap64 ((first : Int) + (t : Int)) = ((first + t : Nat) : Int) := by unfold wrap64; omega
  have a2 : wrap64 ((fm : Int) + (sz : Int)) = ((fm + sz : Nat) : Int) := by unfold wrap64; omega
  have a3 : wrap64 (7 * ((fm + sz : Nat) : Int)) = ((7 * (fm + sz) : Nat) : Int) := by unfold wrap64; omega
  rw [a1, a2, a3]
  unfold mn
  split <;> omega
theorem wrap_small (n : Int) (h0 : 0 ≤ n) (h1 : n ≤ 1000000) : wrap64 n = n := by unfold wrap64; omega
theorem burst_l0 (s ch : ByteArray) (hs : s.size ≤ 60) (d : Nat) (hd1 : 1 ≤ d) (hd2 : d ≤ 64) (B : Nat) (hB : B * d < 2 * s.size) (x4 : Int) (t : Nat) (ht : t ≤ min d (2 * s.size - B * d)) (first : Nat) (hfirst : 7 * (B * d) ≤ first)
    (hx4 : patchbaykeep1_within.f x4 ((min d (2 * s.size - B * d) + 1 : Nat) : Int) = some (t : Int)) (m : Nat) :
    ∀ i, first ≤ i → i + m = min (first + t) (7 * (B * d + min d (2 * s.size - B * d))) →
    Ev (fun k => patchbaykeep1_FecBurst.l0 k s (d : Int) x4 ch ((B * d : Nat) : Int) ((min d (2 * s.size - B * d) : Nat) : Int) (first : Int) (strOfNums (fl (PB ch first i) 0 (encB d s))) ((sumN (fun j => on (PB ch first i) j) (14 * s.size) : Nat) : Int) (i : Int)) true := by
  have hll := encB_length d hd1 s
  have hbinE := encB_bin d s
  have hdecE := fun P ho => decode_fl s (by omega) d hd1 hd2 P ho
  generalize encB d s = L at *
  generalize hsz : min d (2 * s.size - B * d) = sz at *
  generalize hfm : B * d = fm at *
  have w1 : wrap64 ((sz : Int) + 1) = ((sz + 1 : Nat) : Int) := wrap_small _ (by omega) (by omega)
  have hmn : first ≤ 7 * (fm + sz) → mn (wrap64 ((first : Int) + (t : Int))) (wrap64 (7 * (wrap64 ((fm : Int) + (sz : Int))))) = ((min (first + t) (7 * (fm + sz)) : Nat) : Int) := mn_burst first t fm sz (by omega) (by omega) (by omega)
  have hle : ∀ (P : Nat → Bool) N, sumN (fun j => on P j) N ≤ N := fun P N => by
    induction N with
    | zero => exact Nat.le_refl _
    | succ N ih =>
      have : on P N ≤ 1 := by unfold on; split <;> omega
      simp only [sumN]
      omega
  have hsz2 : fm + sz ≤ 2 * s.size := by omega
  have hfm7 : 7 * (fm + sz) ≤ 14 * s.size := by omega
  have hw4 : ∀ c : Nat, c ≤ 14 * s.size → wrap64 ((c : Int) + 1) = ((c + 1 : Nat) : Int) := fun c hc => wrap_small _ (by omega) (by omega)
  induction m with
  | zero =>
    intro i hi1 hi2
    have ho : Once (PB ch first i) d (2 * s.size) 0 (2 * s.size) := by
      have h := Once_window (PB ch first i) d B (2 * s.size) first t hd1 (by rw [hfm, hsz]; exact ht) (fun j hj => by
        have := PB_in hj
        rw [hfm, hsz]
        omega) (2 * s.size) 0
      rw [Nat.zero_mul, Nat.mul_zero, Nat.sub_zero] at h
      exact h
    have hdec := hdecE (PB ch first i) ho
    refine Ev.step (f := fun k => (fec_Decode.f k (strOfNums (fl (PB ch first i) 0 (L))) (d : Int)).bind fun bt608 => (if bt608.2.2 = 0 then (if bt608.1.toList = s.toList then (some (bt608.2.1 == ((sumN (fun j => on (PB ch first i) j) (14 * s.size) : Nat) : Int))) else (some false)) else (some false))) (fun k => ?_) (Ev.bind hdec ?_)
    · rw [patchbaykeep1_FecBurst.l0, w1, hx4, Option.bind_some, hmn (by omega), if_neg (by omega)]
    · simp only [if_true, beq_self_eq_true]
      exact Ev.now _
  | succ m ih =>
    intro i hi1 hi2
    have hnext := ih (i + 1) (Nat.le_succ_of_le hi1) (by rw [← hi2]; omega)
    clear ih
    have hie : i + (m + 1) ≤ 7 * (fm + sz) := by rw [hi2]; exact Nat.min_le_right _ _
    have hi14 : i < 14 * s.size := Nat.lt_of_lt_of_le (by omega) (Nat.le_trans hie hfm7)
    have hlt : (i : Int) < ((min (first + t) (7 * (fm + sz)) : Nat) : Int) := by rw [← hi2]; omega
    have hmn2 := hmn (by clear hsz hB hfm7 hsz2 hll hlt; omega)
    clear hi2 hie hsz hB hsz2 hmn hfm7 hfm hfirst ht
    have hil : i < L.length := hll ▸ hi14
    have hLl : L.length ≤ 100000 := by omega
    have w2 : wrap64 ((i : Int) - (first : Int)) = ((i - first : Nat) : Int) := (wrap_small _ (by omega) (by omega)).trans (by omega)
    have w3 : wrap64 ((i : Int) + 1) = ((i + 1 : Nat) : Int) := wrap_small _ (by omega) (by omega)
    have hbin := fl_bin (PB ch first i) _ 0 hbinE
    by_cases c1 : i - first < ch.size
    · by_cases c2 : Go.bits .and .u8 (bt ch ((i - first : Nat) : Int)) 1 = 1
      · rw [PB_yes ch first i hi1 c1 c2, sum_more _ i (14 * s.size) hi14 (PB_at ch first i), ← fl_more _ _ i hil (PB_at ch first i)] at hnext
        have hflip := flip_eq (fl (PB ch first i) 0 L) hbin (by rw [fl_length]; exact hLl) i (by rw [fl_length]; exact hil)
        have w4 := hw4 _ (hle (PB ch first i) (14 * s.size))
        refine Ev.step (fun k => ?_) hnext
        simp only [patchbaykeep1_FecBurst.l0]
        rw [w1, hx4, Option.bind_some, hmn2, if_pos hlt, w2, if_pos (Int.ofNat_lt.2 c1), if_pos (Int.natCast_nonneg _), if_pos c2, hflip, Option.bind_some, w3, w4]
      · rw [PB_no ch first i (fun q => c2 q.2)] at hnext
        refine Ev.step (fun k => ?_) hnext
        simp only [patchbaykeep1_FecBurst.l0]
        rw [w1, hx4, Option.bind_some, hmn2, if_pos hlt, w2, if_pos (Int.ofNat_lt.2 c1), if_pos (Int.natCast_nonneg _), if_neg c2, w3]
    · rw [PB_no ch first i (fun q => c1 q.1)] at hnext
      refine Ev.step (fun k => ?_) hnext
      simp only [patchbaykeep1_FecBurst.l0]
      rw [w1, hx4, Option.bind_some, hmn2, if_pos hlt, w2, if_neg (fun q => c1 (Int.ofNat_lt.1 q)), w3]
theorem div_facts (n d : Nat) (h1 : 1 ≤ n) (h2 : n ≤ 60) (h3 : 1 ≤ d) (h4 : d ≤ 64) : 0 < (2 * n + d - 1) / d ∧ (2 * n + d - 1) / d ≤ 1000 ∧ ∀ B, B < (2 * n + d - 1) / d → B * d < 2 * n := by
  have hdiv : ((2 * n + d - 1) / d) * d ≤ 2 * n + d - 1 := Nat.div_mul_le_self _ _
  have hdle : (2 * n + d - 1) / d ≤ 2 * n + d - 1 := Nat.div_le_self _ _
  refine ⟨Nat.div_pos (by omega) (by omega), by omega, fun B hB => ?_⟩
  have hBd : (B + 1) * d ≤ ((2 * n + d - 1) / d) * d := Nat.mul_le_mul_right d hB
  rw [Nat.succ_mul B d] at hBd
  omega
theorem head_wraps (n d : Nat) (h2 : n ≤ 60) (h3 : 1 ≤ d) (h4 : d ≤ 64) : wrap64 (2 * (n : Int)) = ((2 * n : Nat) : Int) ∧ wrap64 (((2 * n : Nat) : Int) + (d : Int)) = ((2 * n + d : Nat) : Int) ∧ wrap64 (((2 * n + d : Nat) : Int) - 1) = ((2 * n + d - 1 : Nat) : Int) :=
  ⟨(wrap_small _ (by omega) (by omega)).trans (by omega), (wrap_small _ (by omega) (by omega)).trans (by omega), (wrap_small _ (by omega) (by omega)).trans (by omega)⟩
theorem block_wraps (n d fm : Nat) (h2 : n ≤ 60) (h3 : 1 ≤ d) (h4 : d ≤ 64) (h5 : fm < 2 * n) : wrap64 (((2 * n : Nat) : Int) - (fm : Int)) = ((2 * n - fm : Nat) : Int) ∧ mn (d : Int) ((2 * n - fm : Nat) : Int) = ((min d (2 * n - fm) : Nat) : Int) ∧ wrap64 (7 * ((min d (2 * n - fm) : Nat) : Int)) = ((7 * min d (2 * n - fm) : Nat) : Int) ∧ wrap64 (7 * (fm : Int)) = ((7 * fm : Nat) : Int) ∧ 0 < min d (2 * n - fm) ∧ min d (2 * n - fm) ≤ 64 := by
  have hm : min d (2 * n - fm) ≤ 64 := by omega
  refine ⟨(wrap_small _ (by omega) (by omega)).trans (by omega), ?_, ?_, (wrap_small _ (by omega) (by omega)).trans (by omega), by omega, hm⟩
  · unfold mn
    split <;> omega
  · generalize min d (2 * n - fm) = z at hm
    exact (wrap_small _ (by omega) (by omega)).trans (by omega)
theorem tail_wrap (n d fm r : Nat) (h2 : n ≤ 60) (h3 : 1 ≤ d) (h4 : d ≤ 64) (h5 : fm < 2 * n) (h6 : r < 7 * min d (2 * n - fm)) : wrap64 (((7 * fm : Nat) : Int) + (r : Int)) = ((7 * fm + r : Nat) : Int) := by
  have hr : r < 1000 := by omega
  clear h6
  exact (wrap_small _ (by omega) (by omega)).trans (by omega)
theorem len_eq (n d fm r t : Nat) (h : r < 7 * min d (2 * n - fm)) : 7 * fm + r + (min (7 * fm + r + t) (7 * (fm + min d (2 * n - fm))) - (7 * fm + r)) = min (7 * fm + r + t) (7 * (fm + min d (2 * n - fm))) := by
  generalize min d (2 * n - fm) = z at h
  omega
theorem FecBurst : patchbaykeep1_FecBurst.Pure := by
  intro a0 a1 a2 a3 a4 a5 h0 h1 h2 h3 h4 h5
  obtain ⟨s, hcut, hsz⟩ := cut_f a0 60 (by decide)
  have hs : s.size ≤ 60 := by omega
  have f1 : patchbaykeep1_within.f a1 64 = _ := within_f a1 64 (by decide) (by decide)
  have g1 := withinN_lt a1 64 (by decide)
  generalize withinN a1 64 = d0 at f1 g1
  have w1 : wrap64 (1 + (d0 : Int)) = ((d0 + 1 : Nat) : Int) := by unfold wrap64; omega
  generalize hd : d0 + 1 = d at w1
  have hd1 : 1 ≤ d := by omega
  have hd2 : d ≤ 64 := by omega
  have hdz : ¬ (d : Int) = 0 := by omega
  clear hd g1
  have w3 : wrap64 (14 * (s.size : Int)) = ((14 * s.size : Nat) : Int) := by unfold wrap64; omega
  have l1 := encB_length d hd1 s
  have e1 := encode_eq s (Nat.le_trans hs (by decide)) d hd1 hd2
  have c1 : ((strOfNums (encB d s)).size : Int) = ((14 * s.size : Nat) : Int) := by rw [size_str, l1]
  have hcut2 : patchbaykeep1_cut.f a0 60 = some s := hcut
  have hend : Ev (fun k => patchbaykeep1_FecBurst.j0 k s (d : Int) a2 a3 a4 a5 (strOfNums (encB d s)) false) true := by
    by_cases hz : s.size = 0
    · refine Ev.step (f := fun _ => some true) (fun k => ?_) (Ev.now _)
      rw [patchbaykeep1_FecBurst.j0, if_neg (by decide), if_pos (by obtain rfl := size_zero hz; exact ByteArray.toList_eq _)]
    · have hn1 : 1 ≤ s.size := Nat.pos_of_ne_zero hz
      obtain ⟨hdp, hdle, hdiv⟩ := div_facts s.size d hn1 hs hd1 hd2
      have a4' : wrap64 (Int.tdiv ((2 * s.size + d - 1 : Nat) : Int) (d : Int)) = (((2 * s.size + d - 1) / d : Nat) : Int) := by
        rw [Int.ofNat_tdiv]
        exact wrap_small _ (Int.natCast_nonneg _) (Int.ofNat_le.2 (Nat.le_trans hdle (by decide)))
      obtain ⟨a1', a2', a3'⟩ := head_wraps s.size d hs hd1 hd2
      generalize (2 * s.size + d - 1) / d = q at hdiv hdp hdle a4'
      have f2 : patchbaykeep1_within.f a2 (q : Int) = _ := within_f a2 q hdp (Nat.lt_of_le_of_lt hdle (by decide))
      have g2 := withinN_lt a2 q hdp
      generalize withinN a2 q = B at f2 g2
      have hB := hdiv B g2
      have a5' : wrap64 ((B : Int) * (d : Int)) = ((B * d : Nat) : Int) := by
        rw [← Int.natCast_mul]
        exact wrap_small _ (Int.natCast_nonneg _) (Int.ofNat_le.2 (Nat.le_trans (Nat.le_of_lt hB) (Nat.le_trans (Nat.mul_le_mul_left 2 hs) (by decide))))
      obtain ⟨a6, a7, a8, a9, hmp, hm64⟩ := block_wraps s.size d (B * d) hs hd1 hd2 hB
      have hm1 : min d (2 * s.size - B * d) + 1 < 9223372036854775808 := Nat.lt_of_le_of_lt (Nat.succ_le_succ hm64) (by decide)
      have hm7 : 7 * min d (2 * s.size - B * d) < 9223372036854775808 := Nat.lt_of_le_of_lt (Nat.mul_le_mul_left 7 hm64) (by decide)
      have f3 : patchbaykeep1_within.f a3 ((7 * min d (2 * s.size - B * d) : Nat) : Int) = _ := within_f a3 _ (Nat.mul_pos (by decide) hmp) hm7
      have g3 := withinN_lt a3 (7 * min d (2 * s.size - B * d)) (Nat.mul_pos (by decide) hmp)
      generalize withinN a3 (7 * min d (2 * s.size - B * d)) = r at f3 g3
      have a10 := tail_wrap s.size d (B * d) r hs hd1 hd2 hB g3
      have f4 : patchbaykeep1_within.f a4 ((min d (2 * s.size - B * d) + 1 : Nat) : Int) = _ := within_f a4 _ (Nat.succ_pos _) hm1
      have g4 := withinN_lt a4 (min d (2 * s.size - B * d) + 1) (Nat.succ_pos _)
      generalize withinN a4 (min d (2 * s.size - B * d) + 1) = t at f4 g4
      have hl := burst_l0 s a5 hs d hd1 hd2 B hB a4 t (Nat.le_of_lt_succ g4) (7 * (B * d) + r) (Nat.le_add_right _ _) f4 (min (7 * (B * d) + r + t) (7 * (B * d + min d (2 * s.size - B * d))) - (7 * (B * d) + r)) (7 * (B * d) + r) (Nat.le_refl _) (len_eq s.size d (B * d) r t g3)
      rw [PB_start, fl_none] at hl
      have hz0 : sumN (fun j => on (fun _ => false) j) (14 * s.size) = 0 := sumN_zero _
      rw [hz0] at hl
      refine Ev.step (fun k => ?_) hl
      simp only [patchbaykeep1_FecBurst.j0]
      rw [if_neg (by decide), if_neg (toList_ne hn1), if_neg hdz, a1', a2', a3', a4', f2, Option.bind_some, a5', a6, a7, a8, f3, Option.bind_some, a9, a10]
      rfl
  refine Ev.rounds (g := fun k => patchbaykeep1_FecBurst.f k a0 a1 a2 a3 a4 a5) ?_
  simp only [patchbaykeep1_FecBurst.f, hcut2, f1, works_fec, Option.bind_some, if_true, w1, w3, e1, c1]
  have hb : (((14 * s.size : Nat) : Int) != ((14 * s.size : Nat) : Int)) = false := by simp
  rw [hb]
  exact hend
end Go.Proofs.Ytkdncfbbhbmaaaa.Pure
