/- CrcShifts: for all checksums a, b and all lengths m, n, shifting by m and then by n bytes is shifting by m + n bytes, shifting by no bytes only xors, and a shifted 0 stays 0: the plain statement. -/
import Derived.Test.YtkdncfbbhbmaaaaQf3
import Derived.Test.YtkdncfbbhbmaaaaKJoin
import Derived.Test.YtkdncfbbhbmaaaaKWithin
import Derived.OpenShut
namespace Go.Proofs.Ytkdncfbbhbmaaaa.Pure
open Go.RowKit Go.Proofs.Ytkdncfbbhbmaaaa.Q Go.Proofs.YtkdncfbbhbmaaaaW.PrintWords Go.Proofs.YtkdncfbbhbmaaaaW.PrintLast Go.Proofs.YtkdncfbbhbmaaaaW.PrintMore Go.Proofs.Ytkdncfbbhbmaaaa.K

theorem times_l0 (n : Nat) : ∀ (k a b out : Nat), n ≤ 32 → n < k → a < 4294967296 → b < 4294967296 → out < 4294967296 →
    crc_times.l0 k (a : Int) (b : Int) (out : Int) ((n : Int) - 1) = some ((out ^^^ tmul n a b : Nat) : Int) := by
  induction n with
  | zero =>
    intro k a b out _ hk _ _ _
    obtain ⟨k, rfl⟩ : ∃ m, k = m + 1 := ⟨k - 1, by omega⟩
    simp only [crc_times.l0]
    rw [if_neg (by omega)]
    simp [tmul]
  | succ n ih =>
    intro k a b out h32 hk ha hb ho
    obtain ⟨k, rfl⟩ : ∃ m, k = m + 1 := ⟨k - 1, by omega⟩
    simp only [crc_times.l0]
    rw [if_pos (by omega), if_pos (by omega)]
    rw [Ext.half_f b hb]
    have hs : shr .u32 (a : Int) (((n + 1 : Nat) : Int) - 1) = ((a / 2 ^ n : Nat) : Int) := by
      unfold shr
      rw [show (((n + 1 : Nat) : Int) - 1).toNat = n by omega, show min n IntKind.u32.bits = n by show min n 32 = n; omega]
      push_cast
      rfl
    have hw : wrap64 (((n + 1 : Nat) : Int) - 1 - 1) = (n : Int) - 1 := by unfold wrap64; omega
    have hd : a / 2 ^ n < 4294967296 := Nat.lt_of_le_of_lt (Nat.div_le_self _ _) ha
    rw [hs, hw, andU32 _ hd]
    simp only [Option.bind_some]
    by_cases h1 : a / 2 ^ n % 2 = 1
    · rw [if_pos (by omega), xorU32 out b ho hb, ih k a _ _ (by omega) (by omega) ha (crcHalf_lt b hb) (Nat.xor_lt_two_pow (n := 32) ho hb), tmul, if_pos h1, Nat.xor_assoc]
    · rw [if_neg (by omega), ih k a _ _ (by omega) (by omega) ha (crcHalf_lt b hb) ho, tmul, if_neg h1, Nat.zero_xor]
theorem times_f (k a b : Nat) (hk : 32 < k) (ha : a < 4294967296) (hb : b < 4294967296) : crc_times.f k (a : Int) (b : Int) = some ((tmul 32 a b : Nat) : Int) := by
  unfold crc_times.f
  have h := times_l0 32 k a b 0 (by omega) hk ha hb (by decide)
  rw [Nat.zero_xor] at h
  exact h
theorem join_l0 (d : Nat) : ∀ (k a b n j : Nat), n < 2 ^ d → d ≤ 62 → d + 33 < k → a < 4294967296 → b < 4294967296 →
    crc_Join.l0 k (a : Int) (b : Int) (n : Int) ((xpow j : Nat) : Int) = some ((crcIter (j * n) a ^^^ b : Nat) : Int) := by
  induction d with
  | zero =>
    intro k a b n j hn _ hk ha hb
    obtain ⟨k, rfl⟩ : ∃ m, k = m + 1 := ⟨k - 1, by omega⟩
    obtain rfl : n = 0 := by omega
    simp only [crc_Join.l0]
    rw [if_neg (by omega), xorU32 a b ha hb]
    rfl
  | succ d ih =>
    intro k a b n j hn h62 hk ha hb
    obtain ⟨k, rfl⟩ : ∃ m, k = m + 1 := ⟨k - 1, by omega⟩
    simp only [crc_Join.l0]
    by_cases h0 : n = 0
    · subst h0
      rw [if_neg (by omega), xorU32 a b ha hb]
      rfl
    · have hle : n < 2 ^ 63 := Nat.lt_of_lt_of_le hn (Nat.pow_le_pow_right (by decide) (by omega))
      have hh : n / 2 < 2 ^ d := by rw [Nat.pow_succ] at hn; omega
      have hw : wrap64 (Int.tdiv (n : Int) 2) = ((n / 2 : Nat) : Int) := by rw [Int.tdiv_eq_ediv_of_nonneg (by omega)]; unfold wrap64; omega
      have hm : Int.tmod (n : Int) 2 = ((n % 2 : Nat) : Int) := by rw [Int.tmod_eq_emod_of_nonneg (by omega)]; omega
      rw [if_pos (by omega), hw, hm, times_f k _ _ (by omega) (xpow_lt j) (xpow_lt j), tmul_xpow _ _ (xpow_lt j), xpow_double]
      have hj : (j + j) * (n / 2) + j * (n % 2) = j * n := by
        rw [show (j + j) * (n / 2) = j * (2 * (n / 2)) by rw [← Nat.mul_assoc, Nat.mul_comm j 2, Nat.two_mul], ← Nat.mul_add, Nat.div_add_mod]
      by_cases h1 : n % 2 = 1
      · rw [if_pos (by omega), times_f k _ _ (by omega) ha (xpow_lt j), tmul_xpow _ _ ha]
        simp only [Option.bind_some]
        rw [ih k _ b _ _ hh (by omega) (by omega) (crcIter_lt j a ha) hb, ← crcIter_add, ← hj, h1, Nat.mul_one]
      · rw [if_neg (by omega)]
        simp only [Option.bind_some]
        rw [ih k _ b _ _ hh (by omega) (by omega) ha hb, ← hj, show n % 2 = 0 by omega, Nat.mul_zero, Nat.add_zero]
theorem join_f (k a b n : Nat) (hk : 95 < k) (hn : n < 2 ^ 62) (ha : a < 4294967296) (hb : b < 4294967296) : crc_Join.f k (a : Int) (b : Int) (n : Int) = some ((crcIter (8 * n) a ^^^ b : Nat) : Int) := by
  unfold crc_Join.f
  have h := join_l0 62 k a b n 8 hn (by omega) (by omega) ha hb
  rw [xpow_eight] at h
  exact h
theorem crcWorks_true : patchbaykeep1_crcWorks.f = some true := by decide +kernel
theorem wf_u32 {a : Int} (h : (Lit.int .u32 a).wf = true) : ∃ n : Nat, a = n ∧ n < 4294967296 := by
  have := bounds_u32 h
  exact ⟨a.toNat, by omega, by omega⟩
theorem CrcShifts : patchbaykeep1_CrcShifts.Pure := by
  intro a0 a1 a2 a3 w0 w1 w2 w3
  obtain ⟨a, rfl, ha⟩ := wf_u32 w0
  obtain ⟨b, rfl, hb⟩ := wf_u32 w1
  have hm := withinN_lt a2 1099511627776 (by decide)
  have hn := withinN_lt a3 1099511627776 (by decide)
  have fm : patchbaykeep1_within.f a2 1099511627776 = _ := within_f a2 1099511627776 (by decide) (by decide)
  have fn : patchbaykeep1_within.f a3 1099511627776 = _ := within_f a3 1099511627776 (by decide) (by decide)
  obtain ⟨K, hK⟩ : ∃ K : Nat, 95 < K := ⟨96, by decide⟩
  refine ⟨K, ?_⟩
  unfold patchbaykeep1_CrcShifts.f
  rw [fm, fn]
  generalize withinN a2 1099511627776 = m at *
  generalize withinN a3 1099511627776 = n at *
  have hw : wrap64 ((m : Int) + (n : Int)) = ((m + n : Nat) : Int) := by unfold wrap64; omega
  have j1 : crc_Join.f K (a : Int) 0 (m : Int) = _ := join_f K a 0 m hK (by omega) ha (by decide)
  rw [Nat.xor_zero] at j1
  have j2 := join_f K (crcIter (8 * m) a) b n hK (by omega) (crcIter_lt _ a ha) hb
  have j3 := join_f K a b (m + n) hK (by omega) ha hb
  have j4 : crc_Join.f K (a : Int) (b : Int) 0 = _ := join_f K a b 0 hK (by decide) ha hb
  have j5 : crc_Join.f K 0 (b : Int) (n : Int) = _ := join_f K 0 b n hK (by omega) (by decide) hb
  rw [show crcIter (8 * 0) a = a from rfl] at j4
  rw [crcIter_zero, Nat.zero_xor] at j5
  rw [← crcIter_add, ← Nat.mul_add, Nat.add_comm n m] at j2
  rw [crcWorks_true]
  simp only [Option.bind_some, if_true]
  rw [j1]
  simp only [Option.bind_some]
  rw [j2, hw, j3]
  simp only [Option.bind_some, if_true]
  rw [j4, xorU32 a b ha hb]
  simp only [Option.bind_some]
  rw [if_pos trivial, j5]
  simp
end Go.Proofs.Ytkdncfbbhbmaaaa.Pure
