/- What frame.Group and frame.Check answer. -/
import Derived.Test.YtkdncfbbhbmaaaaQf52
import Derived.Laws.BitsLemmas
namespace Go.Proofs.Ytkdncfbbhbmaaaa.Br
open Go.RowKit Go.Proofs.Ytkdncfbbhbmaaaa.Q Go.Proofs.YtkdncfbbhbmaaaaW.PrintWords Go.Proofs.YtkdncfbbhbmaaaaW.PrintLast Go.Proofs.YtkdncfbbhbmaaaaW.PrintMore
/-- What frame.Check answers. -/
def chk (d s t y : Int) (n : Nat) : Int := if d < 0 ∨ d ≥ 281474976710656 ∨ s < 0 ∨ s ≥ 281474976710656 ∨ s / 1099511627776 % 2 = 1 then 1 else if t < 0 ∨ t > 4094 ∨ y < 0 ∨ y > 65535 ∨ y = 33024 then 10 else if (n : Int) > 1500 then 2 else 0
theorem group_f (a : Int) (h0 : 0 ≤ a) (h1 : a < 281474976710656) : frame_Group.f a = some (decide (a / 1099511627776 % 2 = 1)) := by
  obtain ⟨n, rfl⟩ := Int.eq_ofNat_of_zero_le h0
  unfold frame_Group.f
  rw [if_pos h0, show (n : Int) / 1099511627776 = ((n / 1099511627776 : Nat) : Int) by omega, show ((1 : Int)) = 2 ^ 1 - 1 from rfl, bits_mask .i64 62 (by decide) (fun n h0 h1 => by rw [IntKind.wrap_i64]; omega) 1 (by decide) _ (by omega) (by omega)]
  congr 1
theorem check_j1 (K : Nat) (b : Bool) (d s t y : Int) (x : ByteArray) : frame_Check.j1 (K + 1) b d s t y x = some (if b = true then 10 else if (x.size : Int) > 1500 then 2 else 0) := by
  simp only [frame_Check.j1]
  cases b
  · simp only [Bool.false_eq_true, if_false]
    split <;> rfl
  · rfl
theorem check_j0 (K : Nat) (b : Bool) (d s t y : Int) (x : ByteArray) : frame_Check.j0 (K + 2) b d s t y x = some (if b = true then 1 else if t < 0 ∨ t > 4094 ∨ y < 0 ∨ y > 65535 ∨ y = 33024 then 10 else if (x.size : Int) > 1500 then 2 else 0) := by
  simp only [frame_Check.j0, check_j1]
  cases b
  · simp only [Bool.false_eq_true, if_false, if_true]
    by_cases h1 : t < 0
    · simp [h1]
    · by_cases h2 : t > 4094
      · simp [h1, h2]
      · by_cases h3 : y < 0
        · simp [h1, h2, h3]
        · by_cases h4 : y > 65535
          · simp [h1, h2, h3, h4]
          · simp [h1, h2, h3, h4]
  · rfl
theorem check_f (K : Nat) (d s t y : Int) (x : ByteArray) : frame_Check.f (K + 2) d s t y x = some (chk d s t y x.size) := by
  unfold frame_Check.f chk
  simp only [check_j0]
  by_cases h1 : d < 0
  · simp [h1]
  · by_cases h2 : d ≥ 281474976710656
    · simp [h1, h2]
    · by_cases h3 : s < 0
      · simp [h1, h2, h3]
      · by_cases h4 : s ≥ 281474976710656
        · simp [h1, h2, h3, h4]
        · rw [group_f s (by omega) (by omega)]
          simp [h1, h2, h3, h4]
theorem chk_tag (d s t t' y : Int) (n : Nat) (h : chk d s t y n = 0) (h0 : 0 ≤ t') (h1 : t' ≤ 4094) : chk d s t' y n = 0 := by
  unfold chk at h ⊢
  by_cases c1 : d < 0 ∨ d ≥ 281474976710656 ∨ s < 0 ∨ s ≥ 281474976710656 ∨ s / 1099511627776 % 2 = 1
  · rw [if_pos c1] at h; cases h
  · rw [if_neg c1] at h ⊢
    by_cases c2 : t < 0 ∨ t > 4094 ∨ y < 0 ∨ y > 65535 ∨ y = 33024
    · rw [if_pos c2] at h; cases h
    · rw [if_neg c2] at h
      rw [if_neg (by omega)]
      exact h
theorem chk_range (d s t y : Int) (n : Nat) (h : chk d s t y n = 0) : 0 ≤ t ∧ t ≤ 4094 := by
  unfold chk at h
  by_cases c1 : d < 0 ∨ d ≥ 281474976710656 ∨ s < 0 ∨ s ≥ 281474976710656 ∨ s / 1099511627776 % 2 = 1
  · rw [if_pos c1] at h; cases h
  · rw [if_neg c1] at h
    by_cases c2 : t < 0 ∨ t > 4094 ∨ y < 0 ∨ y > 65535 ∨ y = 33024
    · rw [if_pos c2] at h; cases h
    · omega
end Go.Proofs.Ytkdncfbbhbmaaaa.Br
