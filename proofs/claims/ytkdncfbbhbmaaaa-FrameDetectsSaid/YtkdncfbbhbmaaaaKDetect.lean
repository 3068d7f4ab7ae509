/- Plain mathematics: a sealed list of bytes of which one byte is changed is not sealed. -/
import Derived.Test.YtkdncfbbhbmaaaaKFrame
namespace Go.Proofs.Ytkdncfbbhbmaaaa.K
theorem crcHalf_inj (a b : Nat) (ha : a < 4294967296) (hb : b < 4294967296) (h : crcHalf a = crcHalf b) : a = b := by
  have key : ∀ c, c < 4294967296 → (crcHalf c / 2147483648 = c % 2) ∧ (c % 2 = 1 → crcHalf c ^^^ 3988292384 = c / 2) ∧ (c % 2 = 0 → crcHalf c = c / 2) := by
    intro c hc
    unfold crcHalf
    by_cases h1 : c % 2 = 1
    · rw [if_pos h1]
      refine ⟨?_, fun _ => ?_, fun z => by omega⟩
      · have e : (c / 2 ^^^ 3988292384) / 2147483648 = c / 2 / 2147483648 ^^^ 3988292384 / 2147483648 := by
          have := Nat.shiftRight_xor_distrib (a := c / 2) (b := 3988292384) (i := 31)
          simpa [Nat.shiftRight_eq_div_pow] using this
        rw [e, show c / 2 / 2147483648 = 0 by omega, h1]
        decide
      · rw [Nat.xor_assoc, Nat.xor_self, Nat.xor_zero]
    · rw [if_neg h1]
      exact ⟨by omega, fun z => absurd z h1, fun _ => rfl⟩
  obtain ⟨a1, a2, a3⟩ := key a ha
  obtain ⟨b1, b2, b3⟩ := key b hb
  have hp : a % 2 = b % 2 := by rw [← a1, ← b1, h]
  rcases Nat.mod_two_eq_zero_or_one a with z | z
  · have h1 := a3 z
    have h2 := b3 (by omega)
    omega
  · have h1 := a2 z
    have h2 := b2 (by omega)
    rw [h] at h1
    omega
theorem crcIter_inj (n a b : Nat) (ha : a < 4294967296) (hb : b < 4294967296) (h : crcIter n a = crcIter n b) : a = b := by
  induction n with
  | zero => exact h
  | succ n ih => exact ih (crcHalf_inj _ _ (crcIter_lt n a ha) (crcIter_lt n b hb) h)
theorem xor_cancel_left (x a b : Nat) (h : x ^^^ a = x ^^^ b) : a = b := by
  have : x ^^^ (x ^^^ a) = x ^^^ (x ^^^ b) := by rw [h]
  rwa [← Nat.xor_assoc, ← Nat.xor_assoc, Nat.xor_self, Nat.zero_xor, Nat.zero_xor] at this
theorem byte_lt32 (b : UInt8) : b.toNat < 4294967296 := Nat.lt_trans (UInt8.toNat_lt b) (by decide)
theorem xor_lt32 (c : Nat) (b : UInt8) (h : c < 4294967296) : c ^^^ b.toNat < 4294967296 := Nat.xor_lt_two_pow (n := 32) h (byte_lt32 b)
/-- Two registers that differ stay different over equal bytes. -/
theorem fold_inj (l : List UInt8) : ∀ c d, c < 4294967296 → d < 4294967296 → l.foldl (fun c b => crcIter 8 (c ^^^ b.toNat)) c = l.foldl (fun c b => crcIter 8 (c ^^^ b.toNat)) d → c = d := by
  induction l with
  | nil => intro c d _ _ h; exact h
  | cons b l ih =>
    intro c d hc hd h
    have h2 := ih _ _ (crcIter_lt 8 _ (xor_lt32 c b hc)) (crcIter_lt 8 _ (xor_lt32 d b hd)) h
    have h3 := crcIter_inj 8 _ _ (xor_lt32 c b hc) (xor_lt32 d b hd) h2
    rw [Nat.xor_comm c, Nat.xor_comm d] at h3
    exact xor_cancel_left _ _ _ h3
theorem crcOf_set (l : List UInt8) (j : Nat) (hj : j < l.length) (b : UInt8) (hb : b ≠ l[j]) : crcOf (l.set j b) ≠ crcOf l := by
  intro h
  have h1 : crcReg (l.set j b) = crcReg l := by
    unfold crcOf at h
    rw [Nat.xor_comm (crcReg _), Nat.xor_comm (crcReg l)] at h
    exact xor_cancel_left _ _ _ h
  have e1 : l.set j b = l.take j ++ b :: l.drop (j + 1) := List.set_eq_take_append_cons_drop .. |>.trans (by rw [if_pos hj])
  have e2 : l = l.take j ++ l[j] :: l.drop (j + 1) := by rw [List.getElem_cons_drop, List.take_append_drop]
  unfold crcReg at h1
  rw [e1] at h1
  conv at h1 => rhs; rw [e2]
  rw [List.foldl_append, List.foldl_append, List.foldl_cons, List.foldl_cons] at h1
  have hc := fold_lt (l.take j) 4294967295 (by decide)
  have h2 := fold_inj _ _ _ (crcIter_lt 8 _ (xor_lt32 _ b hc)) (crcIter_lt 8 _ (xor_lt32 _ l[j] hc)) h1
  have h3 := crcIter_inj 8 _ _ (xor_lt32 _ b hc) (xor_lt32 _ l[j] hc) h2
  exact hb (UInt8.toNat_inj.1 (xor_cancel_left _ _ _ h3))
theorem sealL_set (u : List UInt8) (j : Nat) (hj : j < (sealL u).length) (b : UInt8) (hb : b ≠ (sealL u)[j]) : sealL (((sealL u).set j b).take (((sealL u).set j b).length - 4)) ≠ (sealL u).set j b := by
  intro h
  have hl : ((sealL u).set j b).length = u.length + 4 := by rw [List.length_set, sealL_length]
  rw [hl, Nat.add_sub_cancel] at h
  by_cases hju : j < u.length
  · have e1 : ((sealL u).set j b) = u.set j b ++ be 4 (crcOf u) := by unfold sealL; rw [List.set_append_left _ _ hju]
    have e2 : ((sealL u).set j b).take u.length = u.set j b := by rw [e1]; exact take_app _ _ _ (by simp)
    rw [e2, e1] at h
    unfold sealL at h
    have h2 := List.append_cancel_left h
    have h3 := be_inj 4 _ _ (by have := crcOf_lt (u.set j b); omega) (by have := crcOf_lt u; omega) h2
    have hg : (sealL u)[j] = u[j] := by unfold sealL; exact List.getElem_append_left hju
    rw [hg] at hb
    exact crcOf_set u j hju b hb h3
  · have e1 : ((sealL u).set j b) = u ++ (be 4 (crcOf u)).set (j - u.length) b := by unfold sealL; rw [List.set_append_right _ _ (by omega)]
    have e2 : ((sealL u).set j b).take u.length = u := by rw [e1]; exact take_app _ _ _ rfl
    rw [e2] at h
    have h4 : (sealL u)[j] = ((sealL u).set j b)[j]'(by rw [List.length_set]; exact hj) := by
      congr 1
    rw [List.getElem_set_self] at h4
    exact hb h4.symm
end Go.Proofs.Ytkdncfbbhbmaaaa.K
