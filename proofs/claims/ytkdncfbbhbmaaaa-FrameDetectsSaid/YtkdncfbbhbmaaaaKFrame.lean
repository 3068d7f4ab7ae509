/- Plain mathematics of link frames: bytes of numbers, the encoding as a list of bytes, and that it can be read back. -/
import Derived.Test.YtkdncfbbhbmaaaaKCrc
namespace Go.Proofs.Ytkdncfbbhbmaaaa.K
/-- The k bytes of a number, the most significant one first. -/
def be : Nat → Nat → List UInt8
  | 0, _ => []
  | k + 1, n => UInt8.ofNat (n / 256 ^ k % 256) :: be k n
/-- The number that bytes contain. -/
def val (l : List UInt8) : Nat := l.foldl (fun a b => a * 256 + b.toNat) 0
theorem be_length (k n : Nat) : (be k n).length = k := by
  induction k with
  | zero => rfl
  | succ k ih => simp [be, ih]
theorem val_acc (l : List UInt8) : ∀ a, l.foldl (fun a b => a * 256 + b.toNat) a = a * 256 ^ l.length + val l := by
  unfold val
  induction l with
  | nil => intro a; simp
  | cons b l ih =>
    intro a
    simp only [List.foldl_cons, List.length_cons]
    rw [ih (a * 256 + b.toNat), ih (0 * 256 + b.toNat), Nat.pow_succ, Nat.zero_mul, Nat.zero_add, Nat.add_mul, Nat.mul_assoc, Nat.mul_comm 256 (256 ^ l.length), Nat.add_assoc]
theorem val_cons (b : UInt8) (l : List UInt8) : val (b :: l) = b.toNat * 256 ^ l.length + val l := by
  show (b :: l).foldl _ 0 = _
  rw [List.foldl_cons, val_acc]
  simp
theorem val_snoc (l : List UInt8) (b : UInt8) : val (l ++ [b]) = val l * 256 + b.toNat := by simp [val]
theorem val_lt (l : List UInt8) : val l < 256 ^ l.length := by
  induction l with
  | nil => decide
  | cons b l ih =>
    rw [val_cons, List.length_cons, Nat.pow_succ]
    have h1 : b.toNat < 256 := UInt8.toNat_lt b
    have h2 : b.toNat * 256 ^ l.length + 256 ^ l.length ≤ 256 * 256 ^ l.length := by
      rw [← Nat.succ_mul]
      exact Nat.mul_le_mul_right _ h1
    omega
theorem val_be (k : Nat) : ∀ n, val (be k n) = n % 256 ^ k := by
  induction k with
  | zero => intro n; simp [be, val, Nat.mod_one]
  | succ k ih =>
    intro n
    rw [be, val_cons, be_length, ih n]
    have h1 : (UInt8.ofNat (n / 256 ^ k % 256)).toNat = n / 256 ^ k % 256 := by
      rw [UInt8.toNat_ofNat']
      exact Nat.mod_eq_of_lt (Nat.mod_lt _ (by decide))
    rw [h1, Nat.pow_succ, Nat.mod_mul]
    rw [Nat.mul_comm (n / 256 ^ k % 256), Nat.add_comm]
theorem val_be_lt (k n : Nat) (h : n < 256 ^ k) : val (be k n) = n := by rw [val_be, Nat.mod_eq_of_lt h]
theorem be_inj (k m n : Nat) (hm : m < 256 ^ k) (hn : n < 256 ^ k) (h : be k m = be k n) : m = n := by
  rw [← val_be_lt k m hm, ← val_be_lt k n hn, h]
/-- A frame's fields. -/
structure Fr where
  d : Nat
  s : Nat
  t : Nat
  y : Nat
  b : List UInt8
/-- The bytes of a frame, without filling and checksum. -/
def encBody (f : Fr) : List UInt8 := be 6 f.d ++ (be 6 f.s ++ ((if 0 < f.t then be 2 33024 ++ be 2 f.t else []) ++ (be 2 f.y ++ (be 2 f.b.length ++ f.b))))
def pad60 (l : List UInt8) : List UInt8 := l ++ List.replicate (60 - l.length) 0
def sealL (l : List UInt8) : List UInt8 := l ++ be 4 (crcOf l)
def encL (f : Fr) : List UInt8 := sealL (pad60 (encBody f))
def Fr.ok (f : Fr) : Prop := f.d < 281474976710656 ∧ f.s < 281474976710656 ∧ f.t ≤ 4094 ∧ f.y ≤ 65535 ∧ f.y ≠ 33024 ∧ f.b.length ≤ 1500
/-- The rest of a frame behind the addresses and the tag, if there is one: the tag and the rest. -/
def tagOf (r : List UInt8) : Nat × List UInt8 := if val (r.take 2) = 33024 then (val ((r.drop 2).take 2), r.drop 4) else (0, r)
def decL (u : List UInt8) : Fr :=
  ⟨val (u.take 6), val ((u.drop 6).take 6), (tagOf (u.drop 12)).1, val ((tagOf (u.drop 12)).2.take 2), ((tagOf (u.drop 12)).2.drop 4).take (val (((tagOf (u.drop 12)).2.drop 2).take 2))⟩
theorem take_app {α : Type} (k : Nat) (a b : List α) (h : a.length = k) : (a ++ b).take k = a := by rw [← h]; exact List.take_left
theorem drop_app {α : Type} (k : Nat) (a b : List α) (h : a.length = k) : (a ++ b).drop k = b := by rw [← h]; exact List.drop_left
theorem be2 (n : Nat) (h : n ≤ 65535) : val (be 2 n) = n := val_be_lt 2 n (by omega)
theorem tagOf_enc (t y : Nat) (r : List UInt8) (ht : t ≤ 4094) (hy : y ≤ 65535) (hm : y ≠ 33024) : tagOf ((if 0 < t then be 2 33024 ++ be 2 t else []) ++ (be 2 y ++ r)) = (t, be 2 y ++ r) := by
  unfold tagOf
  by_cases h : 0 < t
  · rw [if_pos h, List.append_assoc, take_app 2 _ _ (be_length 2 _), drop_app 2 _ _ (be_length 2 _), take_app 2 _ _ (be_length 2 _), be2 33024 (by omega), if_pos rfl, be2 t (by omega), ← List.append_assoc, drop_app 4 _ _ (by simp [be_length])]
  · rw [if_neg h, List.nil_append, take_app 2 _ _ (be_length 2 _), be2 y hy, if_neg hm]
    obtain rfl : t = 0 := by omega
    rfl
theorem dec_enc (f : Fr) (h : f.ok) : decL (pad60 (encBody f)) = f := by
  obtain ⟨h1, h2, h3, h4, h5, h6⟩ := h
  obtain ⟨d, s, t, y, b⟩ := f
  have h6' : b.length ≤ 1500 := h6
  have e : pad60 (encBody ⟨d, s, t, y, b⟩) = be 6 d ++ (be 6 s ++ ((if 0 < t then be 2 33024 ++ be 2 t else []) ++ (be 2 y ++ (be 2 b.length ++ (b ++ List.replicate (60 - (encBody ⟨d, s, t, y, b⟩).length) 0))))) := by
    unfold pad60
    simp only [encBody, List.append_assoc]
  have e12 : (pad60 (encBody ⟨d, s, t, y, b⟩)).drop 12 = (if 0 < t then be 2 33024 ++ be 2 t else []) ++ (be 2 y ++ (be 2 b.length ++ (b ++ List.replicate (60 - (encBody ⟨d, s, t, y, b⟩).length) 0))) := by
    rw [e, ← List.append_assoc, drop_app 12 _ _ (by simp [be_length])]
  have et := tagOf_enc t y (be 2 b.length ++ (b ++ List.replicate (60 - (encBody ⟨d, s, t, y, b⟩).length) 0)) h3 h4 h5
  unfold decL
  rw [e12, et, e]
  simp only
  rw [take_app 6 _ _ (be_length 6 _), drop_app 6 _ _ (be_length 6 _), take_app 6 _ _ (be_length 6 _), take_app 2 _ _ (be_length 2 _), drop_app 2 _ _ (be_length 2 _), take_app 2 _ _ (be_length 2 _), ← List.append_assoc (be 2 y), drop_app 4 _ _ (by simp [be_length]), be2 y h4, be2 b.length (by omega), take_app b.length _ _ rfl, val_be_lt 6 d (by simpa using h1), val_be_lt 6 s (by simpa using h2)]
theorem pad60_length (l : List UInt8) : (pad60 l).length = max 60 l.length := by unfold pad60; simp; omega
theorem sealL_length (l : List UInt8) : (sealL l).length = l.length + 4 := by unfold sealL; simp [be_length]
theorem encBody_length (f : Fr) : (encBody f).length = 16 + (if 0 < f.t then 4 else 0) + f.b.length := by
  unfold encBody
  split <;> simp [be_length] <;> omega
theorem encL_length (f : Fr) : (encL f).length = max 60 (16 + (if 0 < f.t then 4 else 0) + f.b.length) + 4 := by unfold encL; rw [sealL_length, pad60_length, encBody_length]
theorem sealL_take (l : List UInt8) : (sealL l).take ((sealL l).length - 4) = l := by
  rw [sealL_length]
  exact take_app _ _ _ (by omega)
theorem sealL_inj (a b : List UInt8) (h : sealL a = sealL b) : a = b := by rw [← sealL_take a, ← sealL_take b, h]
theorem encL_inj (f g : Fr) (hf : f.ok) (hg : g.ok) (h : encL f = encL g) : f = g := by
  rw [← dec_enc f hf, ← dec_enc g hg, sealL_inj _ _ h]
end Go.Proofs.Ytkdncfbbhbmaaaa.K
