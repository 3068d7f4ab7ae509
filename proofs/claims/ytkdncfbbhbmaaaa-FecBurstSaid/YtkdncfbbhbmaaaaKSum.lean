/- Sums over the places of blocks: how many bits are turned, and how many words have one. -/
import Derived.Test.YtkdncfbbhbmaaaaKBlocks
namespace Go.Proofs.Ytkdncfbbhbmaaaa.Br
set_option linter.unusedVariables false
set_option linter.unusedSimpArgs false
open Go.RowKit Go.Proofs.Ytkdncfbbhbmaaaa.Q Go.Proofs.YtkdncfbbhbmaaaaW.PrintWords Go.Proofs.YtkdncfbbhbmaaaaW.PrintLast Go.Proofs.YtkdncfbbhbmaaaaW.PrintMore Go.Proofs.Ytkdncfbbhbmaaaa.Ext
def sumN (f : Nat → Nat) : Nat → Nat
  | 0 => 0
  | n + 1 => sumN f n + f n
theorem sumN_congr {f g : Nat → Nat} (n : Nat) (h : ∀ i, i < n → f i = g i) : sumN f n = sumN g n := by
  induction n with
  | zero => rfl
  | succ n ih => simp only [sumN]; rw [ih (fun i hi => h i (by omega)), h n (by omega)]
theorem sumN_zero (n : Nat) : sumN (fun _ => 0) n = 0 := by
  induction n with
  | zero => rfl
  | succ n ih => simp only [sumN, ih]
theorem sumN_add (f g : Nat → Nat) (n : Nat) : sumN (fun i => f i + g i) n = sumN f n + sumN g n := by
  induction n with
  | zero => rfl
  | succ n ih => simp only [sumN, ih]; omega
theorem sumN_app (f : Nat → Nat) (a b : Nat) : sumN f (a + b) = sumN f a + sumN (fun i => f (a + i)) b := by
  induction b with
  | zero => rfl
  | succ b ih => rw [← Nat.add_assoc]; simp only [sumN, ih]; omega
theorem sumN_mul (f : Nat → Nat) (n m : Nat) : sumN f (m * n) = sumN (fun k => sumN (fun i => f (k * n + i)) n) m := by
  induction m with
  | zero => rw [Nat.zero_mul]; rfl
  | succ m ih => rw [Nat.succ_mul, sumN_app, ih]; rfl
theorem sumN_swap (g : Nat → Nat → Nat) (n m : Nat) : sumN (fun k => sumN (fun i => g k i) n) m = sumN (fun i => sumN (fun k => g k i) m) n := by
  induction m with
  | zero => simp only [sumN, sumN_zero]
  | succ m ih => simp only [sumN]; rw [ih, ← sumN_add]
theorem hits_sumN (fx : Nat → Nat × Nat) (m : Nat) : ∀ i, hits fx i m = sumN (fun t => if 0 < (fx (i + t)).2 then 1 else 0) m := by
  induction m with
  | zero => intro i; rfl
  | succ m ih =>
    intro i
    rw [hits, ih (i + 1), Nat.add_comm m 1, sumN_app]
    simp only [sumN, Nat.add_zero, Nat.zero_add]
    congr 1
    exact sumN_congr m fun t _ => by rw [Nat.add_assoc]
/-- Whether a place is turned, as a number. -/
def on (P : Nat → Bool) (j : Nat) : Nat := if P j then 1 else 0
theorem hitW_sum (p : Nat → Bool) (h : ∀ k k', k < 7 → k' < 7 → p k = true → p k' = true → k = k') : sumN (fun k => on p k) 7 = if 0 < hitW p then 1 else 0 := by
  have e : ∀ k, k < 7 → on p k = if k + 1 = hitW p then 1 else 0 := fun k hk => by
    unfold on
    rw [hitW_iff p h k hk]
    by_cases z : k + 1 = hitW p <;> simp [z]
  rw [sumN_congr 7 e]
  have hle := hitW_le p
  generalize hitW p = x at hle
  match x, hle with
  | 0, _ => rfl
  | 1, _ => rfl
  | 2, _ => rfl
  | 3, _ => rfl
  | 4, _ => rfl
  | 5, _ => rfl
  | 6, _ => rfl
  | 7, _ => rfl
theorem cnt_sum (P : Nat → Bool) (d : Nat) (hd : 1 ≤ d) (f : Nat) : ∀ (o : Nat) (ws : List Nat), ws.length ≤ f → Once P d f o ws.length → cnt P d f o ws = sumN (fun j => on P (o + j)) (7 * ws.length) := by
  induction f with
  | zero =>
    intro o ws h _
    rw [show ws.length = 0 by omega]
    rfl
  | succ f ih =>
    intro o ws h ho
    rw [cnt]
    by_cases h0 : ws = []
    · rw [if_pos h0, h0]; rfl
    · have hpos := List.length_pos_iff.2 h0
      rw [if_neg h0, ih (o + 7 * min d ws.length) (ws.drop d) (by rw [List.length_drop]; omega) (by
        have h2 := ho.2
        rw [show (ws.drop d).length = ws.length - min d ws.length by rw [List.length_drop]; omega]
        exact h2), hits_sumN]
      have hsp : 7 * ws.length = 7 * min d ws.length + 7 * (ws.drop d).length := by rw [List.length_drop]; omega
      rw [hsp, sumN_app]
      congr 1
      · rw [sumN_mul, sumN_swap]
        refine sumN_congr _ fun i hi => ?_
        rw [Nat.zero_add]
        exact (hitW_sum (fun k => P (o + (k * min d ws.length + i))) (fun k k' => ho.1 i k k' hi)).symm
      · exact sumN_congr _ fun j _ => by rw [Nat.add_assoc]
theorem Once_zero (P : Nat → Bool) (d f : Nat) : ∀ o, Once P d f o 0 := by
  induction f with
  | zero => intro o; trivial
  | succ f ih => intro o; exact ⟨fun i _ _ h => by omega, by rw [Nat.zero_sub]; exact ih _⟩
theorem Once_window (P : Nat → Bool) (d B W first L : Nat) (hd : 1 ≤ d) (hL : L ≤ min d (W - B * d)) (hP : ∀ j, P j = true → first ≤ j ∧ j < first + L ∧ 7 * (B * d) ≤ j ∧ j < 7 * (B * d + min d (W - B * d))) (f : Nat) :
    ∀ b, Once P d f (7 * (b * d)) (W - b * d) := by
  induction f with
  | zero => intro b; trivial
  | succ f ih =>
    intro b
    refine ⟨fun i k k' hi hk hk' h1 h2 => ?_, ?_⟩
    · have p1 := hP _ h1
      have p2 := hP _ h2
      rcases Nat.lt_trichotomy b B with z | z | z
      · have hm : (b + 1) * d ≤ B * d := Nat.mul_le_mul_right d z
        rw [Nat.succ_mul] at hm
        have hk2 : k * min d (W - b * d) ≤ 6 * min d (W - b * d) := Nat.mul_le_mul_right _ (by omega)
        generalize k * min d (W - b * d) = kk at *
        omega
      · subst z
        have hw : ∀ x y : Nat, x < y → ¬ (y * min d (W - b * d) + i < x * min d (W - b * d) + i + L) := fun x y hxy => by
          have : (x + 1) * min d (W - b * d) ≤ y * min d (W - b * d) := Nat.mul_le_mul_right _ hxy
          rw [Nat.succ_mul] at this
          generalize x * min d (W - b * d) = xx at *
          generalize y * min d (W - b * d) = yy at *
          omega
        rcases Nat.lt_trichotomy k k' with y | y | y
        · have := hw k k' y
          generalize k * min d (W - b * d) = xx at *
          generalize k' * min d (W - b * d) = yy at *
          omega
        · exact y
        · have := hw k' k y
          generalize k * min d (W - b * d) = xx at *
          generalize k' * min d (W - b * d) = yy at *
          omega
      · have hm : (B + 1) * d ≤ b * d := Nat.mul_le_mul_right d z
        rw [Nat.succ_mul] at hm
        generalize k * min d (W - b * d) = kk at *
        omega
    · rcases Nat.le_total d (W - b * d) with z | z
      · rw [Nat.min_eq_left z, show 7 * (b * d) + 7 * d = 7 * ((b + 1) * d) by rw [Nat.succ_mul b d]; omega, show W - b * d - d = W - (b + 1) * d by rw [Nat.succ_mul b d]; omega]
        exact ih (b + 1)
      · rw [Nat.min_eq_right z, Nat.sub_self]
        exact Once_zero P d f _
/-- The places of a word that bear a one. -/
def ones (l : List Int) : Nat := l.foldr (fun c n => n + if c = 49 then 1 else 0) 0
theorem ones_append (a b : List Int) : ones (a ++ b) = ones a + ones b := by
  induction a with
  | nil => simp [ones]
  | cons c l ih =>
    have h1 : ones (c :: l ++ b) = ones (l ++ b) + if c = 49 then 1 else 0 := rfl
    have h2 : ones (c :: l) = ones l + if c = 49 then 1 else 0 := rfl
    rw [h1, h2, ih]
    omega
/-- How many ones the words have. -/
def wsum : List Nat → Nat
  | [] => 0
  | x :: l => ones (wordBits x) + wsum l
theorem wsum_append (a b : List Nat) : wsum (a ++ b) = wsum a + wsum b := by
  induction a with
  | nil => simp [wsum]
  | cons c l ih => simp only [List.cons_append, wsum, ih]; omega
theorem wsum_take_drop (d : Nat) (ws : List Nat) : wsum (ws.take d) + wsum (ws.drop d) = wsum ws := by
  rw [← wsum_append, List.take_append_drop]
theorem ones_cols (ws : List Nat) : ones (cols ws 7) = wsum ws := by
  have hc : ∀ k, ones (cols ws (k + 1)) = ones (cols ws k) + ones (colOf ws k) := fun k => by rw [cols_succ, ones_append]
  have h0 : ones (cols ws 0) = 0 := rfl
  rw [hc, hc, hc, hc, hc, hc, hc, h0]
  induction ws with
  | nil => rfl
  | cons x l ih =>
    have hs : ∀ k, ones (colOf (x :: l) k) = ones (colOf l k) + if (wordBits x).getD k 0 = 49 then 1 else 0 := fun k => rfl
    simp only [hs, wsum]
    have hx : ones (wordBits x) = (if (wordBits x).getD 0 0 = 49 then 1 else 0) + (if (wordBits x).getD 1 0 = 49 then 1 else 0) + (if (wordBits x).getD 2 0 = 49 then 1 else 0) + (if (wordBits x).getD 3 0 = 49 then 1 else 0) + (if (wordBits x).getD 4 0 = 49 then 1 else 0) + (if (wordBits x).getD 5 0 = 49 then 1 else 0) + (if (wordBits x).getD 6 0 = 49 then 1 else 0) := by
      have hl := wordBits_length x
      generalize wordBits x = w at hl
      match w, hl with
      | [a, b, c, d, e, f, g], _ => simp [ones]; omega
    have ih2 := ih (fun k => by rw [cols_succ, ones_append]) rfl
    rw [hx, ← ih2]
    generalize (if (wordBits x).getD 0 0 = 49 then 1 else 0) = a0
    generalize (if (wordBits x).getD 1 0 = 49 then 1 else 0) = a1
    generalize (if (wordBits x).getD 2 0 = 49 then 1 else 0) = a2
    generalize (if (wordBits x).getD 3 0 = 49 then 1 else 0) = a3
    generalize (if (wordBits x).getD 4 0 = 49 then 1 else 0) = a4
    generalize (if (wordBits x).getD 5 0 = 49 then 1 else 0) = a5
    generalize (if (wordBits x).getD 6 0 = 49 then 1 else 0) = a6
    omega
theorem ones_blocks (d : Nat) (hd : 1 ≤ d) (f : Nat) : ∀ ws : List Nat, ws.length ≤ f → ones (blocks d f ws) = wsum ws := by
  induction f with
  | zero =>
    intro ws h
    obtain rfl := List.eq_nil_of_length_eq_zero (show ws.length = 0 by omega)
    rfl
  | succ f ih =>
    intro ws h
    rw [blocks]
    by_cases h0 : ws = []
    · rw [if_pos h0, h0]; rfl
    · have hpos := List.length_pos_iff.2 h0
      rw [if_neg h0, ones_append, ones_cols, ih _ (by rw [List.length_drop]; omega), wsum_take_drop]
end Go.Proofs.Ytkdncfbbhbmaaaa.Br
