/- Blocks of code words with some bits turned: what each word reads. -/
import Derived.Test.YtkdncfbbhbmaaaaPFecDec
namespace Go.Proofs.Ytkdncfbbhbmaaaa.Br
open Go.RowKit Go.Proofs.Ytkdncfbbhbmaaaa.Q Go.Proofs.YtkdncfbbhbmaaaaW.PrintWords Go.Proofs.YtkdncfbbhbmaaaaW.PrintLast Go.Proofs.YtkdncfbbhbmaaaaW.PrintMore Go.Proofs.Ytkdncfbbhbmaaaa.Ext
/-- The characters with those turned that P names. -/
def fl (P : Nat → Bool) : Nat → List Int → List Int
  | _, [] => []
  | o, c :: l => (if P o then 97 - c else c) :: fl P (o + 1) l
theorem fl_length (P : Nat → Bool) (l : List Int) : ∀ o, (fl P o l).length = l.length := by
  induction l with
  | nil => intro o; rfl
  | cons c l ih => intro o; simp [fl, ih]
theorem fl_append (P : Nat → Bool) (a b : List Int) : ∀ o, fl P o (a ++ b) = fl P o a ++ fl P (o + a.length) b := by
  induction a with
  | nil => intro o; rfl
  | cons c l ih => intro o; simp only [List.cons_append, fl, ih, List.length_cons]; rw [show o + 1 + l.length = o + (l.length + 1) by omega]
theorem fl_getD (P : Nat → Bool) (l : List Int) : ∀ o i, i < l.length → (fl P o l).getD i 0 = if P (o + i) then 97 - l.getD i 0 else l.getD i 0 := by
  induction l with
  | nil => intro o i h; simp at h
  | cons c l ih =>
    intro o i h
    cases i with
    | zero => simp [fl]
    | succ i =>
      simp only [fl, List.getD_cons_succ]
      rw [ih (o + 1) i (by simpa using h), show o + 1 + i = o + (i + 1) by omega]
theorem cols_getD (ws : List Nat) (m : Nat) : ∀ k i, k < m → i < ws.length → (cols ws m).getD (k * ws.length + i) 0 = (wordBits (ws.getD i 0)).getD k 0 := by
  induction m with
  | zero => intro k i h; omega
  | succ m ih =>
    intro k i hk hi
    rw [cols_succ, List.getD_eq_getElem?_getD]
    by_cases h : k < m
    · have h1 : k * ws.length + i < (cols ws m).length := by
        rw [cols_length]
        have : (k + 1) * ws.length ≤ m * ws.length := Nat.mul_le_mul_right _ h
        rw [Nat.succ_mul] at this
        omega
      rw [List.getElem?_append_left h1, ← List.getD_eq_getElem?_getD]
      exact ih k i h hi
    · obtain rfl : k = m := by omega
      rw [List.getElem?_append_right (by rw [cols_length]; omega), cols_length, Nat.add_sub_cancel_left]
      simp [colOf, List.getElem?_map, List.getElem?_eq_getElem hi, List.getD_eq_getElem?_getD]
theorem size_str (l : List Int) : (strOfNums l).size = l.length := by simp [strOfNums, ByteArray.size]
theorem bt_str (l : List Int) (i : Nat) (h : i < l.length) (h0 : 0 ≤ l.getD i 0) (h1 : l.getD i 0 < 256) : bt (strOfNums l) (i : Int) = l.getD i 0 := by
  have hs := size_str l
  unfold bt
  rw [dif_pos (by rw [Int.toNat_natCast, hs]; exact h)]
  have e : ((strOfNums l)[(i : Int).toNat]'(by rw [Int.toNat_natCast, hs]; exact h)) = UInt8.ofNat (l.getD i 0).toNat := by
    simp [strOfNums, ByteArray.getElem_eq_getElem_data, List.getD_eq_getElem?_getD, List.getElem?_eq_getElem h]
  rw [e, UInt8.toNat_ofNat', Nat.mod_eq_of_lt (by omega)]
  omega
theorem extract_str (l : List Int) (n : Nat) (_h : n ≤ l.length) : (strOfNums l).extract n (strOfNums l).size = strOfNums (l.drop n) := by
  rw [size_str]
  apply ByteArray.ext
  apply Array.ext'
  simp [strOfNums, ByteArray.data_extract, List.map_drop]
  exact List.take_of_length_le (by simp)
theorem bits_01 : ∀ x : Fin 16, ∀ k : Fin 7, (wordBits x.val).getD k.val 0 = 48 ∨ (wordBits x.val).getD k.val 0 = 49 := by decide +kernel
/-- Which of the seven places is turned (one more than its number; none: 0). -/
def hitW (p : Nat → Bool) : Nat := if p 0 then 1 else if p 1 then 2 else if p 2 then 3 else if p 3 then 4 else if p 4 then 5 else if p 5 then 6 else if p 6 then 7 else 0
theorem hitW_le (p : Nat → Bool) : hitW p ≤ 7 := by
  unfold hitW
  repeat (split; · omega)
  omega
theorem hitW_true (p : Nat → Bool) (a : Nat) (h : hitW p = a + 1) : p a = true := by
  unfold hitW at h
  by_cases h0 : p 0 = true
  · rw [if_pos h0] at h
    obtain rfl : a = 0 := by omega
    exact h0
  rw [if_neg h0] at h
  by_cases h1 : p 1 = true
  · rw [if_pos h1] at h
    obtain rfl : a = 1 := by omega
    exact h1
  rw [if_neg h1] at h
  by_cases h2 : p 2 = true
  · rw [if_pos h2] at h
    obtain rfl : a = 2 := by omega
    exact h2
  rw [if_neg h2] at h
  by_cases h3 : p 3 = true
  · rw [if_pos h3] at h
    obtain rfl : a = 3 := by omega
    exact h3
  rw [if_neg h3] at h
  by_cases h4 : p 4 = true
  · rw [if_pos h4] at h
    obtain rfl : a = 4 := by omega
    exact h4
  rw [if_neg h4] at h
  by_cases h5 : p 5 = true
  · rw [if_pos h5] at h
    obtain rfl : a = 5 := by omega
    exact h5
  rw [if_neg h5] at h
  by_cases h6 : p 6 = true
  · rw [if_pos h6] at h
    obtain rfl : a = 6 := by omega
    exact h6
  rw [if_neg h6] at h
  omega
theorem hitW_iff (p : Nat → Bool) (h : ∀ k k', k < 7 → k' < 7 → p k = true → p k' = true → k = k') (k : Nat) (hk : k < 7) : p k = decide (k + 1 = hitW p) := by
  have hx : ∀ a, a < 7 → p a = true → hitW p = a + 1 := by
    intro a ha hp
    have hn : ∀ b, b < 7 → b ≠ a → p b = false := fun b hb hne => by
      cases hpb : p b with
      | false => rfl
      | true => exact absurd (h b a hb ha hpb hp) hne
    unfold hitW
    match a, ha with
    | 0, _ => simp [hp]
    | 1, _ => simp [hp, hn 0 (by omega) (by omega)]
    | 2, _ => simp [hp, hn 0 (by omega) (by omega), hn 1 (by omega) (by omega)]
    | 3, _ => simp [hp, hn 0 (by omega) (by omega), hn 1 (by omega) (by omega), hn 2 (by omega) (by omega)]
    | 4, _ => simp [hp, hn 0 (by omega) (by omega), hn 1 (by omega) (by omega), hn 2 (by omega) (by omega), hn 3 (by omega) (by omega)]
    | 5, _ => simp [hp, hn 0 (by omega) (by omega), hn 1 (by omega) (by omega), hn 2 (by omega) (by omega), hn 3 (by omega) (by omega), hn 4 (by omega) (by omega)]
    | 6, _ => simp [hp, hn 0 (by omega) (by omega), hn 1 (by omega) (by omega), hn 2 (by omega) (by omega), hn 3 (by omega) (by omega), hn 4 (by omega) (by omega), hn 5 (by omega) (by omega)]
    | n + 7, h => omega
  cases hpk : p k with
  | true => rw [hx k hk hpk]; simp
  | false =>
    by_cases e : hitW p = k + 1
    · rw [hitW_true p k e] at hpk
      cases hpk
    · exact (decide_eq_false (fun z => e z.symm)).symm
def flipW (x j : Nat) : List Int := (List.range 7).map fun k => if k + 1 = j then 97 - (wordBits x).getD k 0 else (wordBits x).getD k 0
theorem fix_flip : ∀ x : Fin 16, ∀ j : Fin 8, fec_fix.f 40 (flipW x.val j.val) = some ((x.val : Int), (j.val : Int)) := by decide +kernel
theorem wordBits_length (x : Nat) : (wordBits x).length = 7 := rfl
/-- Each word has at most one turned bit, block by block. -/
def Once (P : Nat → Bool) (d : Nat) : Nat → Nat → Nat → Prop
  | 0, _, _ => True
  | f + 1, o, m => (∀ i k k', i < min d m → k < 7 → k' < 7 → P (o + (k * min d m + i)) = true → P (o + (k' * min d m + i)) = true → k = k') ∧ Once P d f (o + 7 * min d m) (m - min d m)
/-- How many words have a turned bit. -/
def cnt (P : Nat → Bool) (d : Nat) : Nat → Nat → List Nat → Nat
  | 0, _, _ => 0
  | f + 1, o, ws => if ws = [] then 0 else hits (fun i => (ws.getD i 0, hitW fun k => P (o + (k * min d ws.length + i)))) 0 (min d ws.length) + cnt P d f (o + 7 * min d ws.length) (ws.drop d)
theorem vals_take (g : Nat → Nat) (ws : List Nat) (n : Nat) : ∀ i, i + n ≤ ws.length → vals (fun t => (ws.getD t 0, g t)) i n = ((ws.drop i).take n).map fun x : Nat => (x : Int) := by
  induction n with
  | zero => intro i h; simp [vals]
  | succ n ih =>
    intro i h
    rw [List.drop_eq_getElem_cons (show i < ws.length by omega), List.take_succ_cons, List.map_cons]
    simp only [vals]
    rw [ih (i + 1) (by omega)]
    simp [List.getD_eq_getElem?_getD, List.getElem?_eq_getElem (show i < ws.length by omega)]
theorem cols_take_length (ws : List Nat) (d : Nat) : (cols (ws.take d) 7).length = 7 * min d ws.length := by rw [cols_length, List.length_take]
theorem colW_fl (P : Nat → Bool) (o : Nat) (blk : List Nat) (rest : List Int) (i : Nat) (hi : i < blk.length) (hx : ∀ x ∈ blk, x < 16) (h : ∀ k k', k < 7 → k' < 7 → P (o + (k * blk.length + i)) = true → P (o + (k' * blk.length + i)) = true → k = k') :
    colW (strOfNums (fl P o (cols blk 7 ++ rest))) blk.length i = flipW (blk.getD i 0) (hitW fun k => P (o + (k * blk.length + i))) := by
  have hxi : blk.getD i 0 < 16 := by
    rw [List.getD_eq_getElem?_getD, List.getElem?_eq_getElem hi]
    exact hx _ (List.getElem_mem hi)
  unfold colW flipW
  apply List.map_congr_left
  intro k hk
  have hk7 : k < 7 := List.mem_range.1 hk
  have hle : k * blk.length ≤ 6 * blk.length := Nat.mul_le_mul_right _ (by omega)
  have hlt : k * blk.length + i < (cols blk 7).length := by rw [cols_length]; generalize k * blk.length = m at hle; omega
  have hlt2 : k * blk.length + i < (cols blk 7 ++ rest).length := by rw [List.length_append]; omega
  have hc : (cols blk 7 ++ rest).getD (k * blk.length + i) 0 = (wordBits (blk.getD i 0)).getD k 0 := by
    rw [List.getD_eq_getElem?_getD, List.getElem?_append_left hlt, ← List.getD_eq_getElem?_getD]
    exact cols_getD blk 7 k i hk7 hi
  have hg := fl_getD P (cols blk 7 ++ rest) o (k * blk.length + i) hlt2
  rw [hc] at hg
  have hb := bits_01 ⟨blk.getD i 0, hxi⟩ ⟨k, hk7⟩
  simp only at hb
  have hp := hitW_iff (fun k => P (o + (k * blk.length + i))) h k hk7
  rw [bt_str _ _ (by rw [fl_length]; exact hlt2) (by rw [hg]; split <;> omega) (by rw [hg]; split <;> omega), hg]
  have hq : (P (o + (k * blk.length + i)) = true) ↔ (k + 1 = hitW fun k => P (o + (k * blk.length + i))) := by
    rw [show P (o + (k * blk.length + i)) = decide (k + 1 = hitW fun k => P (o + (k * blk.length + i))) from hp]
    exact decide_eq_true_iff
  by_cases z : k + 1 = hitW fun k => P (o + (k * blk.length + i))
  · rw [if_pos z, if_pos (hq.2 z)]
  · rw [if_neg z, if_neg (fun y => z (hq.1 y))]
theorem blocks_length (d : Nat) (hd : 1 ≤ d) (f : Nat) : ∀ ws : List Nat, ws.length ≤ f → (blocks d f ws).length = 7 * ws.length := by
  induction f with
  | zero =>
    intro ws h
    obtain rfl := List.eq_nil_of_length_eq_zero (show ws.length = 0 by omega)
    rfl
  | succ f ih =>
    intro ws h
    rw [blocks]
    by_cases h0 : ws = []
    · rw [if_pos h0, h0]; rfl
    · rw [if_neg h0, List.length_append, cols_take_length, ih _ (by rw [List.length_drop]; have := List.length_pos_iff.2 h0; omega), List.length_drop]
      omega
theorem dec_blocks (P : Nat → Bool) (d : Nat) (hd : 1 ≤ d) (f : Nat) : ∀ (o : Nat) (ws : List Nat), ws.length ≤ f → (∀ x ∈ ws, x < 16) → Once P d f o ws.length →
    Dec d (strOfNums (fl P o (blocks d f ws))) (ws.map fun x : Nat => (x : Int)) (cnt P d f o ws) := by
  induction f with
  | zero =>
    intro o ws h _ _
    obtain rfl := List.eq_nil_of_length_eq_zero (show ws.length = 0 by omega)
    exact Dec.nil _ rfl
  | succ f ih =>
    intro o ws h hx ho
    by_cases h0 : ws = []
    · subst h0
      simp only [blocks, cnt, if_pos]
      exact Dec.nil _ rfl
    · have hpos := List.length_pos_iff.2 h0
      have hlt : (ws.take d).length = min d ws.length := List.length_take
      have hlb : (fl P o (blocks d (f + 1) ws)).length = 7 * ws.length := by rw [fl_length, blocks_length d hd (f + 1) ws h]
      have hb : blocks d (f + 1) ws = cols (ws.take d) 7 ++ blocks d f (ws.drop d) := by rw [blocks, if_neg h0]
      have hrec := ih (o + 7 * min d ws.length) (ws.drop d) (by rw [List.length_drop]; omega) (fun x hm => hx x (List.mem_of_mem_drop hm)) (by
        have h2 := ho.2
        rw [show (ws.drop d).length = ws.length - min d ws.length by rw [List.length_drop]; omega]
        exact h2)
      have hex : (strOfNums (fl P o (blocks d (f + 1) ws))).extract (7 * min d ws.length) (strOfNums (fl P o (blocks d (f + 1) ws))).size = strOfNums (fl P (o + 7 * min d ws.length) (blocks d f (ws.drop d))) := by
        rw [extract_str _ _ (by rw [hlb]; omega), hb, fl_append, cols_take_length, List.drop_append, List.drop_eq_nil_of_le (by rw [fl_length, cols_take_length]; exact Nat.le_refl _), List.nil_append, fl_length, cols_take_length, Nat.sub_self, List.drop_zero]
      have hv : (ws.map fun x : Nat => (x : Int)) = vals (fun i => (ws.getD i 0, hitW fun k => P (o + (k * min d ws.length + i)))) 0 (min d ws.length) ++ (ws.drop d).map fun x : Nat => (x : Int) := by
        rw [vals_take _ ws (min d ws.length) 0 (by omega), List.drop_zero, ← List.map_append]
        congr 1
        rcases Nat.le_total d ws.length with z | z
        · rw [Nat.min_eq_left z, List.take_append_drop]
        · rw [Nat.min_eq_right z, List.take_of_length_le (Nat.le_refl _), List.drop_eq_nil_of_le z, List.append_nil]
      rw [hv, cnt, if_neg h0]
      have hsz : (strOfNums (fl P o (blocks d (f + 1) ws))).size = 7 * ws.length := by rw [size_str, hlb]
      refine Dec.cons _ (min d ws.length) _ _ _ (by omega) (by rw [hsz]; omega) (by rw [hsz]; omega) ?_ (hex ▸ hrec)
      intro i hi
      have hw := colW_fl P o (ws.take d) (blocks d f (ws.drop d)) i (by rw [hlt]; exact hi) (fun x hm => hx x (List.mem_of_mem_take hm)) (by rw [hlt]; exact fun k k' => ho.1 i k k' hi)
      rw [hlt, ← hb] at hw
      have hgd : (ws.take d).getD i 0 = ws.getD i 0 := by
        rw [List.getD_eq_getElem?_getD, List.getD_eq_getElem?_getD, List.getElem?_take, if_pos (by omega)]
      rw [hgd] at hw
      rw [hw]
      have hxi : ws.getD i 0 < 16 := by
        rw [List.getD_eq_getElem?_getD, List.getElem?_eq_getElem (show i < ws.length by omega)]
        exact hx _ (List.getElem_mem _)
      exact fix_flip ⟨ws.getD i 0, hxi⟩ ⟨hitW fun k => P (o + (k * min d ws.length + i)), Nat.lt_succ_of_le (hitW_le _)⟩
end Go.Proofs.Ytkdncfbbhbmaaaa.Br
