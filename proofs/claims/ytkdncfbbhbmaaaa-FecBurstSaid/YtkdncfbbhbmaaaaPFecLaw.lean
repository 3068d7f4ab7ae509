/- What Decode tells of an encoded text of which some bits are turned; what bits.Flip does. -/
import Derived.Test.YtkdncfbbhbmaaaaPFecBits
import Derived.Test.YtkdncfbbhbmaaaaKSum
import Derived.Test.YtkdncfbbhbmaaaaKWithin
import Derived.Test.YtkdncfbbhbmaaaaQf29
namespace Go.Proofs.Ytkdncfbbhbmaaaa.Br
open Go.RowKit Go.Proofs.Ytkdncfbbhbmaaaa.Q Go.Proofs.YtkdncfbbhbmaaaaW.PrintWords Go.Proofs.YtkdncfbbhbmaaaaW.PrintLast Go.Proofs.YtkdncfbbhbmaaaaW.PrintMore Go.Proofs.Ytkdncfbbhbmaaaa.Ext Go.Proofs.Ytkdncfbbhbmaaaa.K
set_option linter.unusedVariables false
set_option linter.unusedSimpArgs false
theorem wt_ones (l : List Int) : wt l = ones l := by
  induction l with
  | nil => rfl
  | cons c l ih =>
    have h1 : ones (c :: l) = ones l + if c = 49 then 1 else 0 := rfl
    rw [h1, ← ih]
    by_cases z : c = 49 <;> simp [wt, z]
theorem str_bytes (s : ByteArray) : strOfNums (bytesOf s) = s := by
  apply ByteArray.ext
  apply Array.ext'
  simp [strOfNums, bytesOf, Function.comp_def]
theorem join_nib : ∀ x : Fin 256, wrap64 (wrap64 (16 * ((x.val / 16 : Nat) : Int)) + ((x.val % 16 : Nat) : Int)) % 256 = (x.val : Int) := by decide +kernel
theorem ext_getD {a b : List Int} (h : a.length = b.length) (k : ∀ j, j < a.length → a.getD j 0 = b.getD j 0) : a = b := by
  refine List.ext_getElem h fun j h1 h2 => ?_
  have := k j h1
  rw [List.getD_eq_getElem?_getD, List.getD_eq_getElem?_getD, List.getElem?_eq_getElem h1, List.getElem?_eq_getElem h2] at this
  exact this
theorem nibs_get (s : ByteArray) (n : Nat) : ∀ i, i < n → (nibs s n).getD (2 * i) 0 = (bt s (i : Int)).toNat / 16 ∧ (nibs s n).getD (2 * i + 1) 0 = (bt s (i : Int)).toNat % 16 := by
  induction n with
  | zero => intro i h; omega
  | succ n ih =>
    intro i h
    rw [nibs_succ]
    have hl := nibs_length s n
    rcases Nat.lt_or_ge i n with z | z
    · have := ih i z
      rw [List.getD_eq_getElem?_getD, List.getD_eq_getElem?_getD, List.getElem?_append_left (by omega), List.getElem?_append_left (by omega), ← List.getD_eq_getElem?_getD, ← List.getD_eq_getElem?_getD]
      exact this
    · obtain rfl : i = n := by omega
      rw [List.getD_eq_getElem?_getD, List.getD_eq_getElem?_getD, List.getElem?_append_right (by omega), List.getElem?_append_right (by omega), hl, Nat.sub_self, show 2 * i + 1 - 2 * i = 1 by omega]
      exact ⟨rfl, rfl⟩
theorem nibs_lt (s : ByteArray) (n : Nat) : ∀ x ∈ nibs s n, x < 16 := by
  intro x hx
  unfold nibs at hx
  obtain ⟨i, _, hi⟩ := List.mem_flatMap.1 hx
  have hr := bt_range s (i : Int)
  simp only [List.mem_cons, List.not_mem_nil, or_false] at hi
  rcases hi with z | z <;> omega
theorem rd_cast (ws : List Nat) (i : Nat) : rd (ws.map fun x : Nat => (x : Int)) (i : Int) = ((ws.getD i 0 : Nat) : Int) := by
  unfold rd
  rw [Int.toNat_natCast, List.getD_eq_getElem?_getD, List.getD_eq_getElem?_getD, List.getElem?_map]
  cases ws[i]? <;> rfl
theorem cols_bin (ws : List Nat) (h : ∀ x ∈ ws, x < 16) (k : Nat) : k ≤ 7 → Bin (cols ws k) := by
  induction k with
  | zero => intro _ c hc; simp [cols] at hc
  | succ k ih =>
    intro hk c hc
    rw [cols_succ] at hc
    rcases List.mem_append.1 hc with z | z
    · exact ih (by omega) c z
    · unfold colOf at z
      obtain ⟨x, hx, rfl⟩ := List.mem_map.1 z
      exact bits_01 ⟨x, h x hx⟩ ⟨k, by omega⟩
theorem blocks_bin (d f : Nat) : ∀ ws : List Nat, (∀ x ∈ ws, x < 16) → Bin (blocks d f ws) := by
  induction f with
  | zero => intro ws _ c hc; simp [blocks] at hc
  | succ f ih =>
    intro ws h c hc
    rw [blocks] at hc
    by_cases h0 : ws = []
    · rw [if_pos h0] at hc; simp at hc
    · rw [if_neg h0] at hc
      rcases List.mem_append.1 hc with z | z
      · exact cols_bin _ (fun x hx => h x (List.mem_of_mem_take hx)) 7 (Nat.le_refl _) c z
      · exact ih _ (fun x hx => h x (List.mem_of_mem_drop hx)) c z
theorem fl_bin (P : Nat → Bool) (l : List Int) : ∀ o, Bin l → Bin (fl P o l) := by
  induction l with
  | nil => intro o _ c hc; simp [fl] at hc
  | cons a l ih =>
    intro o h c hc
    rw [fl] at hc
    rcases List.mem_cons.1 hc with z | z
    · have := h a (by simp)
      split at z <;> omega
    · exact ih (o + 1) (fun x hx => h x (List.mem_cons_of_mem _ hx)) c z
theorem fl_none (l : List Int) : ∀ o, fl (fun _ => false) o l = l := by
  induction l with
  | nil => intro o; rfl
  | cons a l ih => intro o; simp [fl, ih]
/-- The bits that Encode tells of a text. -/
def encB (d : Nat) (s : ByteArray) : List Int := blocks d (2 * s.size) (nibs s s.size)
theorem encB_length (d : Nat) (hd : 1 ≤ d) (s : ByteArray) : (encB d s).length = 14 * s.size := by
  unfold encB
  rw [blocks_length d hd _ _ (by rw [nibs_length]; exact Nat.le_refl _), nibs_length]
  omega
theorem encB_bin (d : Nat) (s : ByteArray) : Bin (encB d s) := blocks_bin d _ _ (nibs_lt s s.size)
theorem encB_ones (d : Nat) (hd : 1 ≤ d) (s : ByteArray) : ones (encB d s) = wsum (nibs s s.size) := ones_blocks d hd _ _ (by rw [nibs_length]; exact Nat.le_refl _)
theorem encode_eq (s : ByteArray) (hs : s.size ≤ 512) (d : Nat) (h1 : 1 ≤ d) (h2 : d ≤ 64) : Ext.fec_Encode.f s (d : Int) = some (strOfNums (encB d s), 0) := by
  unfold Ext.fec_Encode.f encB
  rw [if_neg (by omega), if_neg (by omega), if_neg (by omega), Int.toNat_natCast]
theorem decode_fl (s : ByteArray) (hs : s.size ≤ 300) (d : Nat) (h1 : 1 ≤ d) (h2 : d ≤ 64) (P : Nat → Bool) (ho : Once P d (2 * s.size) 0 (2 * s.size)) :
    Ev (fun k => fec_Decode.f k (strOfNums (fl P 0 (encB d s))) (d : Int)) (s, ((sumN (fun j => on P j) (14 * s.size) : Nat) : Int), 0) := by
  have hn := nibs_length s s.size
  have hlen : (fl P 0 (encB d s)).length = 14 * s.size := by rw [fl_length, encB_length d h1]
  have hdec := dec_blocks P d h1 (2 * s.size) 0 (nibs s s.size) (by omega) (nibs_lt s s.size) (by rw [hn]; exact ho)
  have hcnt := cnt_sum P d h1 (2 * s.size) 0 (nibs s s.size) (by omega) (by rw [hn]; exact ho)
  have hsum : cnt P d (2 * s.size) 0 (nibs s s.size) = sumN (fun j => on P j) (14 * s.size) := by
    rw [hcnt, hn, show 7 * (2 * s.size) = 14 * s.size by omega]
    exact sumN_congr _ fun j _ => by rw [Nat.zero_add]
  rw [hsum] at hdec
  have hle : ∀ N, sumN (fun j => on P j) N ≤ N := fun N => by
    induction N with
    | zero => exact Nat.le_refl _
    | succ N ih =>
      have : on P N ≤ 1 := by unfold on; split <;> omega
      simp only [sumN]
      omega
  have hTl := bytesOf_length s
  obtain ⟨k, hk⟩ := decode_dec d ⟨h1, h2⟩ (strOfNums (fl P 0 (encB d s))) (bytesOf s) _ _ (by rw [size_str, hlen]; omega) (by rw [size_str, hlen]; omega)
    (good_eq _ (fl_bin P _ 0 (encB_bin d s)) (by rw [hlen]; omega)) hdec (by rw [List.length_map, hn, hTl]) (by omega) (by have := hle (14 * s.size); omega)
    (fun i hi => by
      rw [hTl] at hi
      obtain ⟨g1, g2⟩ := nibs_get s s.size i hi
      have hr := bt_range s (i : Int)
      have hb : (bytesOf s).getD i 0 = bt s (i : Int) := rd_bytesOf s (i : Int)
      obtain ⟨x, hx⟩ : ∃ x : Nat, bt s (i : Int) = (x : Int) := ⟨(bt s (i : Int)).toNat, by omega⟩
      have hj := join_nib ⟨x, by omega⟩
      rw [rd_cast, rd_cast, g1, g2, hb, hx]
      exact hj)
  rw [str_bytes] at hk
  exact Ev.of (fun k => fec_Decode.mono _ _ k) hk
/-! ### bits.Flip -/
theorem xor_one (c : Int) (h : c = 48 ∨ c = 49) : Go.bits .xor .u8 c 1 = 97 - c := by
  rcases h with rfl | rfl <;> decide +kernel
theorem take_set_drop (l : List Int) (i : Nat) (x : Int) (h : i < l.length) : l.set i x = l.take i ++ [x] ++ l.drop (i + 1) := by
  rw [List.set_eq_take_append_cons_drop, if_pos h]
  simp
theorem str_append (a b : List Int) : strOfNums (a ++ b) = strOfNums a ++ strOfNums b := by
  apply ByteArray.ext
  apply Array.ext'
  simp [strOfNums]
theorem take_str (l : List Int) (n : Nat) : (strOfNums l).extract 0 n = strOfNums (l.take n) := by
  apply ByteArray.ext
  apply Array.ext'
  simp [strOfNums, ByteArray.data_extract, List.map_take]
theorem flip_eq (l : List Int) (h : Bin l) (hl : l.length ≤ 100000) (i : Nat) (hi : i < l.length) : bits_Flip.f (strOfNums l) (i : Int) = some (strOfNums (l.set i (97 - l.getD i 0))) := by
  have hb := bin_getD h i hi
  have hbt := bt_str l i hi (by omega) (by omega)
  have hw : wrap64 ((i : Int) + 1) = ((i + 1 : Nat) : Int) := by unfold wrap64; omega
  have e : ∀ x : Int, (strOfNums l).extract 0 i ++ strOfNums [x] ++ (strOfNums l).extract (i + 1) (strOfNums l).size = strOfNums (l.set i x) := fun x => by
    rw [take_str, extract_str l (i + 1) (by omega), take_set_drop l i x hi, str_append, str_append]
  unfold bits_Flip.f
  rw [if_neg (by omega), if_neg (by rw [size_str]; omega), if_pos (by omega), if_pos (by rw [size_str]; omega), hbt, xor_one _ hb, hw]
  simp only [Option.bind_some, Int.toNat_natCast]
  have c1 : (i : Int) ≤ ((strOfNums l).size : Int) := by rw [size_str]; omega
  have c2 : ((strOfNums l).extract 0 i).size + (strOfNums [97 - l.getD i 0]).size ≤ 9223372036854775807 := by rw [take_str, size_str, size_str, List.length_take]; simp only [List.length_singleton]; omega
  have c3 : (0 : Int) ≤ ((i + 1 : Nat) : Int) := by omega
  have c4 : ((i + 1 : Nat) : Int) ≤ ((strOfNums l).size : Int) := by rw [size_str]; omega
  have c5 : ((strOfNums l).extract 0 i ++ strOfNums [97 - l.getD i 0]).size + ((strOfNums l).extract (i + 1) (strOfNums l).size).size ≤ 9223372036854775807 := by rw [take_str, ← str_append, extract_str l (i + 1) (by omega), size_str, size_str, List.length_append, List.length_take, List.length_drop]; simp only [List.length_singleton]; omega
  rcases hb with z | z
  · rw [if_pos z, if_pos c1, if_pos c2, if_pos c3, if_pos c4, if_pos c5, e]
  · rw [if_neg (by omega), if_pos z, if_pos c1, if_pos c2, if_pos c3, if_pos c4, if_pos c5, e]
theorem fl_more (P : Nat → Bool) (l : List Int) (i : Nat) (hi : i < l.length) (hp : P i = false) : (fl P 0 l).set i (97 - (fl P 0 l).getD i 0) = fl (fun j => P j || decide (j = i)) 0 l := by
  refine ext_getD (by rw [List.length_set, fl_length, fl_length]) fun j hj => ?_
  rw [List.length_set, fl_length] at hj
  rw [fl_getD _ l 0 j hj, Nat.zero_add, List.getD_eq_getElem?_getD, List.getElem?_set]
  by_cases e : i = j
  · subst e
    rw [if_pos rfl, if_pos (by rw [fl_length]; exact hi), Option.getD_some, fl_getD P l 0 i hi, Nat.zero_add, hp]
    simp
  · rw [if_neg e, ← List.getD_eq_getElem?_getD, fl_getD P l 0 j hj, Nat.zero_add, decide_eq_false (fun q => e q.symm), Bool.or_false]
theorem sum_ind (i N : Nat) : sumN (fun j => if j = i then 1 else 0) N = if i < N then 1 else 0 := by
  induction N with
  | zero => rfl
  | succ N ih =>
    simp only [sumN, ih]
    rcases Nat.lt_trichotomy i N with z | z | z
    · rw [if_pos z, if_neg (by omega), if_pos (by omega)]
    · rw [if_neg (by omega), if_pos z.symm, if_pos (by omega)]
    · rw [if_neg (by omega), if_neg (by omega), if_neg (by omega)]
theorem sum_more (P : Nat → Bool) (i N : Nat) (hi : i < N) (hp : P i = false) : sumN (fun j => on (fun j => P j || decide (j = i)) j) N = sumN (fun j => on P j) N + 1 := by
  have h : ∀ j, j < N → on (fun j => P j || decide (j = i)) j = on P j + if j = i then 1 else 0 := fun j _ => by
    unfold on
    by_cases e : j = i
    · subst e; simp [hp]
    · simp [e]
  rw [sumN_congr N h, sumN_add, sum_ind, if_pos hi]
/-- The places from first to i that the text names. -/
def PB (ch : ByteArray) (first i : Nat) (j : Nat) : Bool := decide (first ≤ j) && decide (j < i) && decide (j - first < ch.size) && decide (Go.bits .and .u8 (bt ch ((j - first : Nat) : Int)) 1 = 1)
theorem PB_start (ch : ByteArray) (first : Nat) : PB ch first first = fun _ => false := by
  funext j
  unfold PB
  by_cases z : first ≤ j
  · rw [decide_eq_false (show ¬ j < first by omega)]; simp
  · rw [decide_eq_false z]; simp
theorem PB_yes (ch : ByteArray) (first i : Nat) (hf : first ≤ i) (h1 : i - first < ch.size) (h2 : Go.bits .and .u8 (bt ch ((i - first : Nat) : Int)) 1 = 1) : PB ch first (i + 1) = fun j => PB ch first i j || decide (j = i) := by
  funext j
  unfold PB
  by_cases e : j = i
  · subst e; simp [hf, h1, h2]
  · have : decide (j < i + 1) = decide (j < i) := by
      by_cases z : j < i
      · rw [decide_eq_true z, decide_eq_true (by omega)]
      · rw [decide_eq_false z, decide_eq_false (by omega)]
    rw [this, decide_eq_false e, Bool.or_false]
theorem PB_no (ch : ByteArray) (first i : Nat) (h : ¬ (i - first < ch.size ∧ Go.bits .and .u8 (bt ch ((i - first : Nat) : Int)) 1 = 1)) : PB ch first (i + 1) = PB ch first i := by
  funext j
  unfold PB
  by_cases e : j = i
  · subst e
    rw [Bool.and_assoc, Bool.and_assoc (decide (first ≤ j) && decide (j < j))]
    have : (decide (j - first < ch.size) && decide (Go.bits .and .u8 (bt ch ((j - first : Nat) : Int)) 1 = 1)) = false := by
      rw [← Bool.decide_and]
      exact decide_eq_false h
    rw [this, Bool.and_false, Bool.and_false]
  · have : decide (j < i + 1) = decide (j < i) := by
      by_cases z : j < i
      · rw [decide_eq_true z, decide_eq_true (by omega)]
      · rw [decide_eq_false z, decide_eq_false (by omega)]
    rw [this]
theorem PB_at (ch : ByteArray) (first i : Nat) : PB ch first i i = false := by
  unfold PB
  simp
theorem PB_in {ch : ByteArray} {first i j : Nat} (h : PB ch first i j = true) : first ≤ j ∧ j < i := by
  unfold PB at h
  simp only [Bool.and_eq_true, decide_eq_true_eq] at h
  exact ⟨h.1.1.1, h.1.1.2⟩
end Go.Proofs.Ytkdncfbbhbmaaaa.Br
