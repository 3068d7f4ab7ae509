/- What fec.Decode answers: the words of each block, by columns, each corrected. -/
import Derived.Test.YtkdncfbbhbmaaaaQf56
import Derived.Test.YtkdncfbbhbmaaaaHEnc
namespace Go.Proofs.Ytkdncfbbhbmaaaa.Br
open Go.RowKit Go.Proofs.Ytkdncfbbhbmaaaa.Q Go.Proofs.YtkdncfbbhbmaaaaW.PrintWords Go.Proofs.YtkdncfbbhbmaaaaW.PrintLast Go.Proofs.YtkdncfbbhbmaaaaW.PrintMore
set_option linter.unusedVariables false
set_option linter.unusedSimpArgs false
theorem fix_ok : ∀ x : Fin 16, fec_fix.f 40 (Ext.wordBits x.val) = some ((x.val : Int), 0) := by decide +kernel
theorem fix_one : ∀ x : Fin 16, ∀ p : Fin 7, fec_fix.f 40 ((Ext.wordBits x.val).set p.val (97 - (Ext.wordBits x.val).getD p.val 0)) = some ((x.val : Int), (p.val : Int) + 1) := by decide +kernel
/-- Word i of a block of n words. -/
def colW (b : ByteArray) (n i : Nat) : List Int := (List.range 7).map fun k : Nat => bt b ((k * n + i : Nat) : Int)
theorem colW_eq (b : ByteArray) (n i : Nat) : colW b n i = [bt b ((0 * n + i : Nat) : Int), bt b ((1 * n + i : Nat) : Int), bt b ((2 * n + i : Nat) : Int), bt b ((3 * n + i : Nat) : Int), bt b ((4 * n + i : Nat) : Int), bt b ((5 * n + i : Nat) : Int), bt b ((6 * n + i : Nat) : Int)] := rfl
theorem l2_step (F : Nat) (b : ByteArray) (d : Int) (v : List Int) (c : Int) (n i : Nat) (W : List Int) (k : Nat) (hk : k < 7) (hn : n ≤ 64) (hb : 7 * n ≤ b.size) (hi : i < n) (hW : W.length = 7) :
    fec_Decode.l2 (F + 1) b d v c (n : Int) (i : Int) W (n : Int) (i : Int) 7 (k : Int) = fec_Decode.l2 F b d v c (n : Int) (i : Int) (W.set k (bt b ((k * n + i : Nat) : Int))) (n : Int) (i : Int) 7 ((k + 1 : Nat) : Int) := by
  have h0 : k * n ≤ 6 * n := Nat.mul_le_mul_right _ (by omega)
  have h1 : wrap64 ((k : Int) * (n : Int)) = ((k * n : Nat) : Int) := by
    rw [← Int.natCast_mul]
    generalize k * n = m at h0
    unfold wrap64
    omega
  have h2 : wrap64 (((k * n : Nat) : Int) + (i : Int)) = ((k * n + i : Nat) : Int) := by
    generalize k * n = m at h0
    unfold wrap64
    omega
  have h3 : wrap64 ((k : Int) + 1) = ((k + 1 : Nat) : Int) := by unfold wrap64; omega
  have h4 : k * n + i < b.size := by
    generalize k * n = m at h0
    omega
  simp only [fec_Decode.l2]
  rw [if_pos (by omega), h1, h2, if_pos (by omega), if_pos (by omega), if_pos (by omega), if_pos (by omega), h3, Int.toNat_natCast]
theorem l2_all (F : Nat) (b : ByteArray) (d : Int) (v : List Int) (c : Int) (n i : Nat) (hn : n ≤ 64) (hb : 7 * n ≤ b.size) (hi : i < n) :
    fec_Decode.l2 (F + 8) b d v c (n : Int) (i : Int) (List.replicate 7 0) (n : Int) (i : Int) ((List.replicate 7 (0 : Int)).length : Int) 0 = (fec_fix.f F (colW b n i)).bind fun bt585 => (if bt585.2 > 0 then (if v.length < 17592186044416 then (fec_Decode.l1 F b d (v ++ [bt585.1]) (wrap64 (c + 1)) n n (wrap64 (i + 1))) else (none)) else (if v.length < 17592186044416 then (fec_Decode.l1 F b d (v ++ [bt585.1]) c n n (wrap64 (i + 1))) else (none))) := by
  have s0 := l2_step (F + 7) b d v c n i (List.replicate 7 0) 0 (by omega) hn hb hi (by decide)
  rw [show ((List.replicate 7 (0 : Int)).length : Int) = 7 from by decide]
  refine s0.trans ?_
  rw [l2_step (F + 6) b d v c n i _ 1 (by omega) hn hb hi (by simp), l2_step (F + 5) b d v c n i _ 2 (by omega) hn hb hi (by simp), l2_step (F + 4) b d v c n i _ 3 (by omega) hn hb hi (by simp), l2_step (F + 3) b d v c n i _ 4 (by omega) hn hb hi (by simp), l2_step (F + 2) b d v c n i _ 5 (by omega) hn hb hi (by simp), l2_step (F + 1) b d v c n i _ 6 (by omega) hn hb hi (by simp)]
  simp only [fec_Decode.l2]
  rw [if_neg (by omega), colW_eq]
  rfl
theorem fix_more {W : List Int} {r : Int × Int} (h : fec_fix.f 40 W = some r) (F : Nat) (hF : 40 ≤ F) : fec_fix.f F W = some r := at_rounds (g := fun k => fec_fix.f k W) (fun k => fec_fix.mono W k) hF h
/-- How many of the words are corrected. -/
def hits (fx : Nat → Nat × Nat) : Nat → Nat → Nat
  | _, 0 => 0
  | i, m + 1 => (if 0 < (fx i).2 then 1 else 0) + hits fx (i + 1) m
def vals (fx : Nat → Nat × Nat) : Nat → Nat → List Int
  | _, 0 => []
  | i, m + 1 => ((fx i).1 : Int) :: vals fx (i + 1) m
theorem vals_length (fx : Nat → Nat × Nat) (m : Nat) : ∀ i, (vals fx i m).length = m := by
  induction m with
  | zero => intro i; rfl
  | succ m ih => intro i; simp [vals, ih]
theorem hits_le (fx : Nat → Nat × Nat) (m : Nat) : ∀ i, hits fx i m ≤ m := by
  induction m with
  | zero => intro i; exact Nat.le_refl _
  | succ m ih =>
    intro i
    have := ih (i + 1)
    simp only [hits]
    split <;> omega
theorem l1_all (b : ByteArray) (d : Int) (n : Nat) (fx : Nat → Nat × Nat) (hn : n ≤ 64) (hb : 7 * n ≤ b.size) (hfx : ∀ i, i < n → fec_fix.f 40 (colW b n i) = some (((fx i).1 : Int), ((fx i).2 : Int))) (m : Nat) :
    ∀ (i F : Nat) (v : List Int) (c : Nat), i + m = n → 40 ≤ F → v.length + m ≤ 10000 → c + m ≤ 10000 →
      fec_Decode.l1 (F + 9 * m) b d v (c : Int) (n : Int) (n : Int) (i : Int) = fec_Decode.l1 F b d (v ++ vals fx i m) ((c + hits fx i m : Nat) : Int) (n : Int) (n : Int) (n : Int) := by
  induction m with
  | zero =>
    intro i F v c hi _ _ _
    obtain rfl : i = n := by omega
    simp [vals, hits]
  | succ m ih =>
    intro i F v c hi hF hv hc
    rw [show F + 9 * (m + 1) = ((F + 9 * m) + 8) + 1 by omega]
    simp only [fec_Decode.l1]
    rw [if_pos (by omega), if_pos (by decide), Option.bind_some, l2_all (F + 9 * m) b d v (c : Int) n i hn hb (by omega), fix_more (hfx i (by omega)) _ (by omega), Option.bind_some]
    have hw : wrap64 ((i : Int) + 1) = ((i + 1 : Nat) : Int) := by unfold wrap64; omega
    have hcw : wrap64 ((c : Int) + 1) = ((c + 1 : Nat) : Int) := by unfold wrap64; omega
    rw [hw, hcw]
    by_cases h0 : 0 < (fx i).2
    · rw [if_pos (by simpa using h0), if_pos (by omega), ih (i + 1) F _ (c + 1) (by omega) hF (by simp; omega) (by omega)]
      simp only [vals, hits, if_pos h0, List.append_assoc, List.singleton_append]
      rw [show c + 1 + hits fx (i + 1) m = c + (1 + hits fx (i + 1) m) by omega]
    · rw [if_neg (by simpa using h0), if_pos (by omega), ih (i + 1) F _ c (by omega) hF (by simp; omega) (by omega)]
      simp only [vals, hits, if_neg h0, List.append_assoc, List.singleton_append, Nat.zero_add]
/-- What Decode tells of a text, block by block. -/
inductive Dec (d : Nat) : ByteArray → List Int → Nat → Prop
  | nil (b : ByteArray) : b.size = 0 → Dec d b [] 0
  | cons (b : ByteArray) (n : Nat) (fx : Nat → Nat × Nat) (vs : List Int) (c : Nat) : 0 < n → n = min d (b.size / 7) → 7 * n ≤ b.size → (∀ i, i < n → fec_fix.f 40 (colW b n i) = some (((fx i).1 : Int), ((fx i).2 : Int))) → Dec d (b.extract (7 * n) b.size) vs c → Dec d b (vals fx 0 n ++ vs) (hits fx 0 n + c)
theorem size_zero {b : ByteArray} (h : b.size = 0) : b = ⟨#[]⟩ := by
  cases b with
  | mk a =>
    have : a = #[] := Array.eq_empty_of_size_eq_zero h
    rw [this]
theorem toList_ne {b : ByteArray} (h : 0 < b.size) : ¬ b.toList = ([] : List UInt8) := fun z => by
  rw [ByteArray.toList_eq] at z
  have h2 := data_length b
  rw [z] at h2
  simp at h2
  omega
theorem l0_dec (d : Nat) (hd : 1 ≤ d ∧ d ≤ 64) {b : ByteArray} {vs : List Int} {c : Nat} (h : Dec d b vs c) : ∃ K, ∀ (F : Nat) (v : List Int) (c0 : Nat), 40 ≤ F → b.size ≤ 10000 → v.length + vs.length ≤ 10000 → c0 + vs.length ≤ 10000 →
    fec_Decode.l0 (F + K) b (d : Int) v (c0 : Int) = fec_Decode.l0 F ⟨#[]⟩ (d : Int) (v ++ vs) ((c0 + c : Nat) : Int) := by
  induction h with
  | nil b hb =>
    obtain rfl := size_zero hb
    exact ⟨0, fun F v c0 _ _ _ _ => by simp⟩
  | cons b n fx vs c hn0 hn hb hfx hrest ih =>
    obtain ⟨K, ih⟩ := ih
    refine ⟨K + 9 * n + 2, fun F v c0 hF hbs hv hc => ?_⟩
    rw [List.length_append, vals_length] at hv hc
    have hhit := hits_le fx n 0
    have hm : mn (d : Int) (wrap64 ((b.size : Int) / 7)) = (n : Int) := by
      have h1 : wrap64 ((b.size : Int) / 7) = ((b.size / 7 : Nat) : Int) := by unfold wrap64; omega
      rw [h1]
      unfold mn
      split <;> omega
    rw [show F + (K + 9 * n + 2) = (((F + K) + 1) + 9 * n) + 1 by omega]
    rw [fec_Decode.l0]
    rw [if_neg (toList_ne (by omega)), hm]
    have h2 := l1_all b (d : Int) n fx (by omega) hb hfx n 0 ((F + K) + 1) v c0 (by omega) (by omega) (by omega) (by omega)
    refine h2.trans ?_
    rw [fec_Decode.l1]
    have h3 : wrap64 (7 * (n : Int)) = ((7 * n : Nat) : Int) := by unfold wrap64; omega
    rw [if_neg (by omega), h3, if_pos (by omega), if_pos (by omega), Int.toNat_natCast]
    rw [ih F (v ++ vals fx 0 n) (c0 + hits fx 0 n) hF (by rw [ByteArray.size_extract]; omega) (by rw [List.length_append, vals_length]; omega) (by omega), List.append_assoc, Nat.add_assoc]
theorem l3_all (v : List Int) (c : Int) (T : List Int) (hT : T.length ≤ 10000) (hv : v.length = 2 * T.length) (h : ∀ i, i < T.length → wrap64 (wrap64 (16 * rd v ((2 * i : Nat) : Int)) + rd v ((2 * i + 1 : Nat) : Int)) % 256 = T.getD i 0) (m : Nat) :
    ∀ (i F : Nat), i + m = T.length → fec_Decode.l3 (F + m + 1) v c (T.take i ++ List.replicate m 0) (T.length : Int) (i : Int) = some (strOfNums T, c, 0) := by
  induction m with
  | zero =>
    intro i F hi
    rw [fec_Decode.l3, if_neg (by omega), List.replicate_zero, List.append_nil, List.take_of_length_le (by omega)]
  | succ m ih =>
    intro i F hi
    rw [show F + (m + 1) + 1 = (F + m + 1) + 1 by omega, fec_Decode.l3]
    have h1 : wrap64 (2 * (i : Int)) = ((2 * i : Nat) : Int) := by unfold wrap64; omega
    have h2 : wrap64 (((2 * i : Nat) : Int) + 1) = ((2 * i + 1 : Nat) : Int) := by unfold wrap64; omega
    have h3 : wrap64 ((i : Int) + 1) = ((i + 1 : Nat) : Int) := by unfold wrap64; omega
    have hl : (T.take i ++ List.replicate (m + 1) (0 : Int)).length = T.length := by rw [List.length_append, List.length_take, List.length_replicate]; omega
    rw [h1, h2, h3, if_pos (by omega), if_pos (by omega), if_pos (by omega), if_pos (by omega), if_pos (by omega), if_pos (by omega), if_pos (by rw [hl]; omega), h i (by omega), Int.toNat_natCast]
    have hs : (T.take i ++ List.replicate (m + 1) (0 : Int)).set i (T.getD i 0) = T.take (i + 1) ++ List.replicate m 0 := by
      rw [List.set_append_right _ _ (by rw [List.length_take]; omega), List.take_succ_eq_append_getElem (by omega), List.length_take, show i - min i T.length = 0 by omega, List.replicate_succ, List.set_cons_zero, List.append_assoc]
      congr 1
      simp [List.getD_eq_getElem?_getD, List.getElem?_eq_getElem (show i < T.length by omega)]
    rw [hs]
    exact ih (i + 1) F (by omega)
theorem decode_dec (d : Nat) (hd : 1 ≤ d ∧ d ≤ 64) (b : ByteArray) (T : List Int) (vs : List Int) (c : Nat) (hb : b.size ≤ 7168) (h14 : b.size % 14 = 0) (hg : ∃ k, fec_good.f k b = some true) (h : Dec d b vs c) (hl : vs.length = 2 * T.length) (hT : T.length ≤ 2000) (hc : c ≤ 5000)
    (hv : ∀ i, i < T.length → wrap64 (wrap64 (16 * rd vs ((2 * i : Nat) : Int)) + rd vs ((2 * i + 1 : Nat) : Int)) % 256 = T.getD i 0) : ∃ k, fec_Decode.f k b (d : Int) = some (strOfNums T, (c : Int), 0) := by
  obtain ⟨K, hK⟩ := l0_dec d hd h
  obtain ⟨k, hg⟩ := hg
  have hK := hK (k + T.length + 50) [] 0 (by omega) (by omega) (by simp; omega) (by simp; omega)
  refine ⟨(k + T.length + 50) + K + 1, ?_⟩
  unfold fec_Decode.f
  rw [if_neg (by omega), if_neg (by omega), fec_Decode.j0]
  have hd2 : decide ((d : Int) > 64) = false := decide_eq_false (by omega)
  rw [hd2, if_neg (by decide), at_rounds (g := fun n => fec_good.f n b) (fun n => fec_good.mono b n) (by omega : k ≤ (k + T.length + 50) + K) hg, Option.bind_some, if_pos rfl, if_pos (by omega)]
  refine hK.trans ?_
  rw [show k + T.length + 50 = ((k + 48) + T.length + 1) + 1 by omega, fec_Decode.l0]
  rw [if_pos (ByteArray.toList_eq _), List.nil_append, Nat.zero_add]
  have h1 : wrap64 ((vs.length : Int) / 2) = ((T.length : Nat) : Int) := by unfold wrap64; omega
  rw [h1, if_pos (by omega), if_pos (by omega), Option.bind_some, Int.toNat_natCast, List.length_replicate]
  have h2 := l3_all vs (c : Int) T (by omega) hl hv T.length 0 (k + 48) (by omega)
  simpa using h2
end Go.Proofs.Ytkdncfbbhbmaaaa.Br
