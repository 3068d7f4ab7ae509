/- What the functions of package frame and crc.Seal, crc.Open answer, in terms of lists of bytes. -/
import Derived.Test.YtkdncfbbhbmaaaaQf31
import Derived.Test.YtkdncfbbhbmaaaaQf53
import Derived.Test.YtkdncfbbhbmaaaaKFrame
import Derived.Test.YtkdncfbbhbmaaaaPCheck
namespace Go.Proofs.Ytkdncfbbhbmaaaa.Br
open Go.RowKit Go.Proofs.Ytkdncfbbhbmaaaa.Q Go.Proofs.YtkdncfbbhbmaaaaW.PrintWords Go.Proofs.YtkdncfbbhbmaaaaW.PrintLast Go.Proofs.YtkdncfbbhbmaaaaW.PrintMore Go.Proofs.Ytkdncfbbhbmaaaa.K
/-- A string as a list of bytes, and back. -/
def lst (x : ByteArray) : List UInt8 := x.data.toList
def mkB (l : List UInt8) : ByteArray := ⟨l.toArray⟩
theorem lst_mk (l : List UInt8) : lst (mkB l) = l := rfl
theorem mk_lst (x : ByteArray) : mkB (lst x) = x := rfl
theorem lst_inj {x y : ByteArray} (h : lst x = lst y) : x = y := by rw [← mk_lst x, h, mk_lst]
theorem lst_size (x : ByteArray) : x.size = (lst x).length := by simp [lst]
theorem lst_append (x y : ByteArray) : lst (x ++ y) = lst x ++ lst y := by simp [lst, ByteArray.data_append]
theorem lst_extract (x : ByteArray) (i j : Nat) : lst (x.extract i j) = ((lst x).take j).drop i := by
  simp [lst, ByteArray.data_extract, List.drop_take]
theorem toList_lst (x : ByteArray) : x.toList = lst x := ByteArray.toList_eq x
theorem beq_toList (x y : ByteArray) : (x.toList == y.toList) = decide (x = y) := by
  rw [toList_lst, toList_lst, Bool.eq_iff_iff, beq_iff_eq, decide_eq_true_iff]
  exact ⟨lst_inj, fun h => by rw [h]⟩
theorem eq_toList (x y : ByteArray) : (x.toList = y.toList) ↔ x = y := by
  rw [toList_lst, toList_lst]
  exact ⟨lst_inj, fun h => by rw [h]⟩
theorem bt_lst (x : ByteArray) (i : Nat) (h : i < x.size) : bt x (i : Int) = ((((lst x)[i]'(by rw [← lst_size]; exact h)).toNat : Nat) : Int) := by
  unfold bt
  rw [Int.toNat_natCast, dif_pos h]
  rfl
theorem lst_strOfNums (l : List Int) : lst (strOfNums l) = l.map fun n => UInt8.ofNat n.toNat := by simp [lst, strOfNums]
theorem byteInt (n : Nat) : UInt8.ofNat (((n : Int) % 256).toNat) = UInt8.ofNat (n % 256) := by
  congr 1
theorem shr_nat (n j : Nat) (h : j ≤ 64) : shr .i64 (n : Int) (j : Int) = ((n / 2 ^ j : Nat) : Int) := by
  unfold shr
  rw [Int.toNat_natCast, show min j IntKind.i64.bits = j by show min j 64 = j; omega]
  push_cast
  rfl
theorem number_two (n K : Nat) : frame_number.f (K + 3) (n : Int) 2 = some (mkB (be 2 n)) := by
  have h : frame_number.f (K + 3) (n : Int) 2 = some (strOfNums [shr .i64 n 8 % 256, shr .i64 n 0 % 256]) := by
    simp [frame_number.f, frame_number.l0, wrap64, List.replicate]
  rw [h, show (8 : Int) = ((8 : Nat) : Int) from rfl, show (0 : Int) = ((0 : Nat) : Int) from rfl, shr_nat _ _ (by decide), shr_nat _ _ (by decide)]
  congr 1
theorem number_six (n K : Nat) : frame_number.f (K + 7) (n : Int) 6 = some (mkB (be 6 n)) := by
  have h : frame_number.f (K + 7) (n : Int) 6 = some (strOfNums [shr .i64 n 40 % 256, shr .i64 n 32 % 256, shr .i64 n 24 % 256, shr .i64 n 16 % 256, shr .i64 n 8 % 256, shr .i64 n 0 % 256]) := by
    simp [frame_number.f, frame_number.l0, wrap64, List.replicate]
  rw [h, show (40 : Int) = ((40 : Nat) : Int) from rfl, show (32 : Int) = ((32 : Nat) : Int) from rfl, show (24 : Int) = ((24 : Nat) : Int) from rfl, show (16 : Int) = ((16 : Nat) : Int) from rfl, show (8 : Int) = ((8 : Nat) : Int) from rfl, show (0 : Int) = ((0 : Nat) : Int) from rfl, shr_nat _ _ (by decide), shr_nat _ _ (by decide), shr_nat _ _ (by decide), shr_nat _ _ (by decide), shr_nat _ _ (by decide), shr_nat _ _ (by decide)]
  congr 1
theorem or_byte (x b : Nat) (hx : x < 281474976710656) (hb : b < 256) : Go.bits .or .i64 (wrap64 ((x : Int) * 256)) (wrap64 (b : Int)) = ((x * 256 + b : Nat) : Int) := by
  have h1 : wrap64 ((x : Int) * 256) = (x : Int) * 256 := by unfold wrap64; omega
  have h2 : wrap64 (b : Int) = (b : Int) := by unfold wrap64; omega
  rw [h1, h2, bits_join .i64 62 (by decide) (fun n h0 h1 => by rw [IntKind.wrap_i64]; omega) 8 _ _ (by omega) (by omega) (by omega) (by omega) (by omega) (by omega)]
  omega
theorem value_l0 (s : ByteArray) (h6 : s.size ≤ 6) (m : Nat) : ∀ k i, i + m = s.size → m < k → frame_value.l0 k s ((val ((lst s).take i) : Nat) : Int) (s.size : Int) (i : Int) = some ((val (lst s) : Nat) : Int) := by
  induction m with
  | zero =>
    intro k i hi hk
    obtain ⟨k, rfl⟩ : ∃ m, k = m + 1 := ⟨k - 1, by omega⟩
    simp only [frame_value.l0]
    rw [if_neg (by omega), List.take_of_length_le (by rw [← lst_size]; omega)]
  | succ m ih =>
    intro k i hi hk
    obtain ⟨k, rfl⟩ : ∃ m, k = m + 1 := ⟨k - 1, by omega⟩
    simp only [frame_value.l0]
    have hlt : i < (lst s).length := by rw [← lst_size]; omega
    have hv := val_lt ((lst s).take i)
    rw [List.length_take, Nat.min_eq_left (by omega)] at hv
    have hp : 256 ^ i ≤ 256 ^ 5 := Nat.pow_le_pow_right (by decide) (by omega)
    have hx : val ((lst s).take i) < 281474976710656 := Nat.lt_of_lt_of_le hv (Nat.le_trans hp (by decide))
    rw [if_pos (by omega), if_pos (by omega), if_pos (by omega), bt_lst s i (by omega), or_byte _ _ hx (UInt8.toNat_lt _), show wrap64 ((i : Int) + 1) = ((i + 1 : Nat) : Int) by unfold wrap64; omega]
    have ht : val ((lst s).take i) * 256 + ((lst s)[i]).toNat = val ((lst s).take (i + 1)) := by rw [List.take_succ_eq_append_getElem hlt, val_snoc]
    rw [ht]
    exact ih k (i + 1) (by omega) (by omega)
theorem value_f (s : ByteArray) (h6 : s.size ≤ 6) (K : Nat) : frame_value.f (K + 7) s = some ((val (lst s) : Nat) : Int) := by
  unfold frame_value.f
  exact value_l0 s h6 s.size (K + 7) 0 (by omega) (by omega)
theorem be4 (c : Nat) : [((c : Int) / 16777216) % 256, ((c : Int) / 65536) % 256, ((c : Int) / 256) % 256, (c : Int) % 256].map (fun n => UInt8.ofNat n.toNat) = be 4 c := by
  simp only [List.map_cons, List.map_nil, be]
  rw [show (c : Int) / 16777216 = ((c / 16777216 : Nat) : Int) by omega, show (c : Int) / 65536 = ((c / 65536 : Nat) : Int) by omega, show (c : Int) / 256 = ((c / 256 : Nat) : Int) by omega]
  simp only [byteInt]
  simp
theorem seal_f (x : ByteArray) (h : x.size ≤ 9223372036854775803) : crc_Seal.f x = some (mkB (sealL (lst x))) := by
  unfold crc_Seal.f Ext.crc_Sum.f
  rw [if_pos (by omega)]
  simp only [Option.bind_some]
  have e : lst (strOfNums [((crcOf x.data.toList : Nat) : Int) / 16777216 % 256, ((crcOf x.data.toList : Nat) : Int) / 65536 % 256, ((crcOf x.data.toList : Nat) : Int) / 256 % 256, ((crcOf x.data.toList : Nat) : Int) % 256]) = be 4 (crcOf (lst x)) := by
    rw [lst_strOfNums, be4]
    rfl
  have hs : (strOfNums [((crcOf x.data.toList : Nat) : Int) / 16777216 % 256, ((crcOf x.data.toList : Nat) : Int) / 65536 % 256, ((crcOf x.data.toList : Nat) : Int) / 256 % 256, ((crcOf x.data.toList : Nat) : Int) % 256]).size = 4 := by
    rw [lst_size, e, be_length]
  rw [hs, if_pos (by omega)]
  congr 1
  apply lst_inj
  rw [lst_append, e, lst_mk]
  rfl
theorem open_f (x : ByteArray) (h4 : 4 ≤ x.size) (h : x.size ≤ 9223372036854775803) : crc_Open.f x = some (if sealL ((lst x).take (x.size - 4)) = lst x then (mkB ((lst x).take (x.size - 4)), 0) else (⟨#[]⟩, 8)) := by
  unfold crc_Open.f
  have hw : wrap64 ((x.size : Int) - 4) = ((x.size - 4 : Nat) : Int) := by unfold wrap64; omega
  have he : x.extract 0 (x.size - 4) = mkB ((lst x).take (x.size - 4)) := by
    apply lst_inj
    rw [lst_extract, lst_mk, List.drop_zero]
  have hs : (mkB ((lst x).take (x.size - 4))).size ≤ 9223372036854775803 := by rw [lst_size, lst_mk, List.length_take]; omega
  rw [hw, if_neg (by omega), if_pos (by omega), if_pos (by omega), Int.toNat_natCast, he, seal_f _ hs, lst_mk]
  simp only [Option.bind_some, eq_toList]
  by_cases hq : sealL ((lst x).take (x.size - 4)) = lst x
  · rw [if_pos hq, if_pos (by rw [hq, mk_lst])]
  · rw [if_neg hq, if_neg (fun z => hq (by rw [← lst_mk (sealL _), z]))]
theorem mk_append (a b : List UInt8) : mkB a ++ mkB b = mkB (a ++ b) := by
  apply lst_inj
  rw [lst_append]
  rfl
theorem mk_size (l : List UInt8) : (mkB l).size = l.length := by rw [lst_size, lst_mk]
theorem zeros_mk (n : Nat) : strOfNums (List.replicate n 0) = mkB (List.replicate n 0) := by
  apply lst_inj
  rw [lst_strOfNums, lst_mk, List.map_replicate]
  rfl
theorem encode_j0 (K : Nat) (p : List UInt8) (d s t : Int) (y : Nat) (b : List UInt8) (hp : p.length ≤ 16) (hb : b.length ≤ 1500) :
    frame_Encode.j0 (K + 4) (mkB p) d s t (y : Int) (mkB b) = some (mkB (sealL (pad60 (p ++ (be 2 y ++ (be 2 b.length ++ b))))), 0) := by
  simp only [frame_Encode.j0]
  rw [mk_size, number_two, number_two]
  simp only [Option.bind_some]
  rw [mk_append, mk_append, mk_append]
  simp only [mk_size, List.length_append, be_length]
  rw [if_pos (by omega), if_pos (by omega), if_pos (by omega)]
  have hw : wrap64 (60 - ((p.length + (2 + 2 + b.length) : Nat) : Int)) = 60 - ((p.length + (2 + 2 + b.length) : Nat) : Int) := by unfold wrap64; omega
  rw [hw]
  have hl : (p ++ (be 2 y ++ be 2 b.length ++ b)).length = p.length + (2 + 2 + b.length) := by simp [be_length]; omega
  by_cases h : 60 - ((p.length + (2 + 2 + b.length) : Nat) : Int) > 0
  · rw [if_pos h, if_pos (by omega), if_pos (by omega)]
    have ht : (60 - ((p.length + (2 + 2 + b.length) : Nat) : Int)).toNat = 60 - (p.length + (2 + 2 + b.length)) := by omega
    rw [ht, zeros_mk]
    simp only [mk_size, List.length_replicate]
    rw [if_pos (by omega), mk_append, seal_f _ (by rw [mk_size, List.length_append, hl, List.length_replicate]; omega)]
    simp only [Option.bind_some]
    rw [lst_mk]
    unfold pad60
    rw [← List.append_assoc (be 2 y), hl]
  · rw [if_neg h, seal_f _ (by rw [mk_size, hl]; omega)]
    simp only [Option.bind_some]
    rw [lst_mk]
    unfold pad60
    rw [← List.append_assoc (be 2 y), hl, show 60 - (p.length + (2 + 2 + b.length)) = 0 by omega, List.replicate_zero, List.append_nil]
/-- A frame that frame.Check lets by. -/
def Fr.good (f : Fr) : Prop := f.ok ∧ f.s / 1099511627776 % 2 ≠ 1
theorem chk_good (f : Fr) (h : Fr.good f) : chk f.d f.s f.t f.y f.b.length = 0 := by
  obtain ⟨⟨h1, h2, h3, h4, h5, h6⟩, h7⟩ := h
  unfold chk
  rw [if_neg (by omega), if_neg (by omega), if_neg (by omega)]
theorem good_chk (d s t y : Int) (x : ByteArray) (h : chk d s t y x.size = 0) : ∃ f : Fr, Fr.good f ∧ d = f.d ∧ s = f.s ∧ t = f.t ∧ y = f.y ∧ x = mkB f.b := by
  unfold chk at h
  by_cases h1 : d < 0 ∨ d ≥ 281474976710656 ∨ s < 0 ∨ s ≥ 281474976710656 ∨ s / 1099511627776 % 2 = 1
  · rw [if_pos h1] at h; cases h
  · rw [if_neg h1] at h
    by_cases h2 : t < 0 ∨ t > 4094 ∨ y < 0 ∨ y > 65535 ∨ y = 33024
    · rw [if_pos h2] at h; cases h
    · rw [if_neg h2] at h
      by_cases h3 : (x.size : Int) > 1500
      · rw [if_pos h3] at h; cases h
      · have hl := lst_size x
        refine ⟨⟨d.toNat, s.toNat, t.toNat, y.toNat, lst x⟩, ⟨⟨?_, ?_, ?_, ?_, ?_, ?_⟩, ?_⟩, ?_, ?_, ?_, ?_, (mk_lst x).symm⟩ <;> (try simp only []) <;> omega
theorem encode_bad (K : Nat) (d s t y : Int) (x : ByteArray) (h : chk d s t y x.size ≠ 0) : frame_Encode.f (K + 10) d s t y x = some (⟨#[]⟩, chk d s t y x.size) := by
  unfold frame_Encode.f
  rw [show K + 10 = (K + 8) + 2 from rfl, check_f]
  simp only [Option.bind_some]
  rw [if_neg h]
theorem encode_ok (K : Nat) (f : Fr) (h : Fr.good f) : frame_Encode.f (K + 10) f.d f.s f.t f.y (mkB f.b) = some (mkB (encL f), 0) := by
  unfold frame_Encode.f
  have hc := chk_good f h
  obtain ⟨⟨h1, h2, h3, h4, h5, h6⟩, h7⟩ := h
  have ec := check_f (K + 8) f.d f.s f.t f.y (mkB f.b)
  rw [mk_size, hc] at ec
  rw [ec, number_six f.d (K + 3), number_six f.s (K + 3)]
  simp only [Option.bind_some, if_true]
  have e2 : frame_number.f (K + 10) 33024 2 = some (mkB (be 2 33024)) := number_two 33024 (K + 7)
  rw [e2, number_two f.t (K + 7)]
  simp only [Option.bind_some, mk_append, mk_size, List.length_append, be_length]
  by_cases ht : (f.t : Int) > 0
  · rw [if_pos (by decide), if_pos ht, if_pos (by decide), if_pos (by decide), encode_j0 (K + 6) _ _ _ _ _ _ (by simp [be_length]) h6]
    unfold encL encBody
    rw [if_pos (by omega)]
    simp only [List.append_assoc]
  · rw [if_pos (by decide), if_neg ht, encode_j0 (K + 6) _ _ _ _ _ _ (by simp [be_length]) h6]
    unfold encL encBody
    rw [if_neg (by omega)]
    simp only [List.append_assoc, List.nil_append]
end Go.Proofs.Ytkdncfbbhbmaaaa.Br
