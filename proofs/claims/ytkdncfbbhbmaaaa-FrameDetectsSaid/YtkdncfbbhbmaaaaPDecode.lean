/- What frame.Decode answers, in terms of lists of bytes; it inverts frame.Encode. -/
import Derived.Test.YtkdncfbbhbmaaaaPFrame
namespace Go.Proofs.Ytkdncfbbhbmaaaa.Br
open Go.RowKit Go.Proofs.Ytkdncfbbhbmaaaa.Q Go.Proofs.YtkdncfbbhbmaaaaW.PrintWords Go.Proofs.YtkdncfbbhbmaaaaW.PrintLast Go.Proofs.YtkdncfbbhbmaaaaW.PrintMore Go.Proofs.Ytkdncfbbhbmaaaa.K
theorem extract_mk (l : List UInt8) (i j : Nat) : (mkB l).extract i j = mkB ((l.take j).drop i) := by
  apply lst_inj
  rw [lst_extract, lst_mk, lst_mk]
theorem value_mk (l : List UInt8) (h : l.length ≤ 6) (K : Nat) : frame_value.f (K + 7) (mkB l) = some ((val l : Nat) : Int) := by
  rw [value_f _ (by rw [mk_size]; exact h)]
  rfl
def no (e : Int) : Option (Int × Int × Int × Int × ByteArray × Int) := some (0, 0, 0, 0, (⟨#[]⟩ : ByteArray), e)
/-- The end of frame.Decode: the fields that were read are encoded again. -/
def again (K : Nat) (a : ByteArray) (d s t : Nat) (r : List UInt8) : Option (Int × Int × Int × Int × ByteArray × Int) :=
  if val ((r.drop 2).take 2) > r.length - 4 then no 3
  else (frame_Encode.f (K + 10) d s t ((val (r.take 2) : Nat) : Int) (mkB ((r.drop 4).take (val ((r.drop 2).take 2))))).bind fun q => if q.2 = 0 then (if q.1 = a then some (d, s, t, ((val (r.take 2) : Nat) : Int), mkB ((r.drop 4).take (val ((r.drop 2).take 2))), 0) else no 3) else no 3
theorem decode_j0 (K : Nat) (a : ByteArray) (d s t : Nat) (r : List UInt8) (h4 : 4 ≤ r.length) (hm : r.length ≤ 70000) : frame_Decode.j0 (K + 11) a (mkB r) d s t 0 (⟨#[]⟩ : ByteArray) = again K a d s t r := by
  simp only [frame_Decode.j0, mk_size, extract_mk, List.drop_zero]
  rw [if_pos (by decide), if_pos (by omega)]
  have e1 := value_mk (r.take 2) (by rw [List.length_take]; omega) (K + 3)
  have e2 := value_mk ((r.take 4).drop 2) (by rw [List.length_drop, List.length_take]; omega) (K + 3)
  have e3 : (r.take 4).drop 2 = (r.drop 2).take 2 := by rw [List.drop_take]
  rw [e3] at e2
  rw [e1, e3, e2]
  simp only [Option.bind_some]
  rw [if_pos (by decide), if_pos (by omega)]
  have hv := val_lt ((r.drop 2).take 2)
  have hl : ((r.drop 2).take 2).length = 2 := by rw [List.length_take, List.length_drop]; omega
  rw [hl] at hv
  have hw : wrap64 ((r.length : Int) - 4) = ((r.length - 4 : Nat) : Int) := by unfold wrap64; omega
  have hw2 : wrap64 (4 + ((val ((r.drop 2).take 2) : Nat) : Int)) = ((4 + val ((r.drop 2).take 2) : Nat) : Int) := by unfold wrap64; omega
  rw [hw, hw2]
  unfold again no
  by_cases h : val ((r.drop 2).take 2) > r.length - 4
  · rw [if_pos h, if_pos (by omega)]
  · rw [if_neg h, if_neg (by omega), if_pos (by omega), if_pos (by omega), Int.toNat_natCast, List.drop_take, Nat.add_sub_cancel_left]
    simp only [eq_toList]
theorem decode_f (K : Nat) (a : ByteArray) (u : List UInt8) (h1 : 64 ≤ a.size) (h2 : a.size ≤ 1524) (hu : sealL u = lst a) :
    frame_Decode.f (K + 11) a = again K a (decL u).d (decL u).s (decL u).t (tagOf (u.drop 12)).2 := by
  have hl : u.length + 4 = a.size := by rw [lst_size, ← hu, sealL_length]
  have ht : (lst a).take (a.size - 4) = u := by rw [← hu, ← hl, Nat.add_sub_cancel]; exact take_app _ _ _ rfl
  unfold frame_Decode.f
  rw [if_neg (by omega), if_neg (by omega), open_f a (by omega) (by omega), ht, if_pos hu]
  simp only [Option.bind_some, if_true, mk_size, extract_mk, List.drop_zero]
  rw [if_pos (by decide), if_pos (by omega)]
  have e1 := value_mk (u.take 6) (by rw [List.length_take]; omega) (K + 4)
  have e2 := value_mk ((u.take 12).drop 6) (by rw [List.length_drop, List.length_take]; omega) (K + 4)
  have e3 : (u.take 12).drop 6 = (u.drop 6).take 6 := by rw [List.drop_take]
  rw [e3] at e2
  rw [e1, e3, e2]
  simp only [Option.bind_some]
  rw [if_pos (by decide), if_pos (by omega), if_pos (by decide), List.take_of_length_le (Nat.le_refl u.length)]
  have e4 := value_mk ((u.drop 12).take 2) (by rw [List.length_take]; omega) (K + 4)
  have e5 := value_mk (((u.drop 12).take 4).drop 2) (by rw [List.length_drop, List.length_take]; omega) (K + 4)
  have e6 : ((u.drop 12).take 4).drop 2 = ((u.drop 12).drop 2).take 2 := by rw [List.drop_take]
  rw [e6] at e5
  have hd : (u.drop 12).length = u.length - 12 := List.length_drop
  rw [if_pos (by omega), e4, e6, e5]
  simp only [Option.bind_some]
  unfold decL tagOf
  by_cases hm : val ((u.drop 12).take 2) = 33024
  · rw [if_pos (by omega), if_pos (by decide), if_pos (by omega), List.take_of_length_le (Nat.le_refl _), if_pos hm]
    simp only
    exact decode_j0 K a _ _ _ ((u.drop 12).drop 4) (by rw [List.length_drop]; omega) (by rw [List.length_drop]; omega)
  · rw [if_neg (by omega), if_neg hm]
    simp only
    exact decode_j0 K a _ _ 0 (u.drop 12) (by omega) (by omega)
theorem decode_short (K : Nat) (a : ByteArray) (h : a.size < 64) : frame_Decode.f K a = no 9 := by
  unfold frame_Decode.f
  rw [if_pos (by omega)]
  rfl
theorem decode_long (K : Nat) (a : ByteArray) (h : 1524 < a.size) : frame_Decode.f K a = no 2 := by
  unfold frame_Decode.f
  rw [if_neg (by omega), if_pos (by omega)]
  rfl
theorem decode_sum (K : Nat) (a : ByteArray) (h1 : 64 ≤ a.size) (h2 : a.size ≤ 1524) (hs : sealL ((lst a).take (a.size - 4)) ≠ lst a) : frame_Decode.f K a = no 8 := by
  unfold frame_Decode.f
  rw [if_neg (by omega), if_neg (by omega), open_f a (by omega) (by omega), if_neg hs]
  rfl
/-- frame.Decode inverts frame.Encode. -/
theorem decode_enc (K : Nat) (f : Fr) (h : Fr.good f) : frame_Decode.f (K + 11) (mkB (encL f)) = some ((f.d : Int), (f.s : Int), (f.t : Int), (f.y : Int), mkB f.b, 0) := by
  have hl := encL_length f
  have hb := h.1.2.2.2.2.2
  have h1 : 64 ≤ (mkB (encL f)).size := by rw [mk_size, hl]; omega
  have h2 : (mkB (encL f)).size ≤ 1524 := by rw [mk_size, hl]; split <;> omega
  rw [decode_f K _ (pad60 (encBody f)) h1 h2 rfl]
  have hd := dec_enc f h.1
  unfold again
  have p4 : (decL (pad60 (encBody f))).y = f.y := by rw [hd]
  have p5 : (decL (pad60 (encBody f))).b = f.b := by rw [hd]
  unfold decL at p4 p5
  simp only at p4 p5
  have hlen : f.b.length = min (val (((tagOf ((pad60 (encBody f)).drop 12)).2.drop 2).take 2)) ((tagOf ((pad60 (encBody f)).drop 12)).2.length - 4) := by
    rw [← p5, List.length_take, List.length_drop]
  have hn : val (((tagOf ((pad60 (encBody f)).drop 12)).2.drop 2).take 2) = f.b.length := by
    have e : (tagOf ((pad60 (encBody f)).drop 12)).2 = be 2 f.y ++ (be 2 f.b.length ++ (f.b ++ List.replicate (60 - (encBody f).length) 0)) := by
      obtain ⟨_, _, h3, h4, h5, h6⟩ := h.1
      have e12 : (pad60 (encBody f)).drop 12 = (if 0 < f.t then be 2 33024 ++ be 2 f.t else []) ++ (be 2 f.y ++ (be 2 f.b.length ++ (f.b ++ List.replicate (60 - (encBody f).length) 0))) := by
        unfold pad60
        generalize 60 - (encBody f).length = z
        simp only [encBody, List.append_assoc]
        rw [← List.append_assoc, drop_app 12 _ _ (by simp [be_length])]
      rw [e12, tagOf_enc f.t f.y _ h3 h4 h5]
    rw [e, drop_app 2 _ _ (be_length 2 _), take_app 2 _ _ (be_length 2 _), be2 _ (by omega)]
  rw [if_neg (by omega), p5, p4, hd, encode_ok K f h]
  simp only [Option.bind_some, if_true]
/-- Whatever is decoded without an error is the encoding of the result; an error gives the zero frame. -/
theorem decode_any (K : Nat) (a : ByteArray) : (∃ e, e ≠ 0 ∧ frame_Decode.f (K + 11) a = no e) ∨ ∃ f : Fr, Fr.good f ∧ a = mkB (encL f) ∧ frame_Decode.f (K + 11) a = some ((f.d : Int), (f.s : Int), (f.t : Int), (f.y : Int), mkB f.b, 0) := by
  by_cases h1 : a.size < 64
  · exact .inl ⟨9, by decide, decode_short _ a h1⟩
  · by_cases h2 : 1524 < a.size
    · exact .inl ⟨2, by decide, decode_long _ a h2⟩
    · by_cases hs : sealL ((lst a).take (a.size - 4)) = lst a
      · rw [decode_f K a _ (by omega) (by omega) hs]
        unfold again
        by_cases h3 : val (((tagOf (((lst a).take (a.size - 4)).drop 12)).2.drop 2).take 2) > (tagOf (((lst a).take (a.size - 4)).drop 12)).2.length - 4
        · rw [if_pos h3]
          exact .inl ⟨3, by decide, rfl⟩
        · rw [if_neg h3]
          generalize decL ((lst a).take (a.size - 4)) = f
          generalize val ((tagOf (((lst a).take (a.size - 4)).drop 12)).2.take 2) = y
          generalize (((tagOf (((lst a).take (a.size - 4)).drop 12)).2.drop 4).take (val (((tagOf (((lst a).take (a.size - 4)).drop 12)).2.drop 2).take 2))) = b
          by_cases hc : chk f.d f.s f.t y (mkB b).size = 0
          · obtain ⟨g, hg, e1, e2, e3, e4, e5⟩ := good_chk _ _ _ _ _ hc
            rw [e1, e2, e3, e4, e5, encode_ok K g hg]
            simp only [Option.bind_some, if_true]
            by_cases he : mkB (encL g) = a
            · rw [if_pos he]
              exact .inr ⟨g, hg, he.symm, rfl⟩
            · rw [if_neg he]
              exact .inl ⟨3, by decide, rfl⟩
          · rw [encode_bad K _ _ _ _ _ hc]
            simp only [Option.bind_some]
            rw [if_neg hc]
            exact .inl ⟨3, by decide, rfl⟩
      · exact .inl ⟨8, by decide, decode_sum _ a (by omega) (by omega) hs⟩
end Go.Proofs.Ytkdncfbbhbmaaaa.Br
