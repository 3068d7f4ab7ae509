/- What the functions of package tag answer. -/
import Derived.Test.YtkdncfbbhbmaaaaQf38
import Derived.Test.YtkdncfbbhbmaaaaQf39
import Derived.Test.YtkdncfbbhbmaaaaQf37
import Derived.Test.YtkdncfbbhbmaaaaPCheck
namespace Go.Proofs.Ytkdncfbbhbmaaaa.Br
open Go.RowKit Go.Proofs.Ytkdncfbbhbmaaaa.Q Go.Proofs.YtkdncfbbhbmaaaaW.PrintWords Go.Proofs.YtkdncfbbhbmaaaaW.PrintLast Go.Proofs.YtkdncfbbhbmaaaaW.PrintMore
theorem index_l0 (l : List Int) (a : Int) (hl : l.length ≤ 1000000) (m : Nat) : ∀ k i, i + m = l.length → m < k → (∀ j, j < i → l[j]? ≠ some a) → ∃ r, slices_Index_int_int.l0 k l a (l.length : Int) (i : Int) = some r ∧ decide (r ≥ 0) = decide (a ∈ l) := by
  induction m with
  | zero =>
    intro k i hi hk hn
    obtain ⟨k, rfl⟩ : ∃ m, k = m + 1 := ⟨k - 1, by omega⟩
    refine ⟨-1, ?_, ?_⟩
    · simp only [slices_Index_int_int.l0]
      rw [if_neg (by omega)]
    · have : ¬ a ∈ l := by
        intro ha
        obtain ⟨j, hj⟩ := List.mem_iff_getElem?.1 ha
        have hjl : j < l.length := (List.getElem?_eq_some_iff.1 hj).1
        exact hn j (by omega) hj
      rw [decide_eq_false this]
      rfl
  | succ m ih =>
    intro k i hi hk hn
    obtain ⟨k, rfl⟩ : ∃ m, k = m + 1 := ⟨k - 1, by omega⟩
    have hlt : i < l.length := by omega
    have hr : rd l (i : Int) = l[i] := by unfold rd; rw [Int.toNat_natCast, List.getD_eq_getElem?_getD, List.getElem?_eq_getElem hlt]; rfl
    simp only [slices_Index_int_int.l0]
    rw [if_pos (by omega), if_pos (by omega), if_pos (by omega), hr]
    by_cases h : a = l[i]
    · rw [if_pos h]
      refine ⟨(i : Int), rfl, ?_⟩
      rw [decide_eq_true (by omega), decide_eq_true (by rw [h]; exact List.getElem_mem hlt)]
    · rw [if_neg h, show wrap64 ((i : Int) + 1) = ((i + 1 : Nat) : Int) by unfold wrap64; omega]
      refine ih k (i + 1) (by omega) (by omega) (fun j hj => ?_)
      by_cases e : j = i
      · subst e
        rw [List.getElem?_eq_getElem hlt]
        exact fun z => h (Option.some.inj z).symm
      · exact hn j (by omega)
theorem contains_f (l : List Int) (a : Int) (k : Nat) (hl : l.length ≤ 1000000) (hk : l.length < k) : slices_Contains_int_int.f k l a = some (decide (a ∈ l)) := by
  obtain ⟨r, hr, hd⟩ := index_l0 l a hl l.length k 0 (by omega) hk (fun j hj => absurd hj (Nat.not_lt_zero j))
  unfold slices_Contains_int_int.f slices_Index_int_int.f
  have hr2 : slices_Index_int_int.l0 k l a (l.length : Int) 0 = some r := hr
  rw [hr2]
  simp only [Option.bind_some]
  rw [hd]
theorem net_f (a : Int) : tag_net.f a = some (decide (1 ≤ a ∧ a ≤ 4094)) := by
  unfold tag_net.f
  by_cases h : a ≥ 1
  · rw [if_pos h]
    congr 1
    rw [Bool.eq_iff_iff, decide_eq_true_iff, decide_eq_true_iff]
    exact ⟨fun z => ⟨h, z⟩, fun z => z.2⟩
  · rw [if_neg h, decide_eq_false (fun z => h z.1)]
theorem tcheck_l0 (l : List Int) (a : Int) (hl : l.length ≤ 256) (m : Nat) : ∀ k i, i + m = l.length → m < k → ∃ c, tag_Check.l0 k l (l.length : Int) (i : Int) a l = some c := by
  induction m with
  | zero =>
    intro k i hi hk
    obtain ⟨k, rfl⟩ : ∃ m, k = m + 1 := ⟨k - 1, by omega⟩
    refine ⟨0, ?_⟩
    simp only [tag_Check.l0]
    rw [if_neg (by omega)]
  | succ m ih =>
    intro k i hi hk
    obtain ⟨k, rfl⟩ : ∃ m, k = m + 1 := ⟨k - 1, by omega⟩
    simp only [tag_Check.l0]
    rw [if_pos (by omega), if_pos (by omega), if_pos (by omega), net_f]
    simp only [Option.bind_some]
    have hw : wrap64 ((i : Int) + 1) = ((i + 1 : Nat) : Int) := by unfold wrap64; omega
    obtain ⟨c, hc⟩ := ih k (i + 1) (by omega) (by omega)
    rw [hw, hc]
    split
    · split
      · have hw2 : wrap64 ((i : Int) - 1) = (i : Int) - 1 := by unfold wrap64; omega
        rw [hw2, if_pos (by omega), if_pos (by omega)]
        split
        · exact ⟨_, rfl⟩
        · exact ⟨_, rfl⟩
      · exact ⟨_, rfl⟩
    · exact ⟨_, rfl⟩
/-- What tag.Check answers: if it is 0, the port's numbers lie in their ranges. -/
theorem tcheck_f (a : Int) (l : List Int) : ∃ c, tag_Check.f 300 a l = some c ∧ (c = 0 → 0 ≤ a ∧ a ≤ 4094 ∧ l.length ≤ 256) := by
  unfold tag_Check.f
  by_cases h0 : a < 0
  · rw [if_pos h0]
    exact ⟨10, rfl, fun h => by cases h⟩
  · rw [if_neg h0]
    simp only [tag_Check.j0]
    by_cases h1 : a > 4094
    · rw [if_pos (decide_eq_true h1)]
      exact ⟨10, rfl, fun h => by cases h⟩
    · rw [if_neg (by simpa using h1)]
      by_cases h2 : (l.length : Int) > 256
      · rw [if_pos h2]
        exact ⟨2, rfl, fun h => by cases h⟩
      · rw [if_neg h2]
        obtain ⟨c, hc⟩ := tcheck_l0 l a (by omega) l.length 299 0 (by omega) (by omega)
        exact ⟨c, hc, fun _ => ⟨by omega, by omega, by omega⟩⟩
/-- What tag.In answers behind its checks. -/
theorem in_ok (a : Int) (l : List Int) (d s t y : Int) (x : ByteArray) (hc : tag_Check.f 300 a l = some 0) (hl : l.length ≤ 256) (hf : chk d s t y x.size = 0) :
    tag_In.f 300 a l d s t y x = some (if t = 0 ∧ a > 0 then (a, 0) else if t > 0 ∧ t ∈ l then (t, 0) else (0, 14)) := by
  unfold tag_In.f
  rw [hc, show (300 : Nat) = 298 + 2 from rfl, check_f, hf]
  simp only [Option.bind_some, if_true, tag_In.j0, contains_f l t 299 (by omega) (by omega)]
  by_cases h0 : t = 0
  · subst h0
    by_cases ha : a > 0 <;> simp [ha]
  · by_cases ht : t > 0 <;> by_cases hm : t ∈ l <;> simp [h0, ht, hm]
theorem in_bad (a : Int) (l : List Int) (d s t y : Int) (x : ByteArray) (c : Int) (hc : tag_Check.f 300 a l = some c) (h : c ≠ 0 ∨ chk d s t y x.size ≠ 0) : ∃ e, e ≠ 0 ∧ tag_In.f 300 a l d s t y x = some (0, e) := by
  unfold tag_In.f
  rw [hc]
  simp only [Option.bind_some]
  by_cases h0 : c = 0
  · rw [if_pos h0, show (300 : Nat) = 298 + 2 from rfl, check_f]
    have hf : chk d s t y x.size ≠ 0 := h.resolve_left (fun z => z h0)
    simp only [Option.bind_some]
    rw [if_neg hf]
    exact ⟨_, hf, rfl⟩
  · rw [if_neg h0]
    exact ⟨c, h0, rfl⟩
/-- What tag.Out answers behind its checks. -/
theorem out_ok (a : Int) (l : List Int) (n d s t y : Int) (x : ByteArray) (hc : tag_Check.f 300 a l = some 0) (hl : l.length ≤ 256) (hn : 1 ≤ n ∧ n ≤ 4094) (hf : chk d s t y x.size = 0) :
    tag_Out.f 300 a l n d s t y x = some (if n = a then (d, s, 0, y, x, true, 0) else if n ∈ l then (d, s, n, y, x, true, 0) else (0, 0, 0, 0, (⟨#[]⟩ : ByteArray), false, 0)) := by
  unfold tag_Out.f
  rw [hc, net_f, decide_eq_true hn, show (300 : Nat) = 298 + 2 from rfl, check_f, hf]
  simp only [Option.bind_some, if_true, contains_f l n 300 (by omega) (by omega)]
  by_cases h0 : n = a
  · rw [if_pos h0, if_pos h0]
  · rw [if_neg h0, if_neg h0]
    by_cases hm : n ∈ l
    · rw [if_pos (decide_eq_true hm), if_pos hm]
    · rw [if_neg (by simpa using hm), if_neg hm]
theorem out_bad (a : Int) (l : List Int) (n d s t y : Int) (x : ByteArray) (c : Int) (hc : tag_Check.f 300 a l = some c) (h : c ≠ 0 ∨ ¬ (1 ≤ n ∧ n ≤ 4094) ∨ chk d s t y x.size ≠ 0) : ∃ e, e ≠ 0 ∧ tag_Out.f 300 a l n d s t y x = some (0, 0, 0, 0, (⟨#[]⟩ : ByteArray), false, e) := by
  unfold tag_Out.f
  rw [hc, net_f]
  simp only [Option.bind_some]
  by_cases h0 : c = 0
  · rw [if_pos h0]
    by_cases hn : 1 ≤ n ∧ n ≤ 4094
    · rw [if_pos (decide_eq_true hn), show (300 : Nat) = 298 + 2 from rfl, check_f]
      have hf : chk d s t y x.size ≠ 0 := (h.resolve_left (fun z => z h0)).resolve_left (fun z => z hn)
      simp only [Option.bind_some]
      rw [if_neg hf]
      exact ⟨_, hf, rfl⟩
    · rw [if_neg (by simpa using hn)]
      exact ⟨10, by decide, rfl⟩
  · rw [if_neg h0]
    exact ⟨c, h0, rfl⟩
theorem tagWorks_true : patchbaykeep1_tagWorks.f 300 = some true := by
  unfold patchbaykeep1_tagWorks.f
  have hc : tag_Check.f 300 7 [] = some 0 := by rfl
  rw [in_ok 7 [] 0 0 0 0 _ hc (by decide) (by decide)]
  rfl
end Go.Proofs.Ytkdncfbbhbmaaaa.Br
