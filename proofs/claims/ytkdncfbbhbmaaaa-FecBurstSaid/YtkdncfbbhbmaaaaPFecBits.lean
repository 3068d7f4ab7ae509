/- Strings of zeros and ones: fec.good, bits.Weight; the weight of blocks is that of their words. -/
import Derived.Test.YtkdncfbbhbmaaaaKBlocks
import Derived.Test.YtkdncfbbhbmaaaaQf27
namespace Go.Proofs.Ytkdncfbbhbmaaaa.Br
open Go.RowKit Go.Proofs.Ytkdncfbbhbmaaaa.Q Go.Proofs.YtkdncfbbhbmaaaaW.PrintWords Go.Proofs.YtkdncfbbhbmaaaaW.PrintLast Go.Proofs.YtkdncfbbhbmaaaaW.PrintMore Go.Proofs.Ytkdncfbbhbmaaaa.Ext
/-- All characters are zeros or ones. -/
def Bin (l : List Int) : Prop := ∀ c ∈ l, c = 48 ∨ c = 49
def wt (l : List Int) : Nat := (l.filter fun c => c = 49).length
theorem wt_cons (c : Int) (l : List Int) : wt (c :: l) = (if c = 49 then 1 else 0) + wt l := by
  unfold wt
  by_cases z : c = 49
  · simp [z]; omega
  · simp [z]
theorem bin_getD {l : List Int} (h : Bin l) (i : Nat) (hi : i < l.length) : l.getD i 0 = 48 ∨ l.getD i 0 = 49 := by
  rw [List.getD_eq_getElem?_getD, List.getElem?_eq_getElem hi]
  exact h _ (List.getElem_mem hi)
theorem good_l0 (l : List Int) (h : Bin l) (hl : l.length ≤ 100000) (m : Nat) : ∀ (i F : Nat), i + m = l.length → fec_good.l0 (F + m + 1) (strOfNums l) (l.length : Int) (i : Int) = some true := by
  induction m with
  | zero => intro i F hi; rw [fec_good.l0, if_neg (by omega)]
  | succ m ih =>
    intro i F hi
    have hb := bin_getD h i (by omega)
    have h3 : wrap64 ((i : Int) + 1) = ((i + 1 : Nat) : Int) := by unfold wrap64; omega
    rw [show F + (m + 1) + 1 = (F + m + 1) + 1 by omega, fec_good.l0, if_pos (by omega), if_pos (by omega), if_pos (by rw [size_str]; omega), bt_str l i (by omega) (by omega) (by omega), h3]
    rcases hb with z | z
    · rw [if_pos z]; exact ih (i + 1) F (by omega)
    · rw [if_neg (by omega), if_pos z]; exact ih (i + 1) F (by omega)
theorem good_eq (l : List Int) (h : Bin l) (hl : l.length ≤ 100000) : ∃ k, fec_good.f k (strOfNums l) = some true := by
  refine ⟨0 + l.length + 1, ?_⟩
  unfold fec_good.f
  rw [size_str]
  exact good_l0 l h hl l.length 0 0 (by omega)
theorem weight_l0 (l : List Int) (h : Bin l) (hl : l.length ≤ 100000) (m : Nat) : ∀ (i F c : Nat), i + m = l.length → c ≤ i → bits_Weight.l0 (F + m + 1) (strOfNums l) (c : Int) (l.length : Int) (i : Int) = some ((c + wt (l.drop i) : Nat) : Int) := by
  induction m with
  | zero => intro i F c hi hc; rw [bits_Weight.l0, if_neg (by omega), List.drop_eq_nil_of_le (by omega)]; rfl
  | succ m ih =>
    intro i F c hi hc
    have hb := bin_getD h i (by omega)
    have h3 : wrap64 ((i : Int) + 1) = ((i + 1 : Nat) : Int) := by unfold wrap64; omega
    have h4 : wrap64 ((c : Int) + 1) = ((c + 1 : Nat) : Int) := by unfold wrap64; omega
    have hg : l.getD i 0 = l[i] := by rw [List.getD_eq_getElem?_getD, List.getElem?_eq_getElem (show i < l.length by omega)]; rfl
    rw [show F + (m + 1) + 1 = (F + m + 1) + 1 by omega, bits_Weight.l0, if_pos (by omega), if_pos (by omega), if_pos (by rw [size_str]; omega), bt_str l i (by omega) (by omega) (by omega), h3, h4]
    by_cases z : l.getD i 0 = 49
    · rw [if_pos z, ih (i + 1) F (c + 1) (by omega) (by omega)]
      rw [hg] at z
      rw [List.drop_eq_getElem_cons (show i < l.length by omega), wt_cons, if_pos z, Nat.add_assoc]
    · rw [if_neg z, ih (i + 1) F c (by omega) (by omega)]
      rw [hg] at z
      rw [List.drop_eq_getElem_cons (show i < l.length by omega), wt_cons, if_neg z, Nat.zero_add]
theorem weight_eq (l : List Int) (h : Bin l) (hl : l.length ≤ 100000) (F : Nat) (hF : l.length < F) : bits_Weight.f F (strOfNums l) = some ((wt l : Nat) : Int) := by
  obtain ⟨G, rfl⟩ : ∃ G, F = G + l.length + 1 := ⟨F - l.length - 1, by omega⟩
  unfold bits_Weight.f
  rw [size_str]
  have := weight_l0 l h hl l.length 0 G 0 (by omega) (by omega)
  simpa using this
end Go.Proofs.Ytkdncfbbhbmaaaa.Br
