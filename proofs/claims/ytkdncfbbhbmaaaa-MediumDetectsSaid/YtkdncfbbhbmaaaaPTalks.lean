/- 'talks' makes valid places and transmissions; slices.Equal and slices.Reverse as plain functions. -/
import Derived.Test.YtkdncfbbhbmaaaaPMedium
import Derived.Test.YtkdncfbbhbmaaaaQf45
namespace Go.Proofs.Ytkdncfbbhbmaaaa.Br
open Go.RowKit Go.Proofs.Ytkdncfbbhbmaaaa.Q Go.Proofs.YtkdncfbbhbmaaaaW.PrintWords Go.Proofs.YtkdncfbbhbmaaaaW.PrintLast Go.Proofs.YtkdncfbbhbmaaaaW.PrintMore Go.Proofs.Ytkdncfbbhbmaaaa.K
/-- Transmissions that 'talks' makes. -/
def VTs (p : List Int) (x : List Tk) : Prop := VT p x ∧ ∀ t ∈ x, t.f1 ≤ 299
theorem talks_l1 (p : List Int) (hp : VP p) (L : List Tk) (hL : L.length ≤ 6) (m : Nat) : ∀ (k i : Nat) (acc : List Tk), i + m = L.length → m < k → acc.length = i → (∀ t ∈ acc, OKT p t ∧ t.f1 ≤ 299) → ∃ x, patchbaykeep1_talks.l1 k p acc L (L.length : Int) (i : Int) = some (p, x) ∧ VTs p x := by
  induction m with
  | zero =>
    intro k i acc hi hk ha hall
    obtain ⟨k, rfl⟩ : ∃ m, k = m + 1 := ⟨k - 1, by omega⟩
    refine ⟨acc, ?_, ⟨by omega, fun t ht => (hall t ht).1⟩, fun t ht => (hall t ht).2⟩
    simp only [patchbaykeep1_talks.l1]
    rw [if_neg (by omega)]
  | succ m ih =>
    intro k i acc hi hk ha hall
    obtain ⟨k, rfl⟩ : ∃ m, k = m + 1 := ⟨k - 1, by omega⟩
    have hp1 := hp.1
    have hp6 := hp.2.1
    have f1 := within_f (rd_T48 L (i : Int)).f0 p.length (by omega) (by omega)
    have f2 : patchbaykeep1_within.f (rd_T48 L (i : Int)).f1 300 = _ := within_f (rd_T48 L (i : Int)).f1 300 (by decide) (by decide)
    have f3 : patchbaykeep1_within.f (rd_T48 L (i : Int)).f2 120 = _ := within_f (rd_T48 L (i : Int)).f2 120 (by decide) (by decide)
    have g1 := withinN_lt (rd_T48 L (i : Int)).f0 p.length (by omega)
    have g2 := withinN_lt (rd_T48 L (i : Int)).f1 300 (by decide)
    have g3 := withinN_lt (rd_T48 L (i : Int)).f2 120 (by decide)
    simp only [patchbaykeep1_talks.l1]
    rw [if_pos (by omega), if_pos (by omega), if_pos (by omega), f1, f2, f3]
    generalize withinN (rd_T48 L (i : Int)).f0 p.length = u1 at *
    generalize withinN (rd_T48 L (i : Int)).f1 300 = u2 at *
    generalize withinN (rd_T48 L (i : Int)).f2 120 = u3 at *
    simp only [Option.bind_some]
    rw [if_pos (by omega), w1 i (by omega), show wrap64 (1 + (u3 : Int)) = 1 + (u3 : Int) by unfold wrap64; omega]
    refine ih k (i + 1) _ (by omega) (by omega) (by simp [ha]) (fun t ht => ?_)
    rcases List.mem_append.1 ht with z | z
    · exact hall t z
    · obtain rfl := List.mem_singleton.1 z
      exact ⟨⟨by show (0 : Int) ≤ u1; omega, by show (u1 : Int) < p.length; omega, by show (0 : Int) ≤ u2; omega, by show (u2 : Int) ≤ 2000; omega, by show (1 : Int) ≤ 1 + u3; omega, by show (1 : Int) + u3 ≤ 120; omega⟩, by show (u2 : Int) ≤ 299; omega⟩
theorem mn6 (n : Nat) : mn (n : Int) 6 = ((min n 6 : Nat) : Int) := by
  unfold mn
  split <;> omega
theorem talks_j1 (p : List Int) (hp : VP p) (l1 : List Tk) (k : Nat) (hk : 10 ≤ k) : ∃ x, patchbaykeep1_talks.j1 k l1 p = some (p, x) ∧ VTs p x := by
  obtain ⟨k, rfl⟩ : ∃ m, k = m + 1 := ⟨k - 1, by omega⟩
  simp only [patchbaykeep1_talks.j1]
  rw [mn6, if_pos (by omega), if_pos (by omega), Int.toNat_natCast]
  simp only [Option.bind_some]
  have hl : (l1.take (min l1.length 6)).length = min l1.length 6 := by rw [List.length_take]; omega
  exact talks_l1 p hp (l1.take (min l1.length 6)) (by omega) (l1.take (min l1.length 6)).length k 0 [] (by omega) (by omega) rfl (fun t ht => by cases ht)
theorem talks_l0 (L : List Int) (hL : L.length ≤ 6) (l1 : List Tk) (m : Nat) : ∀ (k i : Nat) (acc : List Int), i + m = L.length → m + 11 ≤ k → acc.length = i → (∀ z ∈ acc, 0 ≤ z ∧ z ≤ 40) → ∃ p x, patchbaykeep1_talks.l0 k l1 acc L (L.length : Int) (i : Int) = some (p, x) ∧ VP p ∧ VTs p x := by
  induction m with
  | zero =>
    intro k i acc hi hk ha hall
    obtain ⟨k, rfl⟩ : ∃ m, k = m + 1 := ⟨k - 1, by omega⟩
    simp only [patchbaykeep1_talks.l0]
    rw [if_neg (by omega)]
    by_cases h0 : (acc.length : Int) = 0
    · rw [if_pos h0]
      have hp : VP [0] := vp_of [0] (by decide) (by decide) (fun z hz => by obtain rfl := List.mem_singleton.1 hz; decide)
      obtain ⟨x, h1, h2⟩ := talks_j1 [0] hp l1 k (by omega)
      exact ⟨[0], x, h1, hp, h2⟩
    · rw [if_neg h0]
      have hp : VP acc := vp_of acc (by omega) (by omega) hall
      obtain ⟨x, h1, h2⟩ := talks_j1 acc hp l1 k (by omega)
      exact ⟨acc, x, h1, hp, h2⟩
  | succ m ih =>
    intro k i acc hi hk ha hall
    obtain ⟨k, rfl⟩ : ∃ m, k = m + 1 := ⟨k - 1, by omega⟩
    have f1 : patchbaykeep1_within.f (rd L (i : Int)) 41 = _ := within_f (rd L (i : Int)) 41 (by decide) (by decide)
    have g1 := withinN_lt (rd L (i : Int)) 41 (by decide)
    simp only [patchbaykeep1_talks.l0]
    rw [if_pos (by omega), if_pos (by omega), if_pos (by omega), f1]
    generalize withinN (rd L (i : Int)) 41 = u at *
    simp only [Option.bind_some]
    rw [if_pos (by omega), w1 i (by omega)]
    refine ih k (i + 1) _ (by omega) (by omega) (by simp [ha]) (fun z hz => ?_)
    rcases List.mem_append.1 hz with q | q
    · exact hall z q
    · obtain rfl := List.mem_singleton.1 q
      omega
theorem talks_f (l0 : List Int) (l1 : List Tk) (k : Nat) (hk : 20 ≤ k) : ∃ p x, patchbaykeep1_talks.f k l0 l1 = some (p, x) ∧ VP p ∧ VTs p x := by
  unfold patchbaykeep1_talks.f
  rw [mn6, if_pos (by omega), if_pos (by omega), Int.toNat_natCast]
  have hl : (l0.take (min l0.length 6)).length = min l0.length 6 := by rw [List.length_take]; omega
  exact talks_l0 (l0.take (min l0.length 6)) (by omega) l1 (l0.take (min l0.length 6)).length k 0 [] (by omega) (by omega) rfl (fun z hz => by cases hz)
/-- More rounds tell the same. -/
theorem heard_k (p : List Int) (x : List Tk) (j : Nat) (τ : Int) (hp : VP p) (hx : VT p x) (hj : j < p.length) (h0 : 0 ≤ τ) (h1 : τ ≤ 1000000000) : medium_Heard.f 100 p x (j : Int) τ = some (((cnt p x j τ : Nat) : Int), 0) := heard_f p x j τ hp hx hj h0 h1 70
theorem equal_l0 (a : List Bool) (ha : a.length ≤ 6) (m : Nat) : ∀ k i, i + m = a.length → m < k → slices_Equal_bool_bool.l0 k a a (a.length : Int) (i : Int) = some true := by
  induction m with
  | zero =>
    intro k i hi hk
    obtain ⟨k, rfl⟩ : ∃ m, k = m + 1 := ⟨k - 1, by omega⟩
    simp only [slices_Equal_bool_bool.l0]
    rw [if_neg (by omega)]
  | succ m ih =>
    intro k i hi hk
    obtain ⟨k, rfl⟩ : ∃ m, k = m + 1 := ⟨k - 1, by omega⟩
    simp only [slices_Equal_bool_bool.l0]
    rw [if_pos (by omega), if_pos (by omega), if_pos (by omega), if_pos (by omega), if_neg (by simp), w1 i (by omega)]
    exact ih k (i + 1) (by omega) (by omega)
theorem equal_f (a : List Bool) (ha : a.length ≤ 6) (k : Nat) (hk : 7 ≤ k) : slices_Equal_bool_bool.f k a a = some true := by
  unfold slices_Equal_bool_bool.f
  rw [if_pos rfl]
  exact equal_l0 a ha a.length k 0 (by omega) (by omega)
theorem clear_ext (R S : List Bool) (n : Nat) (P Q : Nat → Prop) (hR : R.length = n) (hS : S.length = n) (h1 : ∀ j, j < n → ∃ b, R[j]? = some b ∧ (b = true ↔ P j)) (h2 : ∀ j, j < n → ∃ b, S[j]? = some b ∧ (b = true ↔ Q j)) (h : ∀ j, j < n → (P j ↔ Q j)) : R = S := by
  apply List.ext_getElem?
  intro j
  by_cases hj : j < n
  · obtain ⟨b, e1, i1⟩ := h1 j hj
    obtain ⟨c, e2, i2⟩ := h2 j hj
    rw [e1, e2]
    congr 1
    rw [Bool.eq_iff_iff, i1, i2]
    exact h j hj
  · rw [List.getElem?_eq_none (by omega), List.getElem?_eq_none (by omega)]
end Go.Proofs.Ytkdncfbbhbmaaaa.Br
