/- MediumAlone: for all places and transmissions, a transmission is clear exactly if it is clear alone and together with each other one: the plain statement. -/
import Derived.Test.YtkdncfbbhbmaaaaQf7
import Derived.Test.YtkdncfbbhbmaaaaPTalks
namespace Go.Proofs.Ytkdncfbbhbmaaaa.Pure
set_option linter.unusedVariables false
set_option linter.unusedSimpArgs false
open Go.RowKit Go.Proofs.Ytkdncfbbhbmaaaa.Q Go.Proofs.YtkdncfbbhbmaaaaW.PrintWords Go.Proofs.YtkdncfbbhbmaaaaW.PrintLast Go.Proofs.YtkdncfbbhbmaaaaW.PrintMore Go.Proofs.Ytkdncfbbhbmaaaa.Br Go.Proofs.Ytkdncfbbhbmaaaa.K
theorem rounds_le {α : Type} (f : Nat → Option α) (h : ∀ k, LeO (f k) (f (k + 1))) (a b : Nat) (hab : a ≤ b) (r : α) (hr : f a = some r) : f b = some r := by
  obtain ⟨n, rfl⟩ := Nat.exists_eq_add_of_le hab
  induction n with
  | zero => exact hr
  | succ n ih => exact h (a + n) r (ih (Nat.le_add_right _ _))
theorem clear_k (p : List Int) (x : List Tk) (hp : VP p) (hx : VT p x) (k : Nat) (hk : 100 ≤ k) : ∃ R : List Bool, medium_Clear.f k p x = some (R, 0) ∧ R.length = x.length ∧ ∀ j, j < x.length → ∃ b, R[j]? = some b ∧ (b = true ↔ ¬ hits p x j 0) := by
  obtain ⟨R, h1, h2, h3⟩ := clear_f p x hp hx
  exact ⟨R, rounds_le (fun k => medium_Clear.f k p x) (fun k => medium_Clear.mono p x k) 100 k hk _ h1, h2, h3⟩
theorem rdOf_get (R : List Bool) (i : Nat) (b : Bool) (h : R[i]? = some b) : rdOf false R (i : Int) = b := by
  unfold rdOf
  rw [Int.toNat_natCast, List.getD_eq_getElem?_getD, h]
  rfl
theorem single (p : List Int) (a : Tk) (hp : VP p) (ha : OKT p a) (k : Nat) (hk : 100 ≤ k) : ∃ S : List Bool, medium_Clear.f k p [a] = some (S, 0) ∧ S.length = 1 ∧ rdOf false S 0 = true := by
  obtain ⟨S, h1, h2, h3⟩ := clear_k p [a] hp ⟨by simp, fun t ht => by obtain rfl := List.mem_singleton.1 ht; exact ha⟩ k hk
  obtain ⟨b, e, hb⟩ := h3 0 (by simp)
  refine ⟨S, h1, h2, ?_⟩
  have : b = true := hb.2 (by
    rintro ⟨j, _, g1, g2, _⟩
    simp only [List.length_cons, List.length_nil] at g1
    omega)
  rw [this] at e
  exact rdOf_get S 0 true e
theorem pair_ (p : List Int) (a c : Tk) (hp : VP p) (ha : OKT p a) (hc : OKT p c) (k : Nat) (hk : 100 ≤ k) : ∃ S : List Bool, medium_Clear.f k p [a, c] = some (S, 0) ∧ S.length = 2 ∧ (rdOf false S 0 = true ↔ ¬ meets p a c) := by
  obtain ⟨S, h1, h2, h3⟩ := clear_k p [a, c] hp ⟨by simp, fun t ht => by
    rcases List.mem_cons.1 ht with z | z
    · rw [z]; exact ha
    · obtain rfl := List.mem_singleton.1 z; exact hc⟩ k hk
  obtain ⟨b, e, hb⟩ := h3 0 (by simp)
  refine ⟨S, h1, h2, ?_⟩
  rw [show rdOf false S 0 = b from rdOf_get S 0 b e, hb]
  refine not_congr ⟨?_, fun z => ⟨1, by decide, by simp, by decide, z⟩⟩
  rintro ⟨j, _, g1, g2, g3⟩
  simp only [List.length_cons, List.length_nil] at g1
  obtain rfl : j = 1 := by omega
  exact g3
theorem alone_l1 (p : List Int) (x : List Tk) (R : List Bool) (hp : VP p) (hx : VT p x) (hl : R.length = x.length) (i : Nat) (hi : i < x.length) (rb : Bool) (hR : R[i]? = some rb) (hrb : rb = true ↔ ¬ hits p x i 0) (m : Nat) :
    ∀ (k j : Nat) (b : Bool), j + m = x.length → 100 ≤ k → (b = true ↔ ∀ q, q < j → i ≠ q → ¬ meets p (x.getD i z48) (x.getD q z48)) →
    patchbaykeep1_MediumAlone.l1 (k + m + 1) p x R (i : Int) b (x.length : Int) (i : Int) (x.length : Int) (j : Int) = patchbaykeep1_MediumAlone.l0 k p x R (x.length : Int) ((i + 1 : Nat) : Int) := by
  have h6 := hx.1
  induction m with
  | zero =>
    intro k j b hj hk hb
    obtain ⟨F, hF⟩ : ∃ F : Nat, F = k := ⟨_, rfl⟩
    rw [show k + 0 + 1 = F + 1 by omega]
    simp only [patchbaykeep1_MediumAlone.l1]
    subst hF
    have e : rb = b := by
      rw [Bool.eq_iff_iff, hrb, hb]
      constructor
      · intro z q h1 h2 h3
        exact z ⟨q, Nat.zero_le _, by omega, h2, h3⟩
      · rintro z ⟨q, _, h1, h2, h3⟩
        exact z q (by omega) h2 h3
    rw [if_neg (by omega), if_pos (by omega), if_pos (by omega), rdOf_get R i rb hR, e, if_neg (by simp), w1 i (by omega)]
  | succ m ih =>
    intro k j b hj hk hb
    have hlt : j < x.length := by omega
    obtain ⟨F, hF⟩ : ∃ F : Nat, F = k + m + 1 := ⟨_, rfl⟩
    rw [show k + (m + 1) + 1 = F + 1 by omega]
    simp only [patchbaykeep1_MediumAlone.l1]
    rw [if_pos (by omega), w1 j (by omega)]
    by_cases c1 : i = j
    · rw [if_pos (by omega), hF]
      refine ih k (j + 1) b (by omega) hk (hb.trans ⟨fun z q h1 h2 => z q (by omega) h2, fun z q h1 h2 => z q (by omega) h2⟩)
    · rw [if_neg (by omega), if_pos (by omega), if_pos (by omega), if_pos (by omega), if_pos (by omega), rdT_get x i hi, rdT_get x j hlt]
      obtain ⟨S, s1, s2, s3⟩ := pair_ p x[i] x[j] hp (hx.2 _ (List.getElem_mem hi)) (hx.2 _ (List.getElem_mem hlt)) F (by omega)
      have s1' : medium_Clear.f F p [(⟨x[i].f0, x[i].f1, x[i].f2⟩ : Tk), (⟨x[j].f0, x[j].f1, x[j].f2⟩ : Tk)] = some (S, 0) := s1
      rw [s1']
      simp only [Option.bind_some]
      rw [s2]
      have next : ∀ b' : Bool, (b' = true ↔ b = true ∧ ¬ meets p x[i] x[j]) → patchbaykeep1_MediumAlone.l1 F p x R (i : Int) b' (x.length : Int) (i : Int) (x.length : Int) ((j + 1 : Nat) : Int) = patchbaykeep1_MediumAlone.l0 k p x R (x.length : Int) ((i + 1 : Nat) : Int) := fun b' hb' => by
        rw [hF]
        refine ih k (j + 1) b' (by omega) hk ?_
        rw [hb', hb]
        constructor
        · rintro ⟨z1, z2⟩ q h1 h2
          rcases Nat.lt_or_ge q j with h3 | h3
          · exact z1 q h3 h2
          · obtain rfl : q = j := by omega
            rw [getD_get x i hi, getD_get x q hlt]
            exact z2
        · intro z
          refine ⟨fun q h1 h2 => z q (by omega) h2, ?_⟩
          have := z j (by omega) c1
          rwa [getD_get x i hi, getD_get x j hlt] at this
      cases b with
      | true =>
        rw [if_pos rfl, if_pos (by decide), if_pos (by decide)]
        exact next _ (by rw [s3]; simp)
      | false =>
        rw [if_neg (by decide)]
        exact next false (by simp)
theorem alone_l0 (p : List Int) (x : List Tk) (R : List Bool) (hp : VP p) (hx : VT p x) (hl : R.length = x.length) (hR : ∀ j, j < x.length → ∃ b, R[j]? = some b ∧ (b = true ↔ ¬ hits p x j 0)) (m : Nat) :
    ∀ (k i : Nat), i + m = x.length → 100 ≤ k → patchbaykeep1_MediumAlone.l0 (k + m * (x.length + 3) + 1) p x R (x.length : Int) (i : Int) = some true := by
  have h6 := hx.1
  induction m with
  | zero =>
    intro k i hi hk
    obtain ⟨F, hF⟩ : ∃ F : Nat, F = k + 0 * (x.length + 3) := ⟨_, rfl⟩
    rw [← hF]
    simp only [patchbaykeep1_MediumAlone.l0]
    rw [if_neg (by omega)]
  | succ m ih =>
    intro k i hi hk
    have hlt : i < x.length := by omega
    obtain ⟨F, hF⟩ : ∃ F : Nat, F = (k + m * (x.length + 3) + 1) + x.length + 1 := ⟨_, rfl⟩
    rw [show k + (m + 1) * (x.length + 3) + 1 = (F + 1) + 1 by rw [hF, Nat.succ_mul]; omega]
    obtain ⟨G, hG⟩ : ∃ G : Nat, G = F + 1 := ⟨_, rfl⟩
    rw [← hG]
    simp only [patchbaykeep1_MediumAlone.l0]
    rw [w1 i (by omega), if_pos (by omega), if_pos (by omega), if_pos (by omega), if_pos (by omega), Int.toNat_natCast, Int.toNat_natCast]
    have e : (x.take (i + 1)).drop i = [x[i]] := by
      rw [List.take_succ_eq_append_getElem hlt, List.drop_append_of_le_length (by rw [List.length_take]; omega), List.drop_eq_nil_of_le (by rw [List.length_take]; omega), List.nil_append]
    obtain ⟨S, s1, s2, s3⟩ := single p x[i] hp (hx.2 _ (List.getElem_mem hlt)) G (by omega)
    rw [e, s1]
    simp only [Option.bind_some]
    rw [s2, if_pos (by decide), if_pos (by decide), s3, hG]
    simp only [patchbaykeep1_MediumAlone.j2]
    obtain ⟨rb, r1, r2⟩ := hR i hlt
    have h := alone_l1 p x R hp hx hl i hlt rb r1 r2 x.length (k + m * (x.length + 3) + 1) 0 true (by omega) (by omega) ⟨fun _ q h1 => absurd h1 (Nat.not_lt_zero q), fun _ => rfl⟩
    have h' : patchbaykeep1_MediumAlone.l1 F p x R (i : Int) true (x.length : Int) (i : Int) (x.length : Int) 0 = patchbaykeep1_MediumAlone.l0 (k + m * (x.length + 3) + 1) p x R (x.length : Int) ((i + 1 : Nat) : Int) := by rw [hF]; exact h
    rw [h']
    exact ih k (i + 1) (by omega) hk
theorem MediumAlone (l0 : List Int) (l1 : List Tk) (hm0 : l0.length ≤ maxLen) (hw0 : ∀ x ∈ l0, (Lit.int .i64 x).wf = true) (hm1 : l1.length ≤ maxLen) (hw1 : ∀ x ∈ l1, (Lit.int .i64 x.f0).wf = true ∧ (Lit.int .i64 x.f1).wf = true ∧ (Lit.int .i64 x.f2).wf = true) : ∃ k, patchbaykeep1_MediumAlone.f k l0 l1 = some true := by
  obtain ⟨p, x, h20, hp, hx⟩ := talks_f l0 l1 20 (Nat.le_refl _)
  have h6 := hx.1.1
  obtain ⟨K, hK⟩ : ∃ K : Nat, K = 100 + x.length * (x.length + 3) + 1 := ⟨_, rfl⟩
  have ht := rounds_le (fun k => patchbaykeep1_talks.f k l0 l1) (fun k => patchbaykeep1_talks.mono l0 l1 k) 20 (K + 1) (by omega) _ h20
  have hw := rounds_le (fun k => patchbaykeep1_mediumWorks.f k) (fun k => patchbaykeep1_mediumWorks.mono k) 40 (K + 1) (by omega) _ mediumWorks_true
  obtain ⟨R, r1, r2, r3⟩ := clear_k p x hp hx.1 (K + 1) (by omega)
  refine ⟨K + 1, ?_⟩
  unfold patchbaykeep1_MediumAlone.f
  rw [ht, hw]
  simp only [Option.bind_some, if_true]
  rw [r1]
  simp only [Option.bind_some, if_true]
  rw [r2]
  simp only [patchbaykeep1_MediumAlone.j0]
  rw [if_neg (by simp), hK]
  exact alone_l0 p x R hp hx.1 r2 r3 x.length 100 0 (by omega) (Nat.le_refl _)
end Go.Proofs.Ytkdncfbbhbmaaaa.Pure
