/- MediumOrder: for all places and transmissions, if the transmissions are listed in the opposite order, as many are heard, and the same ones are clear: the plain statement. -/
import Derived.Test.YtkdncfbbhbmaaaaQf15
import Derived.Test.YtkdncfbbhbmaaaaPTalks
namespace Go.Proofs.Ytkdncfbbhbmaaaa.Pure
set_option linter.unusedVariables false
open Go.RowKit Go.Proofs.Ytkdncfbbhbmaaaa.Q Go.Proofs.YtkdncfbbhbmaaaaW.PrintWords Go.Proofs.YtkdncfbbhbmaaaaW.PrintLast Go.Proofs.YtkdncfbbhbmaaaaW.PrintMore Go.Proofs.Ytkdncfbbhbmaaaa.Br Go.Proofs.Ytkdncfbbhbmaaaa.K
theorem reverseT_f (l : List Tk) (h : l.length ≤ 6) (K : Nat) : api_MediumTalk_50.f (K + 5) l = some l.reverse := by
  match l, h with
  | [], _ => simp [api_MediumTalk_50.f, api_MediumTalk_50.l0, wrap64]
  | [a], _ => simp [api_MediumTalk_50.f, api_MediumTalk_50.l0, wrap64]
  | [a, b], _ => simp [api_MediumTalk_50.f, api_MediumTalk_50.l0, wrap64, rd_T48]
  | [a, b, c], _ => simp [api_MediumTalk_50.f, api_MediumTalk_50.l0, wrap64, rd_T48]
  | [a, b, c, d], _ => simp [api_MediumTalk_50.f, api_MediumTalk_50.l0, wrap64, rd_T48]
  | [a, b, c, d, e], _ => simp [api_MediumTalk_50.f, api_MediumTalk_50.l0, wrap64, rd_T48]
  | [a, b, c, d, e, f], _ => simp [api_MediumTalk_50.f, api_MediumTalk_50.l0, wrap64, rd_T48]
theorem reverseB_f (l : List Bool) (h : l.length ≤ 6) (K : Nat) : slices_Reverse_bool_bool.f (K + 5) l = some l.reverse := by
  match l, h with
  | [], _ => simp [slices_Reverse_bool_bool.f, slices_Reverse_bool_bool.l0, wrap64]
  | [a], _ => simp [slices_Reverse_bool_bool.f, slices_Reverse_bool_bool.l0, wrap64]
  | [a, b], _ => simp [slices_Reverse_bool_bool.f, slices_Reverse_bool_bool.l0, wrap64, rdOf]
  | [a, b, c], _ => simp [slices_Reverse_bool_bool.f, slices_Reverse_bool_bool.l0, wrap64, rdOf]
  | [a, b, c, d], _ => simp [slices_Reverse_bool_bool.f, slices_Reverse_bool_bool.l0, wrap64, rdOf]
  | [a, b, c, d, e], _ => simp [slices_Reverse_bool_bool.f, slices_Reverse_bool_bool.l0, wrap64, rdOf]
  | [a, b, c, d, e, f], _ => simp [slices_Reverse_bool_bool.f, slices_Reverse_bool_bool.l0, wrap64, rdOf]
theorem cnt_rev (p : List Int) (x : List Tk) (j τ : Int) : cnt p x.reverse j τ = cnt p x j τ := by
  unfold cnt
  rw [List.filter_reverse, List.length_reverse]
theorem getD_rev (x : List Tk) (i : Nat) (h : i < x.length) : x.reverse.getD i z48 = x.getD (x.length - 1 - i) z48 := by
  rw [getD_get _ i (by simpa using h), getD_get x _ (by omega), List.getElem_reverse]
theorem hits_rev (p : List Int) (x : List Tk) (i : Nat) (h : i < x.length) : hits p x.reverse (x.length - 1 - i) 0 ↔ hits p x i 0 := by
  have key : ∀ k, k < x.length → x.reverse.getD (x.length - 1 - k) z48 = x.getD k z48 := fun k hk => by
    rw [getD_rev x _ (by omega)]
    congr 1
    omega
  unfold hits
  rw [List.length_reverse]
  constructor
  · rintro ⟨j, h0, h1, h2, h3⟩
    refine ⟨x.length - 1 - j, Nat.zero_le _, by omega, by omega, ?_⟩
    rw [key i h, getD_rev x j h1] at h3
    exact h3
  · rintro ⟨j, h0, h1, h2, h3⟩
    refine ⟨x.length - 1 - j, Nat.zero_le _, by omega, by omega, ?_⟩
    rw [key i h, key j h1]
    exact h3
theorem vt_rev (p : List Int) (x : List Tk) (hx : VT p x) : VT p x.reverse := ⟨by rw [List.length_reverse]; exact hx.1, fun t ht => hx.2 t (List.mem_reverse.1 ht)⟩
theorem MediumOrder (l0 : List Int) (l1 : List Tk) (a2 a3 : Int) (hm0 : l0.length ≤ maxLen) (hw0 : ∀ x ∈ l0, (Lit.int .i64 x).wf = true) (hm1 : l1.length ≤ maxLen) (hw1 : ∀ x ∈ l1, (Lit.int .i64 x.f0).wf = true ∧ (Lit.int .i64 x.f1).wf = true ∧ (Lit.int .i64 x.f2).wf = true)
    (w2 : (Lit.int .i64 a2).wf = true) (w3 : (Lit.int .i64 a3).wf = true) : ∃ k, patchbaykeep1_MediumOrder.f k l0 l1 a2 a3 = some true := by
  obtain ⟨p, x, ht, hp, hx⟩ := talks_f l0 l1 100 (by decide)
  have h6 := hx.1.1
  have hp1 := hp.1
  have hp6 := hp.2.1
  have f2 := within_f a2 p.length (by omega) (by omega)
  have f3 : patchbaykeep1_within.f a3 500 = _ := within_f a3 500 (by decide) (by decide)
  have g2 := withinN_lt a2 p.length (by omega)
  have g3 := withinN_lt a3 500 (by decide)
  have hw : patchbaykeep1_mediumWorks.f 100 = some true := by decide +kernel
  refine ⟨100, ?_⟩
  unfold patchbaykeep1_MediumOrder.f
  rw [ht]
  simp only [Option.bind_some]
  rw [f2, f3, hw]
  generalize withinN a2 p.length = u2 at *
  generalize withinN a3 500 = u3 at *
  simp only [Option.bind_some, if_true]
  unfold Ext.slices_Clone.f
  rw [if_pos (by omega)]
  simp only [Option.bind_some]
  have hr := reverseT_f x h6 95
  rw [show 95 + 5 = 100 from rfl] at hr
  obtain ⟨R, r1, r2, r3⟩ := clear_f p x hp hx.1
  obtain ⟨S, s1, s2, s3⟩ := clear_f p _ hp (vt_rev p x hx.1)
  rw [List.length_reverse] at s2 s3
  have hrs := reverseB_f S (by omega) 95
  rw [show 95 + 5 = 100 from rfl] at hrs
  have hRS : R = S.reverse := by
    refine clear_ext R S.reverse x.length _ (fun j => ¬ hits p x.reverse (x.length - 1 - j) 0) r2 (by rw [List.length_reverse]; exact s2) r3 (fun j hj => ?_) (fun j hj => not_congr (hits_rev p x j hj).symm)
    obtain ⟨b, e1, i1⟩ := s3 (x.length - 1 - j) (by omega)
    refine ⟨b, ?_, i1⟩
    rw [List.getElem?_reverse (by omega), s2]
    exact e1
  rw [hr]
  simp only [Option.bind_some]
  rw [heard_k p x u2 u3 hp hx.1 g2 (by omega) (by omega), heard_k p x.reverse u2 u3 hp (vt_rev p x hx.1) g2 (by omega) (by omega), r1, s1, cnt_rev]
  simp only [Option.bind_some, if_true]
  rw [hrs]
  simp only [Option.bind_some, if_true]
  rw [← hRS, equal_f R (by omega) 100 (by decide)]
  rfl
end Go.Proofs.Ytkdncfbbhbmaaaa.Pure
