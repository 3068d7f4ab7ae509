/- MediumShifts: for all places and transmissions, if everything happens later, as many transmissions are heard at the later time, and the same ones are clear: the plain statement. -/
import Derived.Test.YtkdncfbbhbmaaaaQf13
import Derived.Test.YtkdncfbbhbmaaaaPTalks
namespace Go.Proofs.Ytkdncfbbhbmaaaa.Pure
set_option linter.unusedVariables false
open Go.RowKit Go.Proofs.Ytkdncfbbhbmaaaa.Q Go.Proofs.YtkdncfbbhbmaaaaW.PrintWords Go.Proofs.YtkdncfbbhbmaaaaW.PrintLast Go.Proofs.YtkdncfbbhbmaaaaW.PrintMore Go.Proofs.Ytkdncfbbhbmaaaa.Br Go.Proofs.Ytkdncfbbhbmaaaa.K
def shift (v : Int) (t : Tk) : Tk := ⟨t.f0, t.f1 + v, t.f2⟩
theorem beg_shift (p : List Int) (v : Int) (t : Tk) (j : Int) : beg p (shift v t) j = beg p t j + v := by
  show t.f1 + v + mx (rd p t.f0 - rd p j) (rd p j - rd p t.f0) = t.f1 + mx (rd p t.f0 - rd p j) (rd p j - rd p t.f0) + v
  omega
theorem hrd_shift (p : List Int) (v : Int) (t : Tk) (j τ : Int) : hrd p j (τ + v) (shift v t) = hrd p j τ t := by
  unfold hrd
  rw [beg_shift]
  have e1 : (beg p t j + v ≤ τ + v) ↔ (beg p t j ≤ τ) := by omega
  have e2 : (τ + v < beg p t j + v + (shift v t).f2) ↔ (τ < beg p t j + t.f2) := by show (τ + v < beg p t j + v + t.f2) ↔ _; omega
  rw [decide_eq_decide.2 e1, decide_eq_decide.2 e2]
theorem cnt_shift (p : List Int) (v : Int) (x : List Tk) (j τ : Int) : cnt p (x.map (shift v)) j (τ + v) = cnt p x j τ := by
  unfold cnt
  rw [List.filter_map, List.length_map]
  congr 2
  funext t
  exact hrd_shift p v t j τ
theorem meets_shift (p : List Int) (v : Int) (x y : Tk) : meets p (shift v x) (shift v y) ↔ meets p x y := by
  unfold meets Br.mt
  constructor <;> rintro ⟨j, hj, h1, h2⟩ <;> refine ⟨j, hj, ?_⟩ <;> rw [beg_shift, beg_shift] at * <;> simp only [shift] at * <;> omega
theorem getD_shift (v : Int) (x : List Tk) (i : Nat) (h : i < x.length) : (x.map (shift v)).getD i z48 = shift v (x.getD i z48) := by
  rw [getD_get _ i (by simpa using h), getD_get x i h, List.getElem_map]
theorem hits_shift (p : List Int) (v : Int) (x : List Tk) (i : Nat) (h : i < x.length) : hits p (x.map (shift v)) i 0 ↔ hits p x i 0 := by
  unfold hits
  rw [List.length_map]
  constructor <;> rintro ⟨j, h0, h1, h2, h3⟩ <;> refine ⟨j, h0, h1, h2, ?_⟩ <;> rw [getD_shift v x i h, getD_shift v x j h1, meets_shift] at * <;> exact h3
theorem vt_shift (p : List Int) (v : Int) (x : List Tk) (hx : VTs p x) (h0 : 0 ≤ v) (h1 : v ≤ 1000) : VT p (x.map (shift v)) := by
  refine ⟨by rw [List.length_map]; exact hx.1.1, fun t ht => ?_⟩
  obtain ⟨u, hu, rfl⟩ := List.mem_map.1 ht
  obtain ⟨g0, g1, g2, g3, g4, g5⟩ := hx.1.2 u hu
  have g6 := hx.2 u hu
  exact ⟨g0, g1, by show 0 ≤ u.f1 + v; omega, by show u.f1 + v ≤ 2000; omega, g4, g5⟩
theorem shifts_end (p : List Int) (x : List Tk) (hp : VP p) (hx : VTs p x) (at_ : Nat) (hat : at_ < p.length) (τ v : Int) (h0 : 0 ≤ τ) (h1 : τ ≤ 500) (v0 : 0 ≤ v) (v1 : v ≤ 1000) (m : Nat) : ∀ (i : Nat), i + m = x.length →
    patchbaykeep1_MediumShifts.l0 (100 + m + 1) (at_ : Int) τ v p x ((x.map (shift v)).take i ++ x.drop i) (x.length : Int) (i : Int) = some true := by
  have h6 := hx.1.1
  induction m with
  | zero =>
    intro i hi
    have e : (x.map (shift v)).take i ++ x.drop i = x.map (shift v) := by
      rw [List.take_of_length_le (by rw [List.length_map]; omega), List.drop_eq_nil_of_le (by omega), List.append_nil]
    obtain ⟨F, hF⟩ : ∃ F : Nat, F = 100 := ⟨_, rfl⟩
    rw [e, show 100 + 0 + 1 = F + 1 by omega]
    simp only [patchbaykeep1_MediumShifts.l0]
    subst hF
    have hy := vt_shift p v x hx v0 v1
    obtain ⟨R, r1, r2, r3⟩ := clear_f p x hp hx.1
    obtain ⟨S, s1, s2, s3⟩ := clear_f p _ hp hy
    rw [List.length_map] at s2 s3
    have hRS : R = S := clear_ext R S x.length _ _ r2 s2 r3 s3 (fun j hj => not_congr (hits_shift p v x j hj).symm)
    rw [if_neg (by omega), show wrap64 (τ + v) = τ + v by unfold wrap64; omega, heard_k p x at_ τ hp hx.1 hat h0 (by omega), heard_k p _ at_ (τ + v) hp hy hat (by omega) (by omega), r1, s1, cnt_shift]
    simp only [Option.bind_some, if_true]
    have hw : patchbaykeep1_mediumWorks.f 100 = some true := by decide +kernel
    rw [hw, hRS, equal_f S (by omega) 100 (by decide)]
    rfl
  | succ m ih =>
    intro i hi
    have hlt : i < x.length := by omega
    obtain ⟨F, hF⟩ : ∃ F : Nat, F = 100 + m + 1 := ⟨_, rfl⟩
    rw [show 100 + (m + 1) + 1 = F + 1 by omega]
    simp only [patchbaykeep1_MediumShifts.l0]
    subst hF
    have hl : ((x.map (shift v)).take i ++ x.drop i).length = x.length := by simp; omega
    have hg : rd_T48 ((x.map (shift v)).take i ++ x.drop i) (i : Int) = x[i] := by
      rw [rdT_get _ i (by omega), List.getElem_append_right (by rw [List.length_take, List.length_map]; omega), List.getElem_drop]
      congr 1
      rw [List.length_take, List.length_map]
      omega
    obtain ⟨g0, g1, g2, g3, g4, g5⟩ := hx.1.2 _ (List.getElem_mem hlt)
    have g6 := hx.2 _ (List.getElem_mem hlt)
    rw [if_pos (by omega), if_pos (by omega), if_pos (by omega), hg, w1 i (by omega), Int.toNat_natCast, show wrap64 (x[i].f1 + v) = x[i].f1 + v by unfold wrap64; omega]
    have hs : ((x.map (shift v)).take i ++ x.drop i).set i (⟨x[i].f0, x[i].f1 + v, x[i].f2⟩ : Tk) = (x.map (shift v)).take (i + 1) ++ x.drop (i + 1) := by
      have hti : ((x.map (shift v)).take i).length = i := by rw [List.length_take, List.length_map]; omega
      rw [List.set_append_right _ _ (by omega), hti, Nat.sub_self, List.drop_eq_getElem_cons hlt, List.set_cons_zero, List.take_succ_eq_append_getElem (by rw [List.length_map]; exact hlt), List.append_assoc, List.getElem_map]
      rfl
    rw [hs]
    exact ih (i + 1) (by omega)
theorem MediumShifts (l0 : List Int) (l1 : List Tk) (a2 a3 a4 : Int) (hm0 : l0.length ≤ maxLen) (hw0 : ∀ x ∈ l0, (Lit.int .i64 x).wf = true) (hm1 : l1.length ≤ maxLen) (hw1 : ∀ x ∈ l1, (Lit.int .i64 x.f0).wf = true ∧ (Lit.int .i64 x.f1).wf = true ∧ (Lit.int .i64 x.f2).wf = true)
    (w2 : (Lit.int .i64 a2).wf = true) (w3 : (Lit.int .i64 a3).wf = true) (w4 : (Lit.int .i64 a4).wf = true) : ∃ k, patchbaykeep1_MediumShifts.f k l0 l1 a2 a3 a4 = some true := by
  obtain ⟨p, x, h20, hp, hx⟩ := talks_f l0 l1 20 (Nat.le_refl _)
  have h6 := hx.1.1
  have hk : patchbaykeep1_talks.f (100 + x.length + 1) l0 l1 = some (p, x) := by
    obtain ⟨p', x', h', _, _⟩ := talks_f l0 l1 (100 + x.length + 1) (by omega)
    have mono : ∀ n, LeO (patchbaykeep1_talks.f 20 l0 l1) (patchbaykeep1_talks.f (20 + n) l0 l1) := fun n => by
      induction n with
      | zero => exact LeO.refl _
      | succ n ih => exact LeO.trans ih (patchbaykeep1_talks.mono l0 l1 (20 + n))
    have := mono (100 + x.length + 1 - 20) _ h20
    rwa [show 20 + (100 + x.length + 1 - 20) = 100 + x.length + 1 by omega] at this
  have hp1 := hp.1
  have hp6 := hp.2.1
  have f2 := within_f a2 p.length (by omega) (by omega)
  have f3 : patchbaykeep1_within.f a3 500 = _ := within_f a3 500 (by decide) (by decide)
  have f4 : patchbaykeep1_within.f a4 1000 = _ := within_f a4 1000 (by decide) (by decide)
  have g2 := withinN_lt a2 p.length (by omega)
  have g3 := withinN_lt a3 500 (by decide)
  have g4 := withinN_lt a4 1000 (by decide)
  refine ⟨100 + x.length + 1, ?_⟩
  unfold patchbaykeep1_MediumShifts.f
  rw [hk]
  simp only [Option.bind_some]
  rw [f2, f3, f4]
  generalize withinN a2 p.length = u2 at *
  generalize withinN a3 500 = u3 at *
  generalize withinN a4 1000 = u4 at *
  simp only [Option.bind_some]
  unfold Ext.slices_Clone.f
  rw [if_pos (by omega)]
  simp only [Option.bind_some]
  have h := shifts_end p x hp hx u2 g2 u3 u4 (by omega) (by omega) (by omega) (by omega) x.length 0 (by omega)
  rw [List.take_zero, List.drop_zero, List.nil_append] at h
  exact h
end Go.Proofs.Ytkdncfbbhbmaaaa.Pure
