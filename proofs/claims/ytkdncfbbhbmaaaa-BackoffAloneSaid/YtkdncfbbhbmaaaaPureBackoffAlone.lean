/- BackoffAlone: for every number of stations and all draws, no two stations send in the same slot, and a single one sends in slot 0: the plain statement. -/
import Derived.Test.YtkdncfbbhbmaaaaQf12
import Derived.Test.YtkdncfbbhbmaaaaPContend
namespace Go.Proofs.Ytkdncfbbhbmaaaa.Pure
open Go.RowKit Go.Proofs.Ytkdncfbbhbmaaaa.Q Go.Proofs.YtkdncfbbhbmaaaaW.PrintWords Go.Proofs.YtkdncfbbhbmaaaaW.PrintLast Go.Proofs.YtkdncfbbhbmaaaaW.PrintMore Go.Proofs.Ytkdncfbbhbmaaaa.K Go.Proofs.Ytkdncfbbhbmaaaa.Br
set_option linter.unusedVariables false
set_option linter.unusedSimpArgs false
theorem works_alone : patchbaykeep1_backoffWorks.f 40 = some true := by decide +kernel
theorem index_none (l : List Int) (a : Int) (hl : l.length ≤ 1000) (h : ∀ i, i < l.length → l.getD i 0 ≠ a) (m : Nat) : ∀ i, i + m = l.length → Ev (fun k => slices_Index_int_int.l0 k l a (l.length : Int) (i : Int)) (-1) := by
  induction m with
  | zero =>
    intro i hi
    refine Ev.step (f := fun _ => some (-1)) (fun k => ?_) (Ev.now _)
    rw [slices_Index_int_int.l0, if_neg (by omega)]
  | succ m ih =>
    intro i hi
    refine Ev.step (fun k => ?_) (ih (i + 1) (by omega))
    have hw : wrap64 ((i : Int) + 1) = ((i + 1 : Nat) : Int) := by unfold wrap64; omega
    simp only [slices_Index_int_int.l0]
    rw [if_pos (by omega), if_pos (by omega), if_pos (by omega), if_neg (fun e => h i (by omega) e.symm), hw]
theorem contains_none (l : List Int) (a : Int) (hl : l.length ≤ 1000) (h : ∀ i, i < l.length → l.getD i 0 ≠ a) : Ev (fun k => slices_Contains_int_int.f k l a) false :=
  Ev.bind (index_none l a hl h l.length 0 (by omega)) (Ev.now _)
theorem alone_l0 (n : Nat) (hn : n ≤ 16) (out : List Int) (ht : Slots n out) (m : Nat) : ∀ i, i + m = n → Ev (fun k => patchbaykeep1_BackoffAlone.l0 k out out (out.length : Int) (i : Int)) true := by
  obtain ⟨hl, ht⟩ := ht
  induction m with
  | zero =>
    intro i hi
    refine Ev.step (f := fun _ => some true) (fun k => ?_) (Ev.now _)
    rw [patchbaykeep1_BackoffAlone.l0, if_neg (by omega)]
  | succ m ih =>
    intro i hi
    have hnext := ih (i + 1) (by omega)
    have hw : wrap64 ((i : Int) + 1) = ((i + 1 : Nat) : Int) := by unfold wrap64; omega
    have hrd : rd out (i : Int) = out.getD i 0 := rfl
    obtain ⟨h1, h2⟩ := ht i (by omega)
    by_cases h0 : out.getD i 0 ≥ 0
    · have hc := contains_none (out.take i) (out.getD i 0) (by rw [List.length_take]; omega) (fun j hj => by
        rw [List.length_take] at hj
        rw [List.getD_eq_getElem?_getD, List.getElem?_take, if_pos (by omega), ← List.getD_eq_getElem?_getD]
        exact h2 j (by omega) h0)
      refine Ev.step (f := fun k => (slices_Contains_int_int.f k (out.take i) (out.getD i 0)).bind fun t426 => (if t426 = true then (some false) else (patchbaykeep1_BackoffAlone.l0 k out out (out.length : Int) (wrap64 ((i : Int) + 1))))) (fun k => ?_) (Ev.bind hc (by simpa [hw] using hnext))
      rw [patchbaykeep1_BackoffAlone.l0, if_pos (by omega), if_pos (by omega), if_pos (by omega), hrd, if_neg (by omega), if_pos h0, if_pos (by omega), Int.toNat_natCast]
    · refine Ev.step (fun k => ?_) hnext
      simp only [patchbaykeep1_BackoffAlone.l0]
      rw [if_pos (by omega), if_pos (by omega), if_pos (by omega), hrd, if_neg (by omega), if_neg h0, hw]
theorem BackoffAlone : patchbaykeep1_BackoffAlone.Pure := by
  intro a0 l1 h0 h1 h2 h3
  have f0 : patchbaykeep1_within.f a0 17 = _ := within_f a0 17 (by decide) (by decide)
  have hn := withinN_lt a0 17 (by decide)
  generalize withinN a0 17 = n at f0 hn
  have hmn : mn (l1.length : Int) 100 = ((min l1.length 100 : Nat) : Int) := by unfold mn; split <;> omega
  have hd : (l1.take (min l1.length 100)).length ≤ 256 := by rw [List.length_take]; omega
  have hw : Ev (fun k => patchbaykeep1_backoffWorks.f k) true := Ev.of (fun k => patchbaykeep1_backoffWorks.mono k) works_alone
  -- what Contend tells
  have hc : ∃ out, Ev (fun k => backoff_Contend.f k (n : Int) (l1.take (min l1.length 100))) (out, 0) ∧ Slots n out ∧ (n = 1 → rd out 0 = 0) := by
    by_cases e : n = 1
    · subst e
      refine ⟨[0], contend_one _ hd, ⟨rfl, fun i hi => ⟨?_, fun j hj => by omega⟩⟩, fun _ => rfl⟩
      rw [show i = 0 by omega]
      decide
    · obtain ⟨out, ho, ht⟩ := contend_ev n (by omega) (l1.take (min l1.length 100)) hd
      exact ⟨out, ho, ht, fun q => absurd q e⟩
  obtain ⟨out, ho, ht, h1n⟩ := hc
  have hl : out.length = n := ht.1
  have hend : Ev (fun k => patchbaykeep1_BackoffAlone.j0 k out false) true := by
    refine Ev.step (fun k => ?_) (alone_l0 n (by omega) out ht n 0 (by omega))
    simp only [patchbaykeep1_BackoffAlone.j0]
    rw [if_neg (by decide)]
    rfl
  refine Ev.rounds (g := fun k => patchbaykeep1_BackoffAlone.f k a0 l1) ?_
  simp only [patchbaykeep1_BackoffAlone.f]
  rw [f0]
  simp only [Option.bind_some, hmn, Int.toNat_natCast]
  have c1 : (0 : Int) ≤ ((min l1.length 100 : Nat) : Int) := by omega
  have c2 : ((min l1.length 100 : Nat) : Int) ≤ (l1.length : Int) := by omega
  simp only [if_pos c1, if_pos c2]
  refine Ev.bind hw ?_
  simp only [if_true]
  refine Ev.bind ho ?_
  simp only [if_true]
  have c3 : (out.length : Int) = (n : Int) := by omega
  simp only [if_pos c3]
  by_cases e : (n : Int) = 1
  · have c4 : 0 < (out.length : Int) := by omega
    simp only [if_pos e, if_pos c4, h1n (by omega)]
    exact hend
  · simp only [if_neg e]
    exact hend
end Go.Proofs.Ytkdncfbbhbmaaaa.Pure
