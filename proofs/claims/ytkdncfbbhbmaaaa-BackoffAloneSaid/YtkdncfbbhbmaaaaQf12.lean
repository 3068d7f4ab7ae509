/- A program's text (wip/drive.py runs the kit's printer over contracts of this session): Go functions as Lean functions, and that the calls do what these say. -/
import Derived.Test.YtkdncfbbhbmaaaaQ0
import Derived.Test.YtkdncfbbhbmaaaaQf21
import Derived.Test.YtkdncfbbhbmaaaaQf36
import Derived.Test.YtkdncfbbhbmaaaaQf41
import Derived.Test.YtkdncfbbhbmaaaaQf42
namespace Go.Proofs.Ytkdncfbbhbmaaaa.Q
open Go.RowKit Go.Proofs.YtkdncfbbhbmaaaaW.PrintWords Go.Proofs.YtkdncfbbhbmaaaaW.PrintLast Go.Proofs.YtkdncfbbhbmaaaaW.PrintMore
attribute [local go_sem] max2_int min2_int max_two min_two max_three min_three max_four min_four   -- for this text's walks alone
set_option linter.unusedVariables false
set_option linter.unusedSimpArgs false

/-! ### patchbaykeep1_BackoffAlone: function 12 -/
mutual
def patchbaykeep1_BackoffAlone.j0 : Nat → List Int → Bool → Option (Bool)
  | 0, _, _ => none
  | k + 1, x5, x41 => if x41 = true then (some false) else (patchbaykeep1_BackoffAlone.l0 k x5 x5 (x5.length : Int) 0)
def patchbaykeep1_BackoffAlone.l0 : Nat → List Int → List Int → Int → Int → Option (Bool)
  | 0, _, _, _, _ => none
  | k + 1, x5, x42, x43, x44 => if x44 < x43 then (if 0 ≤ x44 then (if x44 < (x42.length : Int) then (if (rd x42 x44) < (-1) then (some false) else (if (rd x42 x44) ≥ 0 then (if x44 ≤ (x5.length : Int) then ((slices_Contains_int_int.f k (x5.take (x44 : Int).toNat) (rd x42 x44)).bind fun t426 => (if t426 = true then (some false) else (patchbaykeep1_BackoffAlone.l0 k x5 x42 x43 (wrap64 (x44 + 1))))) else (none)) else (patchbaykeep1_BackoffAlone.l0 k x5 x42 x43 (wrap64 (x44 + 1))))) else (none)) else (none)) else (some true)
end
def patchbaykeep1_BackoffAlone.f (k : Nat) (a0 : Int) (l1 : List Int) : Option (Bool) := (patchbaykeep1_within.f a0 17).bind fun t413 => (if 0 ≤ (mn (l1.length : Int) 100) then (if (mn (l1.length : Int) 100) ≤ (l1.length : Int) then ((patchbaykeep1_backoffWorks.f k).bind fun t415 => (if t415 = true then ((backoff_Contend.f k t413 (l1.take ((mn (l1.length : Int) 100) : Int).toNat)).bind fun bt416 => (if bt416.2 = 0 then (if (bt416.1.length : Int) = t413 then (if t413 = 1 then (if 0 < (bt416.1.length : Int) then (patchbaykeep1_BackoffAlone.j0 k bt416.1 ((rd bt416.1 0) != 0)) else (none)) else (patchbaykeep1_BackoffAlone.j0 k bt416.1 false)) else (patchbaykeep1_BackoffAlone.j0 k bt416.1 true)) else (patchbaykeep1_BackoffAlone.j0 k bt416.1 true))) else (some false))) else (none)) else (none))
theorem patchbaykeep1_BackoffAlone.mono_l : ∀ k, (∀ y0 y1, LeO (patchbaykeep1_BackoffAlone.j0 k y0 y1) (patchbaykeep1_BackoffAlone.j0 (k + 1) y0 y1)) ∧ (∀ y0 y1 y2 y3, LeO (patchbaykeep1_BackoffAlone.l0 k y0 y1 y2 y3) (patchbaykeep1_BackoffAlone.l0 (k + 1) y0 y1 y2 y3))
  | 0 => ⟨fun _ _ r h => by simp [patchbaykeep1_BackoffAlone.j0] at h, fun _ _ _ _ r h => by simp [patchbaykeep1_BackoffAlone.l0] at h⟩
  | k + 1 => by
    obtain ⟨ih0, ih1⟩ := patchbaykeep1_BackoffAlone.mono_l k
    refine ⟨?_, ?_⟩
    · intro y0 y1
      unfold patchbaykeep1_BackoffAlone.j0
      repeat' first
      | (with_reducible exact ih0 _ _)
      | (with_reducible exact ih1 _ _ _ _)
      | (with_reducible exact backoff_Contend.mono _ _ _)
      | (with_reducible exact patchbaykeep1_backoffWorks.mono _)
      | (with_reducible exact slices_Contains_int_int.mono _ _ _)
      | (with_reducible exact LeO.refl _)
      | (with_reducible exact LeO.none _)
      | (with_reducible refine LeO.ite ?_ ?_)
      | (with_reducible refine LeO.bind ?_ (fun _ => ?_))
      | exact ih0 _ _
      | exact ih1 _ _ _ _
      | exact backoff_Contend.mono _ _ _
      | exact patchbaykeep1_backoffWorks.mono _
      | exact slices_Contains_int_int.mono _ _ _
      | exact LeO.none _
      | refine LeO.ite ?_ ?_
      | refine LeO.bind ?_ (fun _ => ?_)
    · intro y0 y1 y2 y3
      unfold patchbaykeep1_BackoffAlone.l0
      repeat' first
      | (with_reducible exact ih0 _ _)
      | (with_reducible exact ih1 _ _ _ _)
      | (with_reducible exact backoff_Contend.mono _ _ _)
      | (with_reducible exact patchbaykeep1_backoffWorks.mono _)
      | (with_reducible exact slices_Contains_int_int.mono _ _ _)
      | (with_reducible exact LeO.refl _)
      | (with_reducible exact LeO.none _)
      | (with_reducible refine LeO.ite ?_ ?_)
      | (with_reducible refine LeO.bind ?_ (fun _ => ?_))
      | exact ih0 _ _
      | exact ih1 _ _ _ _
      | exact backoff_Contend.mono _ _ _
      | exact patchbaykeep1_backoffWorks.mono _
      | exact slices_Contains_int_int.mono _ _ _
      | exact LeO.none _
      | refine LeO.ite ?_ ?_
      | refine LeO.bind ?_ (fun _ => ?_)
theorem patchbaykeep1_BackoffAlone.mono : ∀ a0 a1 k, LeO (patchbaykeep1_BackoffAlone.f k a0 a1) (patchbaykeep1_BackoffAlone.f (k + 1) a0 a1) := by
  intro a0 a1 k
  obtain ⟨ih0, ih1⟩ := patchbaykeep1_BackoffAlone.mono_l k
  unfold patchbaykeep1_BackoffAlone.f
  repeat' first
      | (with_reducible exact ih0 _ _)
      | (with_reducible exact ih1 _ _ _ _)
      | (with_reducible exact backoff_Contend.mono _ _ _)
      | (with_reducible exact patchbaykeep1_backoffWorks.mono _)
      | (with_reducible exact slices_Contains_int_int.mono _ _ _)
      | (with_reducible exact LeO.refl _)
      | (with_reducible exact LeO.none _)
      | (with_reducible refine LeO.ite ?_ ?_)
      | (with_reducible refine LeO.bind ?_ (fun _ => ?_))
      | exact ih0 _ _
      | exact ih1 _ _ _ _
      | exact backoff_Contend.mono _ _ _
      | exact patchbaykeep1_backoffWorks.mono _
      | exact slices_Contains_int_int.mono _ _ _
      | exact LeO.none _
      | refine LeO.ite ?_ ?_
      | refine LeO.bind ?_ (fun _ => ?_)
set_option maxHeartbeats 8000000 in
set_option maxRecDepth 100000 in
theorem patchbaykeep1_BackoffAlone.calls (k : Nat) (a0 : Int) (A1 : Option Addr) (c1 : Nat) (l1 : List Int) (r : Bool) (w : World) (hr1 : Kd.C (Kd.int .i64) w A1 l1.length l1) (hc1 : l1.length ≤ c1) (h : patchbaykeep1_BackoffAlone.f k a0 l1 = some r) :
    Calls Try.prog 12 #[.int .i64 a0, .slice A1 l1.length c1] w fun e w' => e = .returned (.bool r) ∧ Below w.heap.size w w' := by
  have HR1 := Aside0.mk hr1
  have HC1 := Aside0.mk hc1
  clear hr1 hc1
  have HB := Aside0.mk (Below.refl w.heap.size w)
  have H : ((patchbaykeep1_within.f a0 17).bind fun t413 => (if 0 ≤ (mn (l1.length : Int) 100) then (if (mn (l1.length : Int) 100) ≤ (l1.length : Int) then ((patchbaykeep1_backoffWorks.f k).bind fun t415 => (if t415 = true then ((backoff_Contend.f k t413 (l1.take ((mn (l1.length : Int) 100) : Int).toNat)).bind fun bt416 => (if bt416.2 = 0 then (if (bt416.1.length : Int) = t413 then (if t413 = 1 then (if 0 < (bt416.1.length : Int) then (patchbaykeep1_BackoffAlone.j0 k bt416.1 ((rd bt416.1 0) != 0)) else (none)) else (patchbaykeep1_BackoffAlone.j0 k bt416.1 false)) else (patchbaykeep1_BackoffAlone.j0 k bt416.1 true)) else (patchbaykeep1_BackoffAlone.j0 k bt416.1 true))) else (some false))) else (none)) else (none))) = some r := h
  clear h
  replace H := Option.bind_eq_some_iff.mp H
  obtain ⟨t413, A30, H⟩ := H
  replace H : (if 0 ≤ (mn (l1.length : Int) 100) then (if (mn (l1.length : Int) 100) ≤ (l1.length : Int) then ((patchbaykeep1_backoffWorks.f k).bind fun t415 => (if t415 = true then ((backoff_Contend.f k t413 (l1.take ((mn (l1.length : Int) 100) : Int).toNat)).bind fun bt416 => (if bt416.2 = 0 then (if (bt416.1.length : Int) = t413 then (if t413 = 1 then (if 0 < (bt416.1.length : Int) then (patchbaykeep1_BackoffAlone.j0 k bt416.1 ((rd bt416.1 0) != 0)) else (none)) else (patchbaykeep1_BackoffAlone.j0 k bt416.1 false)) else (patchbaykeep1_BackoffAlone.j0 k bt416.1 true)) else (patchbaykeep1_BackoffAlone.j0 k bt416.1 true))) else (some false))) else (none)) else (none)) = some r := H
  have A3 := Aside0.mk A30
  clear A30
  obtain ⟨ji4, hji4⟩ : ∃ j_ : Int, (mn (l1.length : Int) 100) = j_ := ⟨_, rfl⟩
  replace H : (if 0 ≤ (ji4) then (if (ji4) ≤ (l1.length : Int) then ((patchbaykeep1_backoffWorks.f k).bind fun t415 => (if t415 = true then ((backoff_Contend.f k t413 (l1.take ((ji4) : Int).toNat)).bind fun bt416 => (if bt416.2 = 0 then (if (bt416.1.length : Int) = t413 then (if t413 = 1 then (if 0 < (bt416.1.length : Int) then (patchbaykeep1_BackoffAlone.j0 k bt416.1 ((rd bt416.1 0) != 0)) else (none)) else (patchbaykeep1_BackoffAlone.j0 k bt416.1 false)) else (patchbaykeep1_BackoffAlone.j0 k bt416.1 true)) else (patchbaykeep1_BackoffAlone.j0 k bt416.1 true))) else (some false))) else (none)) else (none)) = some r := by first | (rw [hji4] at H; exact H) | (simp only [hji4] at H ⊢; exact H)
  (try rw [hji4] at A3)
  (try (have hji4h : ji4 ≤ 100 := by (rw [← hji4]; unfold mn; (repeat' split) <;> omega)))
  (try (have hji4g : ji4 ≤ 64 := by omega))
  (try (have hji4l : 0 ≤ ji4 := by (rw [← hji4]; unfold mn; (repeat' split) <;> omega)))
  (try (have hji4m : 0 ≤ ji4 := by omega))
  have hji4_ : (if 100 < (l1.length : Int) then 100 else (l1.length : Int)) = ji4 := hji4
  by_cases c5 : 0 ≤ (ji4)
  · rw [if_pos c5] at H
    have c5b0 := eq_true c5
    try (have c5b0q := c5b0; simp only [ByteArray.size_append, ByteArray.size_extract, Nat.min_self, Nat.sub_zero, Int.natCast_add] at c5b0q)
    have c5b1 : decide (0 ≤ (ji4)) = true := decide_eq_true c5
    clear c5
    by_cases c6 : (ji4) ≤ (l1.length : Int)
    · rw [if_pos c6] at H
      have c6b0 := eq_true c6
      try (have c6b0q := c6b0; simp only [ByteArray.size_append, ByteArray.size_extract, Nat.min_self, Nat.sub_zero, Int.natCast_add] at c6b0q)
      have c6b1 : decide ((ji4) ≤ (l1.length : Int)) = true := decide_eq_true c6
      try have HTk_ji4 := Aside0.mk (show ((l1.take ((ji4) : Int).toNat).length : Int) = max ji4 0 from by rw [List.length_take]; have h_ := of_decide_eq_true c6b1; omega)
      clear c6
      replace H := Option.bind_eq_some_iff.mp H
      obtain ⟨t415, A70, H⟩ := H
      replace H : (if t415 = true then ((backoff_Contend.f k t413 (l1.take ((ji4) : Int).toNat)).bind fun bt416 => (if bt416.2 = 0 then (if (bt416.1.length : Int) = t413 then (if t413 = 1 then (if 0 < (bt416.1.length : Int) then (patchbaykeep1_BackoffAlone.j0 k bt416.1 ((rd bt416.1 0) != 0)) else (none)) else (patchbaykeep1_BackoffAlone.j0 k bt416.1 false)) else (patchbaykeep1_BackoffAlone.j0 k bt416.1 true)) else (patchbaykeep1_BackoffAlone.j0 k bt416.1 true))) else (some false)) = some r := H
      have A7 := Aside0.mk A70
      clear A70
      by_cases c8 : t415 = true
      · subst c8
        have H1 : ((backoff_Contend.f k t413 (l1.take ((ji4) : Int).toNat)).bind fun bt416 => (if bt416.2 = 0 then (if (bt416.1.length : Int) = t413 then (if t413 = 1 then (if 0 < (bt416.1.length : Int) then (patchbaykeep1_BackoffAlone.j0 k bt416.1 ((rd bt416.1 0) != 0)) else (none)) else (patchbaykeep1_BackoffAlone.j0 k bt416.1 false)) else (patchbaykeep1_BackoffAlone.j0 k bt416.1 true)) else (patchbaykeep1_BackoffAlone.j0 k bt416.1 true))) = some r := by rw [if_pos rfl] at H; exact H
        clear H
        have H := H1
        clear H1
        replace H := Option.bind_eq_some_iff.mp H
        obtain ⟨⟨t416, t417⟩, A90, H⟩ := H
        replace H : (if t417 = 0 then (if (t416.length : Int) = t413 then (if t413 = 1 then (if 0 < (t416.length : Int) then (patchbaykeep1_BackoffAlone.j0 k t416 ((rd t416 0) != 0)) else (none)) else (patchbaykeep1_BackoffAlone.j0 k t416 false)) else (patchbaykeep1_BackoffAlone.j0 k t416 true)) else (patchbaykeep1_BackoffAlone.j0 k t416 true)) = some r := H
        have A9 := Aside0.mk A90
        clear A90
        have HC10 := Aside0.mk H
        clear H
        go_enter Try.func12, Try.ntmps12
        go_upto_region 6 with (first | ((with_reducible refine gate_callee (f := 21) rfl ?_); refine goesL_ (some 10) rfl rfl Try.func21 (by kernel_rfl) rfl #[.int .i64 a0, .int .i64 17] rfl (by (try simp only [List.map_toArray, List.map_cons, List.map_nil]); first | done | rfl | (simp only [List.length_drop, List.length_take]; rfl)) ?_; (with_reducible refine (patchbaykeep1_within.calls a0 17 t413 _ A3.out).mono ?_); rintro e w' ⟨rfl, ⟨nd, rfl⟩⟩; refine ⟨_, rfl, ?_⟩; obtain ⟨i011, hi011, _, hsz11, _⟩ := info_parts info3; obtain ⟨hcut11, hA11, hC11⟩ := print_take_of (P := Try.prog) (Value.int .i64) 0 40 3 .i64 Try.underlying40 hi011 hsz11 A1 c1 l1 (ji4) (of_decide_eq_true (by first | (with_reducible assumption) | assumption)) (of_decide_eq_true (by first | (with_reducible assumption) | assumption)) HC1.out; have HR414 := Aside0.mk (Kd.C_of_reads (h1 := fun _ => rfl) (hA11 _ (Kd.reads_of_C HR1.out))); have HC414 := Aside0.mk hC11; clear hA11 hC11 hi011 hsz11) | ((with_reducible refine gate_callee (f := 36) rfl ?_); refine goesL_ (some 16) rfl rfl Try.func36 (by kernel_rfl) rfl #[] rfl (by (try simp only [List.map_toArray, List.map_cons, List.map_nil]); first | done | rfl | (simp only [List.length_drop, List.length_take]; rfl)) ?_; (with_reducible refine (patchbaykeep1_backoffWorks.calls k  true _ A7.out).mono ?_); rintro e w12 ⟨rfl, hb⟩; refine ⟨_, rfl, ?_⟩; have n0_ := Aside0.mk (below_step (by repeat (first | (with_reducible first | exact HB.out | apply below_alloc | apply pw_below_drewN | apply below_drew1) | exact HB.out)) hb); clear HB; have HB := n0_; clear n0_; (try clear hb); (try clear hb2); (try clear hk); (try clear hi)) | ((with_reducible refine gate_callee (f := 42) rfl ?_); refine goesL_ (some 21) rfl rfl Try.func42 (by kernel_rfl) rfl #[.int .i64 t413, .slice A1 (l1.take ((ji4) : Int).toNat).length c1] rfl (by (try simp only [List.map_toArray, List.map_cons, List.map_nil]); first | done | (rw [show (l1.take ((ji4) : Int).toNat).length = (ji4).toNat from (by rw [List.length_take]; have h_ : ((ji4) : Int) ≤ (l1.length : Int) := of_decide_eq_true (by first | (with_reducible assumption) | assumption); omega)] <;> rfl) | (simp only [hji4]; rfl) | rfl | (simp only [List.length_drop, List.length_take]; rfl)) ?_; (with_reducible refine (backoff_Contend.calls k t413 _ _ (l1.take ((ji4) : Int).toNat) t416 t417 _ ?side1 ?side2 A9.out).mono ?_); (case side1 => repeat (first | exact (Kd.C_below HR414.out HB.out) | (with_reducible refine Kd.C_alloc ?_ _) | (with_reducible refine Kd.C_drewN ?_ _) | (with_reducible refine Kd.C_drew ?_))); (case side2 => exact HC414.out); rintro e w13 ⟨v418, rfl, ho0, hb⟩; refine ⟨_, rfl, ?_⟩; have n0_ := Aside0.mk (Kd.R_lower ho0 (below_size (by repeat (first | (with_reducible first | exact HB.out | apply below_alloc | apply pw_below_drewN | apply below_drew1) | exact HB.out)))); have n1_ := Aside0.mk (below_step (by repeat (first | (with_reducible first | exact HB.out | apply below_alloc | apply pw_below_drewN | apply below_drew1) | exact HB.out)) hb); clear HB; have HO419 := n0_; have HB := n1_; clear n0_ n1_; (try clear hb); (try clear hb2); (try clear hk); (try clear hi); (try clear ho0)))
        (try simp only [Act.put, List.setIfInBounds_toArray, List.set_cons_zero, List.set_cons_succ])
        go_cut [41] (fun v41 wc => ∃ (kq : Nat) (x41_9 : Bool), v41 = .bool x41_9 ∧ Aside0 (patchbaykeep1_BackoffAlone.j0 kq t416 x41_9 = some r) ∧ Aside0 (kq ≤ k) ∧ Aside0 (Kd.R (Kd.int .i64) 3 wc w.heap.size (fun _ => True) v418 t416) ∧ Aside0 (Below w.heap.size w wc))
        case first =>
          have H := HC10.out
          clear HC10
          by_cases c14 : t417 = 0
          · rw [if_pos c14] at H
            have c14b0 : (t417 == 0) = true := beq_iff_eq.mpr c14
            have c14b1 : (t417 != 0) = false := bne_eq_false_iff_eq.mpr c14
            clear c14
            (first | rw [c14b0] | (simp only [i64_w, i32_w]; rw [c14b0]) | skip)
            by_cases c15 : (t416.length : Int) = t413
            · rw [if_pos c15] at H
              have c15b0 : ((t416.length : Int) == t413) = true := beq_iff_eq.mpr c15
              have c15b1 : ((t416.length : Int) != t413) = false := bne_eq_false_iff_eq.mpr c15
              clear c15
              by_cases c16 : t413 = 1
              · rw [if_pos c16] at H
                have c16b0 : (t413 == 1) = true := beq_iff_eq.mpr c16
                have c16b1 : (t413 != 1) = false := bne_eq_false_iff_eq.mpr c16
                clear c16
                by_cases c17 : 0 < (t416.length : Int)
                · rw [if_pos c17] at H
                  have c17b0 : decide (0 < (t416.length : Int)) = true := decide_eq_true c17
                  have c17b1 : decide (0 < t416.length) = true := decide_eq_true (by omega)
                  clear c17
                  have H' := Aside0.mk H
                  clear H
                  obtain ⟨Ao18, co18, eo18⟩ := Kd.R_slice HO419.out
                  subst eo18
                  have p420 : 0 ≤ (0 : Int) := (by omega)
                  have q420 : 0 < (t416.length : Int) := of_decide_eq_true (by first | (with_reducible assumption) | assumption)
                  obtain ⟨ad420, e420, hx420_0⟩ := Kd.at_int (Kd.R_reads' HO419.out).2.2 0 p420 q420
                  cases e420
                  have qi420 : (0 < t416.length) = True := eq_true (by omega)
                  (try rw [show ((0 : Int)).toNat = 0 from rfl] at hx420_0)
                  (try rw [Addr.add_zero'] at hx420_0)
                  replace p420 := eq_true p420
                  replace q420 := eq_true q420
                  try (have q420mji4 := q420; rw [HTk_ji4.out] at q420mji4)
                  go_wp2
                  go_meet
                  case rel => exact ⟨_, (((rd t416 0) != 0)), (by first | rfl | (simp; done) | (simp [*]; done)), H', ⟨by first | omega | exact Nat.le_refl _⟩, ⟨by (with_reducible repeat (first | apply Kd.R_alloc | apply Kd.R_drewN | apply Kd.R_drew)); exact HO419.out⟩, ⟨by repeat (first | (with_reducible first | exact HB.out | apply below_alloc | apply pw_below_drewN | apply below_drew1) | exact HB.out)⟩⟩
                · rw [if_neg c17] at H
                  exact absurd H (by simp)
              · rw [if_neg c16] at H
                have c16b0 : (t413 == 1) = false := beq_eq_false_iff_ne.mpr c16
                have c16b1 : (t413 != 1) = true := bne_iff_ne.mpr c16
                have H' := Aside0.mk H
                clear H
                obtain ⟨Ao19, co19, eo19⟩ := Kd.R_slice HO419.out
                subst eo19
                go_wp2
                go_meet
                case rel => exact ⟨_, (false), (by first | rfl | (simp; done) | (simp [*]; done)), H', ⟨by first | omega | exact Nat.le_refl _⟩, ⟨by (with_reducible repeat (first | apply Kd.R_alloc | apply Kd.R_drewN | apply Kd.R_drew)); exact HO419.out⟩, ⟨by repeat (first | (with_reducible first | exact HB.out | apply below_alloc | apply pw_below_drewN | apply below_drew1) | exact HB.out)⟩⟩
            · rw [if_neg c15] at H
              have c15b0 : ((t416.length : Int) == t413) = false := beq_eq_false_iff_ne.mpr c15
              have c15b1 : ((t416.length : Int) != t413) = true := bne_iff_ne.mpr c15
              have H' := Aside0.mk H
              clear H
              obtain ⟨Ao20, co20, eo20⟩ := Kd.R_slice HO419.out
              subst eo20
              go_wp2
              go_meet
              case rel => exact ⟨_, (true), (by first | rfl | (simp; done) | (simp [*]; done)), H', ⟨by first | omega | exact Nat.le_refl _⟩, ⟨by (with_reducible repeat (first | apply Kd.R_alloc | apply Kd.R_drewN | apply Kd.R_drew)); exact HO419.out⟩, ⟨by repeat (first | (with_reducible first | exact HB.out | apply below_alloc | apply pw_below_drewN | apply below_drew1) | exact HB.out)⟩⟩
          · rw [if_neg c14] at H
            have c14b0 : (t417 == 0) = false := beq_eq_false_iff_ne.mpr c14
            have c14b1 : (t417 != 0) = true := bne_iff_ne.mpr c14
            (first | rw [c14b0] | (simp only [i64_w, i32_w]; rw [c14b0]) | skip)
            have H' := Aside0.mk H
            clear H
            go_wp2
            go_meet
            case rel => exact ⟨_, (true), (by first | rfl | (simp; done) | (simp [*]; done)), H', ⟨by first | omega | exact Nat.le_refl _⟩, ⟨by (with_reducible repeat (first | apply Kd.R_alloc | apply Kd.R_drewN | apply Kd.R_drew)); exact HO419.out⟩, ⟨by repeat (first | (with_reducible first | exact HB.out | apply below_alloc | apply pw_below_drewN | apply below_drew1) | exact HB.out)⟩⟩
        case rest =>
          clear HC10
          try clear c1
          try clear p1
          try clear c2
          try clear p2
          try clear c3
          try clear c4
          try clear p4
          try clear q4
          try clear hx4
          try clear qi4
          try clear c5
          try clear c5b0
          try clear c5b1
          try clear c6
          try clear c6b0
          try clear c6b1
          try clear c8
          try clear c12
          try clear c14
          try clear c14b0
          try clear c14b1
          try clear c15
          try clear c15b0
          try clear c15b1
          try clear c16
          try clear c16b0
          try clear c16b1
          try clear c17
          try clear c17b0
          try clear c17b1
          try clear hx420_0
          try clear p420
          try clear q420
          obtain ⟨kq, x41_9, rfl, HA, HJ9, HO_5, HB⟩ := hcut
          cases kq with
          | zero => exact absurd HA.out (by simp [patchbaykeep1_BackoffAlone.j0])
          | succ kj9 =>
            have H := HA.out
            clear HA
            simp only [patchbaykeep1_BackoffAlone.j0] at H
            by_cases c21 : x41_9 = true
            · subst c21
              have H1 : (some false) = some r := by rw [if_pos rfl] at H; exact H
              clear H
              have H := H1
              clear H1
              obtain rfl := Option.some.inj H
              go_wp2
              go_ret
              exact ⟨by first | rfl | (simp [errW_none, errW_some] <;> rfl) | (simp only [← hji4]; first | rfl | (simp [errW_none, errW_some] <;> rfl)) | (simp [*, errW_none, errW_some] <;> rfl), by repeat (first | (with_reducible first | exact HB.out | apply below_alloc | apply pw_below_drewN | apply below_drew1) | exact HB.out)⟩
            · replace c21 := Bool.eq_false_iff.mpr c21
              subst c21
              have H1 : (patchbaykeep1_BackoffAlone.l0 kj9 t416 t416 (t416.length : Int) 0) = some r := by rw [if_neg (show ¬ (false = true) by decide)] at H; exact H
              clear H
              have H := H1
              clear H1
              have H' := Aside0.mk H
              clear H
              obtain ⟨Ao22, co22, eo22⟩ := Kd.R_slice HO_5.out
              subst eo22
              go_wp2
              go_loopg [44] kj9 (fun kq v44 w' => ∃ (x44_2 : Int), v44 = .int .i64 x44_2 ∧ Aside0 (patchbaykeep1_BackoffAlone.l0 kq t416 t416 (t416.length : Int) x44_2 = some r) ∧ Aside0 (kq ≤ kj9) ∧ Aside0 (Kd.R (Kd.int .i64) 3 w' w.heap.size (fun _ => True) (.slice Ao22 t416.length co22) t416) ∧ Aside0 (Kd.R (Kd.int .i64) 3 w' w.heap.size (fun _ => True) (.slice Ao22 t416.length co22) t416) ∧ Aside0 (Below w.heap.size w w'))
              case atStart => exact ⟨(0), (by first | rfl | (simp; done) | (simp [*]; done)), H', ⟨Nat.le_refl _⟩, ⟨by (with_reducible repeat (first | apply Kd.R_alloc | apply Kd.R_drewN | apply Kd.R_drew)); exact HO_5.out⟩, ⟨by (with_reducible repeat (first | apply Kd.R_alloc | apply Kd.R_drewN | apply Kd.R_drew)); exact HO_5.out⟩, ⟨by repeat (first | (with_reducible first | exact HB.out | apply below_alloc | apply pw_below_drewN | apply below_drew1) | exact HB.out)⟩⟩
              case round =>
                clear H'
                try clear c1
                try clear p1
                try clear c2
                try clear p2
                try clear c3
                try clear c4
                try clear p4
                try clear q4
                try clear hx4
                try clear qi4
                try clear c5
                try clear c5b0
                try clear c5b1
                try clear c6
                try clear c6b0
                try clear c6b1
                try clear c8
                try clear c12
                try clear c14
                try clear c14b0
                try clear c14b1
                try clear c15
                try clear c15b0
                try clear c15b1
                try clear c16
                try clear c16b0
                try clear c16b1
                try clear c17
                try clear c17b0
                try clear c17b1
                try clear c21
                try clear hx420_0
                try clear p1
                try clear p2
                try clear p4
                try clear p420
                try clear q4
                try clear q420
                obtain ⟨x44_2, rfl, HA, HK2, HO_5, HO_42, HB⟩ := hrel
                cases gk with
                | zero => exact absurd HA.out (by simp [patchbaykeep1_BackoffAlone.l0])
                | succ k2 =>
                  have H := HA.out
                  clear HA
                  simp only [patchbaykeep1_BackoffAlone.l0] at H
                  by_cases c23 : x44_2 < (t416.length : Int)
                  · rw [if_pos c23] at H
                    have c23b0 : decide (x44_2 < (t416.length : Int)) = true := decide_eq_true c23
                    clear c23
                    by_cases c24 : 0 ≤ x44_2
                    · rw [if_pos c24] at H
                      have c24b0 : decide (0 ≤ x44_2) = true := decide_eq_true c24
                      clear c24
                      by_cases c25 : x44_2 < (t416.length : Int)
                      · rw [if_pos c25] at H
                        have c25b0 : decide (x44_2 < (t416.length : Int)) = true := decide_eq_true c25
                        clear c25
                        by_cases c26 : (rd t416 x44_2) < (-1)
                        · rw [if_pos c26] at H
                          have c26b0 : decide ((rd t416 x44_2) < (-1)) = true := decide_eq_true c26
                          clear c26
                          obtain rfl := Option.some.inj H
                          have p421 : 0 ≤ (x44_2 : Int) := of_decide_eq_true (by first | (with_reducible assumption) | assumption)
                          have q421 : x44_2 < (t416.length : Int) := of_decide_eq_true (by first | (with_reducible assumption) | assumption)
                          obtain ⟨ad421, e421, hx421_0⟩ := Kd.at_int (Kd.R_reads' HO_42.out).2.2 x44_2 p421 q421
                          cases e421
                          replace p421 := eq_true p421
                          replace q421 := eq_true q421
                          try (have q421mji4 := q421; rw [HTk_ji4.out] at q421mji4)
                          go_wp2
                          go_ret
                          exact ⟨by first | rfl | (simp [errW_none, errW_some] <;> rfl) | (simp only [← hji4]; first | rfl | (simp [errW_none, errW_some] <;> rfl)) | (simp [*, errW_none, errW_some] <;> rfl), by repeat (first | (with_reducible first | exact HB.out | apply below_alloc | apply pw_below_drewN | apply below_drew1) | exact HB.out)⟩
                        · rw [if_neg c26] at H
                          have c26b0 : decide ((rd t416 x44_2) < (-1)) = false := decide_eq_false c26
                          clear c26
                          by_cases c27 : (rd t416 x44_2) ≥ 0
                          · rw [if_pos c27] at H
                            have c27b0 : decide (0 ≤ (rd t416 x44_2)) = true := decide_eq_true c27
                            clear c27
                            have c28b0 := eq_true (of_decide_eq_true (by first | (with_reducible assumption) | assumption) : 0 ≤ x44_2)
                            try (have c28b0q := c28b0; simp only [ByteArray.size_append, ByteArray.size_extract, Nat.min_self, Nat.sub_zero, Int.natCast_add] at c28b0q)
                            by_cases c29 : x44_2 ≤ (t416.length : Int)
                            · rw [if_pos c29] at H
                              have c29b0 := eq_true c29
                              try (have c29b0q := c29b0; simp only [ByteArray.size_append, ByteArray.size_extract, Nat.min_self, Nat.sub_zero, Int.natCast_add] at c29b0q)
                              have c29b1 : decide (x44_2 ≤ (t416.length : Int)) = true := decide_eq_true c29
                              clear c29
                              obtain ⟨y422, hy422⟩ : ∃ y_ : List Int, y_ = (t416.take (x44_2 : Int).toNat) := ⟨_, rfl⟩
                              replace H : ((slices_Contains_int_int.f k2 y422 (rd t416 x44_2)).bind fun t426 => (if t426 = true then (some false) else (patchbaykeep1_BackoffAlone.l0 k2 t416 t416 (t416.length : Int) (wrap64 (x44_2 + 1))))) = some r := by first | (rw [hy422]; with_reducible exact H) | (have H2_ := (Option.bind_some _ _).symm.trans H; rw [hy422]; with_reducible exact H2_) | (have H2_ := (Option.bind_some _ _).symm.trans H; with_reducible exact H2_) | with_reducible exact H | (rw [hy422]; exact H) | exact H
                              have Ny422 := Aside0.mk hy422
                              clear hy422
                              replace H := Option.bind_eq_some_iff.mp H
                              obtain ⟨t426, A300, H⟩ := H
                              replace H : (if t426 = true then (some false) else (patchbaykeep1_BackoffAlone.l0 k2 t416 t416 (t416.length : Int) (wrap64 (x44_2 + 1)))) = some r := H
                              have A30 := Aside0.mk A300
                              clear A300
                              by_cases c31 : t426 = true
                              · subst c31
                                have H1 : (some false) = some r := by rw [if_pos rfl] at H; exact H
                                clear H
                                have H := H1
                                clear H1
                                obtain rfl := Option.some.inj H
                                have p421 : 0 ≤ (x44_2 : Int) := of_decide_eq_true (by first | (with_reducible assumption) | assumption)
                                have q421 : x44_2 < (t416.length : Int) := of_decide_eq_true (by first | (with_reducible assumption) | assumption)
                                obtain ⟨ad421, e421, hx421_0⟩ := Kd.at_int (Kd.R_reads' HO_42.out).2.2 x44_2 p421 q421
                                cases e421
                                replace p421 := eq_true p421
                                replace q421 := eq_true q421
                                try (have q421mji4 := q421; rw [HTk_ji4.out] at q421mji4)
                                have q32 : (x44_2 : Int) ≤ ((t416.length : Int) : Int) := of_decide_eq_true (by first | (with_reducible assumption) | assumption)
                                obtain ⟨i032, hi032, _, hsz32, _⟩ := info_parts info3
                                have hroom32 : t416.length ≤ co22 := (Kd.R_reads' HO_5.out).2.1
                                have hC32 : Kd.C (Kd.int .i64) _ (some ad421) t416.length t416 := (Kd.R_reads' HO_5.out).2.2
                                have hcut32 := cut_to (P := Try.prog) 40 3 .i64 Try.underlying40 hi032 (some ad421) t416.length co22 x44_2 (of_decide_eq_true (by first | (with_reducible assumption) | assumption)) q32 hroom32
                                have hr32 := Kd.C_take (m := (x44_2 : Int).toNat) hC32 (by omega)
                                have hy32 : y422.length = (x44_2 : Int).toNat := (by rw [Ny422.out, List.length_take]; omega)
                                rw [← Ny422.out] at hr32
                                rw [← hy32] at hcut32
                                have HR425 := Aside0.mk hr32
                                have HC425 := Aside0.mk (show y422.length ≤ co22 from by omega)
                                clear hr32 hC32 hroom32 hi032 hsz32
                                have KY32 := Aside0.mk hy32
                                clear hy32
                                have KL32 := Aside0.mk (show (x44_2 : Int).toNat ≤ t416.length from by omega)
                                replace q32 := eq_true q32
                                try (have q32mji4 := q32; rw [HTk_ji4.out] at q32mji4)
                                go_wp2_with (first | (go_at_call 41; (with_reducible refine (slices_Contains_int_int.calls k2 _ _ y422 (rd t416 x44_2) true _ ?side1 ?side2 A30.out).mono ?_); (case side1 => repeat (first | exact (by repeat (first | (with_reducible exact HR425.out) | (with_reducible refine Kd.C_alloc ?_ _) | (with_reducible refine Kd.C_drewN ?_ _) | (with_reducible refine Kd.C_drew ?_) | exact HR425.out)) | (with_reducible refine Kd.C_alloc ?_ _) | (with_reducible refine Kd.C_drewN ?_ _) | (with_reducible refine Kd.C_drew ?_))); (case side2 => exact HC425.out); rintro e w' ⟨rfl, ⟨nd, rfl⟩⟩))
                                go_ret
                                exact ⟨by first | rfl | (simp [errW_none, errW_some] <;> rfl) | (simp only [← hji4]; first | rfl | (simp [errW_none, errW_some] <;> rfl)) | (simp [*, errW_none, errW_some] <;> rfl), by repeat (first | (with_reducible first | exact HB.out | apply below_alloc | apply pw_below_drewN | apply below_drew1) | exact HB.out)⟩
                              · replace c31 := Bool.eq_false_iff.mpr c31
                                subst c31
                                have H1 : (patchbaykeep1_BackoffAlone.l0 k2 t416 t416 (t416.length : Int) (wrap64 (x44_2 + 1))) = some r := by rw [if_neg (show ¬ (false = true) by decide)] at H; exact H
                                clear H
                                have H := H1
                                clear H1
                                have H' := Aside0.mk H
                                clear H
                                have p421 : 0 ≤ (x44_2 : Int) := of_decide_eq_true (by first | (with_reducible assumption) | assumption)
                                have q421 : x44_2 < (t416.length : Int) := of_decide_eq_true (by first | (with_reducible assumption) | assumption)
                                obtain ⟨ad421, e421, hx421_0⟩ := Kd.at_int (Kd.R_reads' HO_42.out).2.2 x44_2 p421 q421
                                cases e421
                                replace p421 := eq_true p421
                                replace q421 := eq_true q421
                                try (have q421mji4 := q421; rw [HTk_ji4.out] at q421mji4)
                                have q33 : (x44_2 : Int) ≤ ((t416.length : Int) : Int) := of_decide_eq_true (by first | (with_reducible assumption) | assumption)
                                obtain ⟨i033, hi033, _, hsz33, _⟩ := info_parts info3
                                have hroom33 : t416.length ≤ co22 := (Kd.R_reads' HO_5.out).2.1
                                have hC33 : Kd.C (Kd.int .i64) _ (some ad421) t416.length t416 := (Kd.R_reads' HO_5.out).2.2
                                have hcut33 := cut_to (P := Try.prog) 40 3 .i64 Try.underlying40 hi033 (some ad421) t416.length co22 x44_2 (of_decide_eq_true (by first | (with_reducible assumption) | assumption)) q33 hroom33
                                have hr33 := Kd.C_take (m := (x44_2 : Int).toNat) hC33 (by omega)
                                have hy33 : y422.length = (x44_2 : Int).toNat := (by rw [Ny422.out, List.length_take]; omega)
                                rw [← Ny422.out] at hr33
                                rw [← hy33] at hcut33
                                have HR425 := Aside0.mk hr33
                                have HC425 := Aside0.mk (show y422.length ≤ co22 from by omega)
                                clear hr33 hC33 hroom33 hi033 hsz33
                                have KY33 := Aside0.mk hy33
                                clear hy33
                                have KL33 := Aside0.mk (show (x44_2 : Int).toNat ≤ t416.length from by omega)
                                replace q33 := eq_true q33
                                try (have q33mji4 := q33; rw [HTk_ji4.out] at q33mji4)
                                go_wp2_with (first | (go_at_call 41; (with_reducible refine (slices_Contains_int_int.calls k2 _ _ y422 (rd t416 x44_2) false _ ?side1 ?side2 A30.out).mono ?_); (case side1 => repeat (first | exact (by repeat (first | (with_reducible exact HR425.out) | (with_reducible refine Kd.C_alloc ?_ _) | (with_reducible refine Kd.C_drewN ?_ _) | (with_reducible refine Kd.C_drew ?_) | exact HR425.out)) | (with_reducible refine Kd.C_alloc ?_ _) | (with_reducible refine Kd.C_drewN ?_ _) | (with_reducible refine Kd.C_drew ?_))); (case side2 => exact HC425.out); rintro e w' ⟨rfl, ⟨nd, rfl⟩⟩))
                                go_roundg k2
                                case measure => have := HJ9.out; have := HK2.out; omega
                                case rel => exact ⟨(wrap64 (x44_2 + 1)), (by first | rfl | (simp; done) | (simp [*]; done)), H', ⟨by have := HJ9.out; have := HK2.out; omega⟩, ⟨by (with_reducible repeat (first | apply Kd.R_alloc | apply Kd.R_drewN | apply Kd.R_drew)); exact HO_5.out⟩, ⟨by (with_reducible repeat (first | apply Kd.R_alloc | apply Kd.R_drewN | apply Kd.R_drew)); exact HO_42.out⟩, ⟨by repeat (first | (with_reducible first | exact HB.out | apply below_alloc | apply pw_below_drewN | apply below_drew1) | exact HB.out)⟩⟩
                            · rw [if_neg c29] at H
                              exact absurd H (by simp)
                          · rw [if_neg c27] at H
                            have c27b0 : decide (0 ≤ (rd t416 x44_2)) = false := decide_eq_false c27
                            clear c27
                            have H' := Aside0.mk H
                            clear H
                            have p421 : 0 ≤ (x44_2 : Int) := of_decide_eq_true (by first | (with_reducible assumption) | assumption)
                            have q421 : x44_2 < (t416.length : Int) := of_decide_eq_true (by first | (with_reducible assumption) | assumption)
                            obtain ⟨ad421, e421, hx421_0⟩ := Kd.at_int (Kd.R_reads' HO_42.out).2.2 x44_2 p421 q421
                            cases e421
                            replace p421 := eq_true p421
                            replace q421 := eq_true q421
                            try (have q421mji4 := q421; rw [HTk_ji4.out] at q421mji4)
                            go_wp2
                            go_roundg k2
                            case measure => have := HJ9.out; have := HK2.out; omega
                            case rel => exact ⟨(wrap64 (x44_2 + 1)), (by first | rfl | (simp; done) | (simp [*]; done)), H', ⟨by have := HJ9.out; have := HK2.out; omega⟩, ⟨by (with_reducible repeat (first | apply Kd.R_alloc | apply Kd.R_drewN | apply Kd.R_drew)); exact HO_5.out⟩, ⟨by (with_reducible repeat (first | apply Kd.R_alloc | apply Kd.R_drewN | apply Kd.R_drew)); exact HO_42.out⟩, ⟨by repeat (first | (with_reducible first | exact HB.out | apply below_alloc | apply pw_below_drewN | apply below_drew1) | exact HB.out)⟩⟩
                      · rw [if_neg c25] at H
                        exact absurd H (by simp)
                    · rw [if_neg c24] at H
                      exact absurd H (by simp)
                  · rw [if_neg c23] at H
                    have c23b0 : decide (x44_2 < (t416.length : Int)) = false := decide_eq_false c23
                    clear c23
                    obtain rfl := Option.some.inj H
                    go_wp2
                    go_ret
                    exact ⟨by first | rfl | (simp [errW_none, errW_some] <;> rfl) | (simp only [← hji4]; first | rfl | (simp [errW_none, errW_some] <;> rfl)) | (simp [*, errW_none, errW_some] <;> rfl), by repeat (first | (with_reducible first | exact HB.out | apply below_alloc | apply pw_below_drewN | apply below_drew1) | exact HB.out)⟩
      · replace c8 := Bool.eq_false_iff.mpr c8
        subst c8
        have H1 : (some false) = some r := by rw [if_neg (show ¬ (false = true) by decide)] at H; exact H
        clear H
        have H := H1
        clear H1
        obtain rfl := Option.some.inj H
        go_enter Try.func12, Try.ntmps12
        go_wp2_with (first | ((with_reducible refine gate_callee (f := 21) rfl ?_); refine goesL_ (some 10) rfl rfl Try.func21 (by kernel_rfl) rfl #[.int .i64 a0, .int .i64 17] rfl (by (try simp only [List.map_toArray, List.map_cons, List.map_nil]); first | done | rfl | (simp only [List.length_drop, List.length_take]; rfl)) ?_; (with_reducible refine (patchbaykeep1_within.calls a0 17 t413 _ A3.out).mono ?_); rintro e w' ⟨rfl, ⟨nd, rfl⟩⟩; refine ⟨_, rfl, ?_⟩; obtain ⟨i034, hi034, _, hsz34, _⟩ := info_parts info3; obtain ⟨hcut34, hA34, hC34⟩ := print_take_of (P := Try.prog) (Value.int .i64) 0 40 3 .i64 Try.underlying40 hi034 hsz34 A1 c1 l1 (ji4) (of_decide_eq_true (by first | (with_reducible assumption) | assumption)) (of_decide_eq_true (by first | (with_reducible assumption) | assumption)) HC1.out; have HR414 := Aside0.mk (Kd.C_of_reads (h1 := fun _ => rfl) (hA34 _ (Kd.reads_of_C HR1.out))); have HC414 := Aside0.mk hC34; clear hA34 hC34 hi034 hsz34) | ((with_reducible refine gate_callee (f := 36) rfl ?_); refine goesL_ (some 16) rfl rfl Try.func36 (by kernel_rfl) rfl #[] rfl (by (try simp only [List.map_toArray, List.map_cons, List.map_nil]); first | done | rfl | (simp only [List.length_drop, List.length_take]; rfl)) ?_; (with_reducible refine (patchbaykeep1_backoffWorks.calls k  false _ A7.out).mono ?_); rintro e w35 ⟨rfl, hb⟩; refine ⟨_, rfl, ?_⟩; have n0_ := Aside0.mk (below_step (by repeat (first | (with_reducible first | exact HB.out | apply below_alloc | apply pw_below_drewN | apply below_drew1) | exact HB.out)) hb); clear HB; have HB := n0_; clear n0_; (try clear hb); (try clear hb2); (try clear hk); (try clear hi)))
        go_ret
        exact ⟨by first | rfl | (simp [errW_none, errW_some] <;> rfl) | (simp only [← hji4]; first | rfl | (simp [errW_none, errW_some] <;> rfl)) | (simp [*, errW_none, errW_some] <;> rfl), by repeat (first | (with_reducible first | exact HB.out | apply below_alloc | apply pw_below_drewN | apply below_drew1) | exact HB.out)⟩
    · rw [if_neg c6] at H
      exact absurd H (by simp)
  · rw [if_neg c5] at H
    exact absurd H (by simp)

/-- THE ONE PURE STATEMENT of patchbaykeep1_BackoffAlone: yours. -/
def patchbaykeep1_BackoffAlone.Pure : Prop := ∀ (a0 : Int) (l1 : List Int), (Lit.int .i64 a0).wf = true → l1.length ≤ maxLen → l1.length * 8 ≤ 140737488351232 → (∀ x ∈ l1, (Lit.int .i64 x).wf = true) → ∃ k, patchbaykeep1_BackoffAlone.f k a0 l1 = some true
theorem patchbaykeep1_BackoffAlone.walk (P : patchbaykeep1_BackoffAlone.Pure) (a0 : Int) (a1 : Option Addr) (len1 cap1 : Nat) (z1 : List Int) (w : World) (w0 : (Lit.int .i64 a0).wf = true) (w1 : (a1 = none ∧ len1 = 0 ∧ cap1 = 0 ∧ z1 = []) ∨ ∃ x, a1 = some x ∧ len1 ≤ cap1 ∧ cap1 ≤ maxLen ∧ z1.length = cap1 ∧ (∀ i, i < z1.length → w.cell? (x.add i) = some (.int .i64 (z1.getD i 0))) ∧ ∀ n ∈ z1, (Lit.int .i64 n).wf = true) (y1 : len1 * 8 ≤ 140737488351232) :
    Calls Try.prog 12 #[.int .i64 a0, .slice a1 len1 cap1] w fun e w' => e = .returned (.bool true) ∧ Below w.heap.size w w' := by
  obtain ⟨l1, rfl, hr1, hm1, hw1, hc1⟩ := ReadsInt.ofRowC w1
  obtain ⟨k, h⟩ := P a0 l1 w0 hm1 y1 hw1
  refine (patchbaykeep1_BackoffAlone.calls k a0 _ _ l1 true w (Kd.C_of_reads (d := (0 : Int)) (h1 := fun _ => rfl) hr1) hc1 h).mono ?_
  rintro e w' ⟨rfl, hd⟩
  exact ⟨rfl, hd⟩

end Go.Proofs.Ytkdncfbbhbmaaaa.Q
