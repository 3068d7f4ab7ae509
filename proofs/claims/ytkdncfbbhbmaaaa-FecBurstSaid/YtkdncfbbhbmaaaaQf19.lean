/- A program's text (wip/drive.py runs the kit's printer over contracts of this session): Go functions as Lean functions, and that the calls do what these say. -/
import Derived.Test.YtkdncfbbhbmaaaaQ0
import Derived.Test.YtkdncfbbhbmaaaaQf21
import Derived.Test.YtkdncfbbhbmaaaaQf24
import Derived.Test.YtkdncfbbhbmaaaaQf29
import Derived.Test.YtkdncfbbhbmaaaaQf54
import Derived.Test.YtkdncfbbhbmaaaaQf56
import Derived.Test.YtkdncfbbhbmaaaaHEnc
namespace Go.Proofs.Ytkdncfbbhbmaaaa.Q
open Go.RowKit Go.Proofs.YtkdncfbbhbmaaaaW.PrintWords Go.Proofs.YtkdncfbbhbmaaaaW.PrintLast Go.Proofs.YtkdncfbbhbmaaaaW.PrintMore
attribute [local go_sem] max2_int min2_int max_two min_two max_three min_three max_four min_four   -- for this text's walks alone
set_option linter.unusedVariables false
set_option linter.unusedSimpArgs false

/-! ### patchbaykeep1_FecBurst: function 19 -/
mutual
def patchbaykeep1_FecBurst.j0 : Nat → ByteArray → Int → Int → Int → Int → ByteArray → ByteArray → Bool → Option (Bool)
  | 0, _, _, _, _, _, _, _, _ => none
  | k + 1, x0, x1, x2, x3, x4, x5, x13, x47 => if x47 = true then (some false) else (if x0.toList = ([] : List UInt8) then (some true) else (if x1 = 0 then (none) else ((patchbaykeep1_within.f x2 (wrap64 (Int.tdiv (wrap64 ((wrap64 ((wrap64 (2 * (x0.size : Int))) + x1)) - 1)) x1))).bind fun t604 => ((patchbaykeep1_within.f x3 (wrap64 (7 * (mn x1 (wrap64 ((wrap64 (2 * (x0.size : Int))) - (wrap64 (t604 * x1)))))))).bind fun t605 => (patchbaykeep1_FecBurst.l0 k x0 x1 x4 x5 (wrap64 (t604 * x1)) (mn x1 (wrap64 ((wrap64 (2 * (x0.size : Int))) - (wrap64 (t604 * x1))))) (wrap64 ((wrap64 (7 * (wrap64 (t604 * x1)))) + t605)) x13 0 (wrap64 ((wrap64 (7 * (wrap64 (t604 * x1)))) + t605)))))))
def patchbaykeep1_FecBurst.l0 : Nat → ByteArray → Int → Int → ByteArray → Int → Int → Int → ByteArray → Int → Int → Option (Bool)
  | 0, _, _, _, _, _, _, _, _, _, _ => none
  | k + 1, x0, x1, x4, x5, x16, x17, x18, x19, x20, x21 => (patchbaykeep1_within.f x4 (wrap64 (x17 + 1))).bind fun t606 => (if x21 < (mn (wrap64 (x18 + t606)) (wrap64 (7 * (wrap64 (x16 + x17))))) then (if (wrap64 (x21 - x18)) < (x5.size : Int) then (if 0 ≤ (wrap64 (x21 - x18)) then (if (Go.bits .and .u8 (bt x5 (wrap64 (x21 - x18))) 1) = 1 then ((bits_Flip.f x19 x21).bind fun t607 => (patchbaykeep1_FecBurst.l0 k x0 x1 x4 x5 x16 x17 x18 t607 (wrap64 (x20 + 1)) (wrap64 (x21 + 1)))) else (patchbaykeep1_FecBurst.l0 k x0 x1 x4 x5 x16 x17 x18 x19 x20 (wrap64 (x21 + 1)))) else (none)) else (patchbaykeep1_FecBurst.l0 k x0 x1 x4 x5 x16 x17 x18 x19 x20 (wrap64 (x21 + 1)))) else ((fec_Decode.f k x19 x1).bind fun bt608 => (if bt608.2.2 = 0 then (if bt608.1.toList = x0.toList then (some (bt608.2.1 == x20)) else (some false)) else (some false))))
end
def patchbaykeep1_FecBurst.f (k : Nat) (a0 : ByteArray) (a1 : Int) (a2 : Int) (a3 : Int) (a4 : Int) (a5 : ByteArray) : Option (Bool) := (patchbaykeep1_cut.f a0 60).bind fun t599 => ((patchbaykeep1_within.f a1 64).bind fun t600 => ((patchbaykeep1_fecWorks.f).bind fun t601 => (if t601 = true then ((Ext.fec_Encode.f t599 (wrap64 (1 + t600))).bind fun bt602 => (if bt602.2 = 0 then (patchbaykeep1_FecBurst.j0 k t599 (wrap64 (1 + t600)) a2 a3 a4 a5 bt602.1 ((bt602.1.size : Int) != (wrap64 (14 * (t599.size : Int))))) else (patchbaykeep1_FecBurst.j0 k t599 (wrap64 (1 + t600)) a2 a3 a4 a5 bt602.1 true))) else (some false))))
theorem patchbaykeep1_FecBurst.mono_l : ∀ k, (∀ y0 y1 y2 y3 y4 y5 y6 y7, LeO (patchbaykeep1_FecBurst.j0 k y0 y1 y2 y3 y4 y5 y6 y7) (patchbaykeep1_FecBurst.j0 (k + 1) y0 y1 y2 y3 y4 y5 y6 y7)) ∧ (∀ y0 y1 y2 y3 y4 y5 y6 y7 y8 y9, LeO (patchbaykeep1_FecBurst.l0 k y0 y1 y2 y3 y4 y5 y6 y7 y8 y9) (patchbaykeep1_FecBurst.l0 (k + 1) y0 y1 y2 y3 y4 y5 y6 y7 y8 y9))
  | 0 => ⟨fun _ _ _ _ _ _ _ _ r h => by simp [patchbaykeep1_FecBurst.j0] at h, fun _ _ _ _ _ _ _ _ _ _ r h => by simp [patchbaykeep1_FecBurst.l0] at h⟩
  | k + 1 => by
    obtain ⟨ih0, ih1⟩ := patchbaykeep1_FecBurst.mono_l k
    refine ⟨?_, ?_⟩
    · intro y0 y1 y2 y3 y4 y5 y6 y7
      unfold patchbaykeep1_FecBurst.j0
      repeat' first
      | (with_reducible exact ih0 _ _ _ _ _ _ _ _)
      | (with_reducible exact ih1 _ _ _ _ _ _ _ _ _ _)
      | (with_reducible exact fec_Decode.mono _ _ _)
      | (with_reducible exact LeO.refl _)
      | (with_reducible exact LeO.none _)
      | (with_reducible refine LeO.ite ?_ ?_)
      | (with_reducible refine LeO.bind ?_ (fun _ => ?_))
      | exact ih0 _ _ _ _ _ _ _ _
      | exact ih1 _ _ _ _ _ _ _ _ _ _
      | exact fec_Decode.mono _ _ _
      | exact LeO.none _
      | refine LeO.ite ?_ ?_
      | refine LeO.bind ?_ (fun _ => ?_)
    · intro y0 y1 y2 y3 y4 y5 y6 y7 y8 y9
      unfold patchbaykeep1_FecBurst.l0
      repeat' first
      | (with_reducible exact ih0 _ _ _ _ _ _ _ _)
      | (with_reducible exact ih1 _ _ _ _ _ _ _ _ _ _)
      | (with_reducible exact fec_Decode.mono _ _ _)
      | (with_reducible exact LeO.refl _)
      | (with_reducible exact LeO.none _)
      | (with_reducible refine LeO.ite ?_ ?_)
      | (with_reducible refine LeO.bind ?_ (fun _ => ?_))
      | exact ih0 _ _ _ _ _ _ _ _
      | exact ih1 _ _ _ _ _ _ _ _ _ _
      | exact fec_Decode.mono _ _ _
      | exact LeO.none _
      | refine LeO.ite ?_ ?_
      | refine LeO.bind ?_ (fun _ => ?_)
theorem patchbaykeep1_FecBurst.mono : ∀ a0 a1 a2 a3 a4 a5 k, LeO (patchbaykeep1_FecBurst.f k a0 a1 a2 a3 a4 a5) (patchbaykeep1_FecBurst.f (k + 1) a0 a1 a2 a3 a4 a5) := by
  intro a0 a1 a2 a3 a4 a5 k
  obtain ⟨ih0, ih1⟩ := patchbaykeep1_FecBurst.mono_l k
  unfold patchbaykeep1_FecBurst.f
  repeat' first
      | (with_reducible exact ih0 _ _ _ _ _ _ _ _)
      | (with_reducible exact ih1 _ _ _ _ _ _ _ _ _ _)
      | (with_reducible exact fec_Decode.mono _ _ _)
      | (with_reducible exact LeO.refl _)
      | (with_reducible exact LeO.none _)
      | (with_reducible refine LeO.ite ?_ ?_)
      | (with_reducible refine LeO.bind ?_ (fun _ => ?_))
      | exact ih0 _ _ _ _ _ _ _ _
      | exact ih1 _ _ _ _ _ _ _ _ _ _
      | exact fec_Decode.mono _ _ _
      | exact LeO.none _
      | refine LeO.ite ?_ ?_
      | refine LeO.bind ?_ (fun _ => ?_)
set_option maxHeartbeats 8000000 in
set_option maxRecDepth 100000 in
theorem patchbaykeep1_FecBurst.calls (k : Nat) (a0 : ByteArray) (a1 : Int) (a2 : Int) (a3 : Int) (a4 : Int) (a5 : ByteArray) (r : Bool) (w : World) (h : patchbaykeep1_FecBurst.f k a0 a1 a2 a3 a4 a5 = some r) :
    Calls Try.prog 19 #[.string a0, .int .i64 a1, .int .i64 a2, .int .i64 a3, .int .i64 a4, .string a5] w fun e w' => e = .returned (.bool r) ∧ Below w.heap.size w w' := by
  have HB := Aside0.mk (Below.refl w.heap.size w)
  have H : ((patchbaykeep1_cut.f a0 60).bind fun t599 => ((patchbaykeep1_within.f a1 64).bind fun t600 => ((patchbaykeep1_fecWorks.f).bind fun t601 => (if t601 = true then ((Ext.fec_Encode.f t599 (wrap64 (1 + t600))).bind fun bt602 => (if bt602.2 = 0 then (patchbaykeep1_FecBurst.j0 k t599 (wrap64 (1 + t600)) a2 a3 a4 a5 bt602.1 ((bt602.1.size : Int) != (wrap64 (14 * (t599.size : Int))))) else (patchbaykeep1_FecBurst.j0 k t599 (wrap64 (1 + t600)) a2 a3 a4 a5 bt602.1 true))) else (some false))))) = some r := h
  clear h
  replace H := Option.bind_eq_some_iff.mp H
  obtain ⟨t599, A70, H⟩ := H
  replace H : ((patchbaykeep1_within.f a1 64).bind fun t600 => ((patchbaykeep1_fecWorks.f).bind fun t601 => (if t601 = true then ((Ext.fec_Encode.f t599 (wrap64 (1 + t600))).bind fun bt602 => (if bt602.2 = 0 then (patchbaykeep1_FecBurst.j0 k t599 (wrap64 (1 + t600)) a2 a3 a4 a5 bt602.1 ((bt602.1.size : Int) != (wrap64 (14 * (t599.size : Int))))) else (patchbaykeep1_FecBurst.j0 k t599 (wrap64 (1 + t600)) a2 a3 a4 a5 bt602.1 true))) else (some false)))) = some r := H
  have A7 := Aside0.mk A70
  clear A70
  replace H := Option.bind_eq_some_iff.mp H
  obtain ⟨t600, A80, H⟩ := H
  replace H : ((patchbaykeep1_fecWorks.f).bind fun t601 => (if t601 = true then ((Ext.fec_Encode.f t599 (wrap64 (1 + t600))).bind fun bt602 => (if bt602.2 = 0 then (patchbaykeep1_FecBurst.j0 k t599 (wrap64 (1 + t600)) a2 a3 a4 a5 bt602.1 ((bt602.1.size : Int) != (wrap64 (14 * (t599.size : Int))))) else (patchbaykeep1_FecBurst.j0 k t599 (wrap64 (1 + t600)) a2 a3 a4 a5 bt602.1 true))) else (some false))) = some r := H
  have A8 := Aside0.mk A80
  clear A80
  replace H := Option.bind_eq_some_iff.mp H
  obtain ⟨t601, A90, H⟩ := H
  replace H : (if t601 = true then ((Ext.fec_Encode.f t599 (wrap64 (1 + t600))).bind fun bt602 => (if bt602.2 = 0 then (patchbaykeep1_FecBurst.j0 k t599 (wrap64 (1 + t600)) a2 a3 a4 a5 bt602.1 ((bt602.1.size : Int) != (wrap64 (14 * (t599.size : Int))))) else (patchbaykeep1_FecBurst.j0 k t599 (wrap64 (1 + t600)) a2 a3 a4 a5 bt602.1 true))) else (some false)) = some r := H
  have A9 := Aside0.mk A90
  clear A90
  by_cases c10 : t601 = true
  · subst c10
    have H1 : ((Ext.fec_Encode.f t599 (wrap64 (1 + t600))).bind fun bt602 => (if bt602.2 = 0 then (patchbaykeep1_FecBurst.j0 k t599 (wrap64 (1 + t600)) a2 a3 a4 a5 bt602.1 ((bt602.1.size : Int) != (wrap64 (14 * (t599.size : Int))))) else (patchbaykeep1_FecBurst.j0 k t599 (wrap64 (1 + t600)) a2 a3 a4 a5 bt602.1 true))) = some r := by rw [if_pos rfl] at H; exact H
    clear H
    have H := H1
    clear H1
    replace H := Option.bind_eq_some_iff.mp H
    obtain ⟨⟨t602, t603⟩, A110, H⟩ := H
    replace H : (if t603 = 0 then (patchbaykeep1_FecBurst.j0 k t599 (wrap64 (1 + t600)) a2 a3 a4 a5 t602 ((t602.size : Int) != (wrap64 (14 * (t599.size : Int))))) else (patchbaykeep1_FecBurst.j0 k t599 (wrap64 (1 + t600)) a2 a3 a4 a5 t602 true)) = some r := H
    have A11 := Aside0.mk A110
    clear A110
    have HC12 := Aside0.mk H
    clear H
    go_enter Try.func19, Try.ntmps19
    go_upto_region 6 with (first | ((with_reducible refine gate_callee (f := 54) rfl ?_); refine goesL_ (some 26) rfl rfl Try.func54 (by kernel_rfl) rfl #[.string a0, .int .i64 60] rfl (by (try simp only [List.map_toArray, List.map_cons, List.map_nil]); first | done | rfl | (simp only [List.length_drop, List.length_take]; rfl)) ?_; (with_reducible refine (patchbaykeep1_cut.calls a0 60 t599 _ A7.out).mono ?_); rintro e w13 ⟨rfl, hb⟩; refine ⟨_, rfl, ?_⟩; have n0_ := Aside0.mk (below_step (by repeat (first | (with_reducible first | exact HB.out | apply below_alloc | apply pw_below_drewN | apply below_drew1) | exact HB.out)) hb); clear HB; have HB := n0_; clear n0_; (try clear hb); (try clear hb2); (try clear hk); (try clear hi)) | ((with_reducible refine gate_callee (f := 21) rfl ?_); refine goesL_ (some 28) rfl rfl Try.func21 (by kernel_rfl) rfl #[.int .i64 a1, .int .i64 64] rfl (by (try simp only [List.map_toArray, List.map_cons, List.map_nil]); first | done | rfl | (simp only [List.length_drop, List.length_take]; rfl)) ?_; (with_reducible refine (patchbaykeep1_within.calls a1 64 t600 _ A8.out).mono ?_); rintro e w' ⟨rfl, ⟨nd, rfl⟩⟩; refine ⟨_, rfl, ?_⟩) | ((with_reducible refine gate_callee (f := 24) rfl ?_); refine goesL_ (some 30) rfl rfl Try.func24 (by kernel_rfl) rfl #[] rfl (by (try simp only [List.map_toArray, List.map_cons, List.map_nil]); first | done | rfl | (simp only [List.length_drop, List.length_take]; rfl)) ?_; (with_reducible refine (patchbaykeep1_fecWorks.calls  true _ A9.out).mono ?_); rintro e w14 ⟨rfl, hb⟩; refine ⟨_, rfl, ?_⟩; have n0_ := Aside0.mk (below_step (by repeat (first | (with_reducible first | exact HB.out | apply below_alloc | apply pw_below_drewN | apply below_drew1) | exact HB.out)) hb); clear HB; have HB := n0_; clear n0_; (try clear hb); (try clear hb2); (try clear hk); (try clear hi)) | ((with_reducible refine gate_callee (f := 55) rfl ?_); refine goesL_ (some 35) rfl rfl Try.func55 (by kernel_rfl) rfl #[.string t599, .int .i64 (wrap64 (1 + t600))] rfl (by (try simp only [List.map_toArray, List.map_cons, List.map_nil]); first | done | rfl | (simp only [List.length_drop, List.length_take]; rfl)) ?_; (with_reducible refine (Ext.fec_Encode.calls t599 (wrap64 (1 + t600)) t602 t603 _ A11.out).mono ?_); rintro e w15 ⟨rfl, hb⟩; refine ⟨_, rfl, ?_⟩; have n0_ := Aside0.mk (below_step (by repeat (first | (with_reducible first | exact HB.out | apply below_alloc | apply pw_below_drewN | apply below_drew1) | exact HB.out)) hb); clear HB; have HB := n0_; clear n0_; (try clear hb); (try clear hb2); (try clear hk); (try clear hi)))
    (try simp only [Act.put, List.setIfInBounds_toArray, List.set_cons_zero, List.set_cons_succ])
    go_cut [47] (fun v47 wc => ∃ (kq : Nat) (x47_11 : Bool), v47 = .bool x47_11 ∧ Aside0 (patchbaykeep1_FecBurst.j0 kq t599 (wrap64 (1 + t600)) a2 a3 a4 a5 t602 x47_11 = some r) ∧ Aside0 (kq ≤ k) ∧ Aside0 (Below w.heap.size w wc))
    case first =>
      have H := HC12.out
      clear HC12
      by_cases c16 : t603 = 0
      · rw [if_pos c16] at H
        have c16b0 : (t603 == 0) = true := beq_iff_eq.mpr c16
        have c16b1 : (t603 != 0) = false := bne_eq_false_iff_eq.mpr c16
        clear c16
        (first | rw [c16b0] | (simp only [i64_w, i32_w]; rw [c16b0]) | skip)
        have H' := Aside0.mk H
        clear H
        go_wp2
        go_meet
        case rel => exact ⟨_, (((t602.size : Int) != (wrap64 (14 * (t599.size : Int))))), (by first | rfl | (simp; done) | (simp [*]; done)), H', ⟨by first | omega | exact Nat.le_refl _⟩, ⟨by repeat (first | (with_reducible first | exact HB.out | apply below_alloc | apply pw_below_drewN | apply below_drew1) | exact HB.out)⟩⟩
      · rw [if_neg c16] at H
        have c16b0 : (t603 == 0) = false := beq_eq_false_iff_ne.mpr c16
        have c16b1 : (t603 != 0) = true := bne_iff_ne.mpr c16
        (first | rw [c16b0] | (simp only [i64_w, i32_w]; rw [c16b0]) | skip)
        have H' := Aside0.mk H
        clear H
        go_wp2
        go_meet
        case rel => exact ⟨_, (true), (by first | rfl | (simp; done) | (simp [*]; done)), H', ⟨by first | omega | exact Nat.le_refl _⟩, ⟨by repeat (first | (with_reducible first | exact HB.out | apply below_alloc | apply pw_below_drewN | apply below_drew1) | exact HB.out)⟩⟩
    case rest =>
      clear HC12
      try clear c1
      try clear p1
      try clear c2
      try clear p2
      try clear c5
      try clear p6
      try clear c10
      try clear c16
      try clear c16b0
      try clear c16b1
      obtain ⟨kq, x47_11, rfl, HA, HJ11, HB⟩ := hcut
      cases kq with
      | zero => exact absurd HA.out (by simp [patchbaykeep1_FecBurst.j0])
      | succ kj11 =>
        have H := HA.out
        clear HA
        simp only [patchbaykeep1_FecBurst.j0] at H
        by_cases c17 : x47_11 = true
        · subst c17
          have H1 : (some false) = some r := by rw [if_pos rfl] at H; exact H
          clear H
          have H := H1
          clear H1
          obtain rfl := Option.some.inj H
          go_wp2
          go_ret
          exact ⟨by first | rfl | (simp [errW_none, errW_some] <;> rfl) | (simp [*, errW_none, errW_some] <;> rfl), by repeat (first | (with_reducible first | exact HB.out | apply below_alloc | apply pw_below_drewN | apply below_drew1) | exact HB.out)⟩
        · replace c17 := Bool.eq_false_iff.mpr c17
          subst c17
          have H1 : (if t599.toList = ([] : List UInt8) then (some true) else (if (wrap64 (1 + t600)) = 0 then (none) else ((patchbaykeep1_within.f a2 (wrap64 (Int.tdiv (wrap64 ((wrap64 ((wrap64 (2 * (t599.size : Int))) + (wrap64 (1 + t600)))) - 1)) (wrap64 (1 + t600))))).bind fun t604 => ((patchbaykeep1_within.f a3 (wrap64 (7 * (mn (wrap64 (1 + t600)) (wrap64 ((wrap64 (2 * (t599.size : Int))) - (wrap64 (t604 * (wrap64 (1 + t600)))))))))).bind fun t605 => (patchbaykeep1_FecBurst.l0 kj11 t599 (wrap64 (1 + t600)) a4 a5 (wrap64 (t604 * (wrap64 (1 + t600)))) (mn (wrap64 (1 + t600)) (wrap64 ((wrap64 (2 * (t599.size : Int))) - (wrap64 (t604 * (wrap64 (1 + t600))))))) (wrap64 ((wrap64 (7 * (wrap64 (t604 * (wrap64 (1 + t600)))))) + t605)) t602 0 (wrap64 ((wrap64 (7 * (wrap64 (t604 * (wrap64 (1 + t600)))))) + t605))))))) = some r := by rw [if_neg (show ¬ (false = true) by decide)] at H; exact H
          clear H
          have H := H1
          clear H1
          by_cases c18 : t599.toList = ([] : List UInt8)
          · rw [if_pos c18] at H
            have c18b0 : (t599.toList == ([] : List UInt8)) = true := beq_iff_eq.mpr c18
            have c18b1 : (t599.toList != ([] : List UInt8)) = false := bne_eq_false_iff_eq.mpr c18
            clear c18
            obtain rfl := Option.some.inj H
            go_wp2
            go_ret
            exact ⟨by first | rfl | (simp [errW_none, errW_some] <;> rfl) | (simp [*, errW_none, errW_some] <;> rfl), by repeat (first | (with_reducible first | exact HB.out | apply below_alloc | apply pw_below_drewN | apply below_drew1) | exact HB.out)⟩
          · rw [if_neg c18] at H
            have c18b0 : (t599.toList == ([] : List UInt8)) = false := beq_eq_false_iff_ne.mpr c18
            have c18b1 : (t599.toList != ([] : List UInt8)) = true := bne_iff_ne.mpr c18
            by_cases c19 : (wrap64 (1 + t600)) = 0
            · rw [if_pos c19] at H
              exact absurd H (by simp)
            · rw [if_neg c19] at H
              have c19b0 : ((wrap64 (1 + t600)) == 0) = false := beq_eq_false_iff_ne.mpr c19
              have c19b1 : ((wrap64 (1 + t600)) != 0) = true := bne_iff_ne.mpr c19
              replace H := Option.bind_eq_some_iff.mp H
              obtain ⟨t604, A200, H⟩ := H
              replace H : ((patchbaykeep1_within.f a3 (wrap64 (7 * (mn (wrap64 (1 + t600)) (wrap64 ((wrap64 (2 * (t599.size : Int))) - (wrap64 (t604 * (wrap64 (1 + t600)))))))))).bind fun t605 => (patchbaykeep1_FecBurst.l0 kj11 t599 (wrap64 (1 + t600)) a4 a5 (wrap64 (t604 * (wrap64 (1 + t600)))) (mn (wrap64 (1 + t600)) (wrap64 ((wrap64 (2 * (t599.size : Int))) - (wrap64 (t604 * (wrap64 (1 + t600))))))) (wrap64 ((wrap64 (7 * (wrap64 (t604 * (wrap64 (1 + t600)))))) + t605)) t602 0 (wrap64 ((wrap64 (7 * (wrap64 (t604 * (wrap64 (1 + t600)))))) + t605)))) = some r := H
              have A20 := Aside0.mk A200
              clear A200
              obtain ⟨ji21, hji21⟩ : ∃ j_ : Int, (mn (wrap64 (1 + t600)) (wrap64 ((wrap64 (2 * (t599.size : Int))) - (wrap64 (t604 * (wrap64 (1 + t600))))))) = j_ := ⟨_, rfl⟩
              replace H : ((patchbaykeep1_within.f a3 (wrap64 (7 * (ji21)))).bind fun t605 => (patchbaykeep1_FecBurst.l0 kj11 t599 (wrap64 (1 + t600)) a4 a5 (wrap64 (t604 * (wrap64 (1 + t600)))) ji21 (wrap64 ((wrap64 (7 * (wrap64 (t604 * (wrap64 (1 + t600)))))) + t605)) t602 0 (wrap64 ((wrap64 (7 * (wrap64 (t604 * (wrap64 (1 + t600)))))) + t605)))) = some r := by first | (rw [hji21] at H; exact H) | (simp only [hji21] at H ⊢; exact H)
              (try rw [hji21] at A20)
              have hji21_ : (if (wrap64 ((wrap64 (2 * (t599.size : Int))) - (wrap64 (t604 * (wrap64 (1 + t600)))))) < (wrap64 (1 + t600)) then (wrap64 ((wrap64 (2 * (t599.size : Int))) - (wrap64 (t604 * (wrap64 (1 + t600)))))) else (wrap64 (1 + t600))) = ji21 := hji21
              replace H := Option.bind_eq_some_iff.mp H
              obtain ⟨t605, A220, H⟩ := H
              replace H : (patchbaykeep1_FecBurst.l0 kj11 t599 (wrap64 (1 + t600)) a4 a5 (wrap64 (t604 * (wrap64 (1 + t600)))) ji21 (wrap64 ((wrap64 (7 * (wrap64 (t604 * (wrap64 (1 + t600)))))) + t605)) t602 0 (wrap64 ((wrap64 (7 * (wrap64 (t604 * (wrap64 (1 + t600)))))) + t605))) = some r := H
              have A22 := Aside0.mk A220
              clear A220
              have H' := Aside0.mk H
              clear H
              go_wp2_with (first | ((with_reducible refine gate_callee (f := 21) rfl ?_); refine goesL_ (some 60) rfl rfl Try.func21 (by kernel_rfl) rfl #[.int .i64 a2, .int .i64 (wrap64 (Int.tdiv (wrap64 ((wrap64 ((wrap64 (2 * (t599.size : Int))) + (wrap64 (1 + t600)))) - 1)) (wrap64 (1 + t600))))] rfl (by (try simp only [List.map_toArray, List.map_cons, List.map_nil]); first | done | rfl | (simp only [List.length_drop, List.length_take]; rfl)) ?_; (with_reducible refine (patchbaykeep1_within.calls a2 (wrap64 (Int.tdiv (wrap64 ((wrap64 ((wrap64 (2 * (t599.size : Int))) + (wrap64 (1 + t600)))) - 1)) (wrap64 (1 + t600)))) t604 _ A20.out).mono ?_); rintro e w' ⟨rfl, ⟨nd, rfl⟩⟩; refine ⟨_, rfl, ?_⟩) | ((with_reducible refine gate_callee (f := 21) rfl ?_); refine goesL_ (some 73) rfl rfl Try.func21 (by kernel_rfl) rfl #[.int .i64 a3, .int .i64 (wrap64 (7 * (ji21)))] rfl (by (try simp only [List.map_toArray, List.map_cons, List.map_nil]); first | done | (simp only [hji21]; rfl) | rfl | (simp only [List.length_drop, List.length_take]; rfl)) ?_; (with_reducible refine (patchbaykeep1_within.calls a3 (wrap64 (7 * (ji21))) t605 _ A22.out).mono ?_); rintro e w' ⟨rfl, ⟨nd, rfl⟩⟩; refine ⟨_, rfl, ?_⟩))
              go_loopg [19, 20, 21] kj11 (fun kq v19 v20 v21 w' => ∃ (x19_2 : ByteArray) (x20_2 : Int) (x21_2 : Int), v19 = .string x19_2 ∧ v20 = .int .i64 x20_2 ∧ v21 = .int .i64 x21_2 ∧ Aside0 (patchbaykeep1_FecBurst.l0 kq t599 (wrap64 (1 + t600)) a4 a5 (wrap64 (t604 * (wrap64 (1 + t600)))) ji21 (wrap64 ((wrap64 (7 * (wrap64 (t604 * (wrap64 (1 + t600)))))) + t605)) x19_2 x20_2 x21_2 = some r) ∧ Aside0 (kq ≤ kj11) ∧ Aside0 (Below w.heap.size w w'))
              case atStart => exact ⟨(t602), (0), (wrap64 ((wrap64 (7 * (wrap64 (t604 * (wrap64 (1 + t600)))))) + t605)), (by first | rfl | (simp; done) | (simp [*]; done)), (by first | rfl | (simp; done) | (simp [*]; done)), (by first | rfl | (simp; done) | (simp [*]; done)), H', ⟨Nat.le_refl _⟩, ⟨by repeat (first | (with_reducible first | exact HB.out | apply below_alloc | apply pw_below_drewN | apply below_drew1) | exact HB.out)⟩⟩
              case round =>
                clear H'
                try clear c1
                try clear p1
                try clear c2
                try clear p2
                try clear c5
                try clear p6
                try clear c10
                try clear c16
                try clear c16b0
                try clear c16b1
                try clear c17
                try clear c18
                try clear c18b0
                try clear c18b1
                try clear c19
                try clear c19b0
                try clear c19b1
                try clear c21
                try clear p1
                try clear p2
                try clear p6
                obtain ⟨x19_2, x20_2, x21_2, rfl, rfl, rfl, HA, HK2, HB⟩ := hrel
                cases gk with
                | zero => exact absurd HA.out (by simp [patchbaykeep1_FecBurst.l0])
                | succ k2 =>
                  have H := HA.out
                  clear HA
                  simp only [patchbaykeep1_FecBurst.l0] at H
                  replace H := Option.bind_eq_some_iff.mp H
                  obtain ⟨t606, A230, H⟩ := H
                  replace H : (if x21_2 < (mn (wrap64 ((wrap64 ((wrap64 (7 * (wrap64 (t604 * (wrap64 (1 + t600)))))) + t605)) + t606)) (wrap64 (7 * (wrap64 ((wrap64 (t604 * (wrap64 (1 + t600)))) + ji21))))) then (if (wrap64 (x21_2 - (wrap64 ((wrap64 (7 * (wrap64 (t604 * (wrap64 (1 + t600)))))) + t605)))) < (a5.size : Int) then (if 0 ≤ (wrap64 (x21_2 - (wrap64 ((wrap64 (7 * (wrap64 (t604 * (wrap64 (1 + t600)))))) + t605)))) then (if (Go.bits .and .u8 (bt a5 (wrap64 (x21_2 - (wrap64 ((wrap64 (7 * (wrap64 (t604 * (wrap64 (1 + t600)))))) + t605))))) 1) = 1 then ((bits_Flip.f x19_2 x21_2).bind fun t607 => (patchbaykeep1_FecBurst.l0 k2 t599 (wrap64 (1 + t600)) a4 a5 (wrap64 (t604 * (wrap64 (1 + t600)))) ji21 (wrap64 ((wrap64 (7 * (wrap64 (t604 * (wrap64 (1 + t600)))))) + t605)) t607 (wrap64 (x20_2 + 1)) (wrap64 (x21_2 + 1)))) else (patchbaykeep1_FecBurst.l0 k2 t599 (wrap64 (1 + t600)) a4 a5 (wrap64 (t604 * (wrap64 (1 + t600)))) ji21 (wrap64 ((wrap64 (7 * (wrap64 (t604 * (wrap64 (1 + t600)))))) + t605)) x19_2 x20_2 (wrap64 (x21_2 + 1)))) else (none)) else (patchbaykeep1_FecBurst.l0 k2 t599 (wrap64 (1 + t600)) a4 a5 (wrap64 (t604 * (wrap64 (1 + t600)))) ji21 (wrap64 ((wrap64 (7 * (wrap64 (t604 * (wrap64 (1 + t600)))))) + t605)) x19_2 x20_2 (wrap64 (x21_2 + 1)))) else ((fec_Decode.f k2 x19_2 (wrap64 (1 + t600))).bind fun bt608 => (if bt608.2.2 = 0 then (if bt608.1.toList = t599.toList then (some (bt608.2.1 == x20_2)) else (some false)) else (some false)))) = some r := H
                  have A23 := Aside0.mk A230
                  clear A230
                  obtain ⟨ji24, hji24⟩ : ∃ j_ : Int, (mn (wrap64 ((wrap64 ((wrap64 (7 * (wrap64 (t604 * (wrap64 (1 + t600)))))) + t605)) + t606)) (wrap64 (7 * (wrap64 ((wrap64 (t604 * (wrap64 (1 + t600)))) + ji21))))) = j_ := ⟨_, rfl⟩
                  replace H : (if x21_2 < (ji24) then (if (wrap64 (x21_2 - (wrap64 ((wrap64 (7 * (wrap64 (t604 * (wrap64 (1 + t600)))))) + t605)))) < (a5.size : Int) then (if 0 ≤ (wrap64 (x21_2 - (wrap64 ((wrap64 (7 * (wrap64 (t604 * (wrap64 (1 + t600)))))) + t605)))) then (if (Go.bits .and .u8 (bt a5 (wrap64 (x21_2 - (wrap64 ((wrap64 (7 * (wrap64 (t604 * (wrap64 (1 + t600)))))) + t605))))) 1) = 1 then ((bits_Flip.f x19_2 x21_2).bind fun t607 => (patchbaykeep1_FecBurst.l0 k2 t599 (wrap64 (1 + t600)) a4 a5 (wrap64 (t604 * (wrap64 (1 + t600)))) ji21 (wrap64 ((wrap64 (7 * (wrap64 (t604 * (wrap64 (1 + t600)))))) + t605)) t607 (wrap64 (x20_2 + 1)) (wrap64 (x21_2 + 1)))) else (patchbaykeep1_FecBurst.l0 k2 t599 (wrap64 (1 + t600)) a4 a5 (wrap64 (t604 * (wrap64 (1 + t600)))) ji21 (wrap64 ((wrap64 (7 * (wrap64 (t604 * (wrap64 (1 + t600)))))) + t605)) x19_2 x20_2 (wrap64 (x21_2 + 1)))) else (none)) else (patchbaykeep1_FecBurst.l0 k2 t599 (wrap64 (1 + t600)) a4 a5 (wrap64 (t604 * (wrap64 (1 + t600)))) ji21 (wrap64 ((wrap64 (7 * (wrap64 (t604 * (wrap64 (1 + t600)))))) + t605)) x19_2 x20_2 (wrap64 (x21_2 + 1)))) else ((fec_Decode.f k2 x19_2 (wrap64 (1 + t600))).bind fun bt608 => (if bt608.2.2 = 0 then (if bt608.1.toList = t599.toList then (some (bt608.2.1 == x20_2)) else (some false)) else (some false)))) = some r := by first | (rw [hji24] at H; exact H) | (simp only [hji24] at H ⊢; exact H)
                  (try rw [hji24] at A23)
                  have hji24_ : (if (wrap64 (7 * (wrap64 ((wrap64 (t604 * (wrap64 (1 + t600)))) + ji21)))) < (wrap64 ((wrap64 ((wrap64 (7 * (wrap64 (t604 * (wrap64 (1 + t600)))))) + t605)) + t606)) then (wrap64 (7 * (wrap64 ((wrap64 (t604 * (wrap64 (1 + t600)))) + ji21)))) else (wrap64 ((wrap64 ((wrap64 (7 * (wrap64 (t604 * (wrap64 (1 + t600)))))) + t605)) + t606))) = ji24 := hji24
                  by_cases c25 : x21_2 < (ji24)
                  · rw [if_pos c25] at H
                    have c25b0 : decide (x21_2 < (ji24)) = true := decide_eq_true c25
                    clear c25
                    by_cases c26 : (wrap64 (x21_2 - (wrap64 ((wrap64 (7 * (wrap64 (t604 * (wrap64 (1 + t600)))))) + t605)))) < (a5.size : Int)
                    · rw [if_pos c26] at H
                      have c26b0 : decide ((wrap64 (x21_2 - (wrap64 ((wrap64 (7 * (wrap64 (t604 * (wrap64 (1 + t600)))))) + t605)))) < (a5.size : Int)) = true := decide_eq_true c26
                      clear c26
                      obtain ⟨ji27, hji27⟩ : ∃ j_ : Int, (wrap64 (x21_2 - (wrap64 ((wrap64 (7 * (wrap64 (t604 * (wrap64 (1 + t600)))))) + t605)))) = j_ := ⟨_, rfl⟩
                      replace H : (if 0 ≤ (ji27) then (if (Go.bits .and .u8 (bt a5 (ji27)) 1) = 1 then ((bits_Flip.f x19_2 x21_2).bind fun t607 => (patchbaykeep1_FecBurst.l0 k2 t599 (wrap64 (1 + t600)) a4 a5 (wrap64 (t604 * (wrap64 (1 + t600)))) ji21 (wrap64 ((wrap64 (7 * (wrap64 (t604 * (wrap64 (1 + t600)))))) + t605)) t607 (wrap64 (x20_2 + 1)) (wrap64 (x21_2 + 1)))) else (patchbaykeep1_FecBurst.l0 k2 t599 (wrap64 (1 + t600)) a4 a5 (wrap64 (t604 * (wrap64 (1 + t600)))) ji21 (wrap64 ((wrap64 (7 * (wrap64 (t604 * (wrap64 (1 + t600)))))) + t605)) x19_2 x20_2 (wrap64 (x21_2 + 1)))) else (none)) = some r := by first | (rw [hji27] at H; exact H) | (simp only [hji27] at H ⊢; exact H)
                      (try rw [hji27] at c26b0)
                      (try rw [hji27] at A23)
                      have hji27w : (IntKind.i64.wrap (x21_2 - (wrap64 ((wrap64 (7 * (wrap64 (t604 * (wrap64 (1 + t600)))))) + t605)))) = ji27 := (i64_w _).trans hji27
                      by_cases c28 : 0 ≤ (ji27)
                      · rw [if_pos c28] at H
                        have c28b0 : decide (0 ≤ (ji27)) = true := decide_eq_true c28
                        clear c28
                        by_cases c30 : (Go.bits .and .u8 (bt a5 (ji27)) 1) = 1
                        · rw [if_pos c30] at H
                          have c30b0 : ((Go.bits .and .u8 (bt a5 (ji27)) 1) == 1) = true := beq_iff_eq.mpr c30
                          have c30b1 : ((Go.bits .and .u8 (bt a5 (ji27)) 1) != 1) = false := bne_eq_false_iff_eq.mpr c30
                          clear c30
                          replace H := Option.bind_eq_some_iff.mp H
                          obtain ⟨t607, A310, H⟩ := H
                          replace H : (patchbaykeep1_FecBurst.l0 k2 t599 (wrap64 (1 + t600)) a4 a5 (wrap64 (t604 * (wrap64 (1 + t600)))) ji21 (wrap64 ((wrap64 (7 * (wrap64 (t604 * (wrap64 (1 + t600)))))) + t605)) t607 (wrap64 (x20_2 + 1)) (wrap64 (x21_2 + 1))) = some r := H
                          have A31 := Aside0.mk A310
                          clear A310
                          have H' := Aside0.mk H
                          clear H
                          go_wp2_with (first | ((with_reducible refine gate_callee (f := 21) rfl ?_); refine goesL_ (some 82) rfl rfl Try.func21 (by kernel_rfl) rfl #[.int .i64 a4, .int .i64 (wrap64 (ji21 + 1))] rfl (by (try simp only [List.map_toArray, List.map_cons, List.map_nil]); first | done | (simp only [hji21]; rfl) | rfl | (simp only [List.length_drop, List.length_take]; rfl)) ?_; (with_reducible refine (patchbaykeep1_within.calls a4 (wrap64 (ji21 + 1)) t606 _ A23.out).mono ?_); rintro e w' ⟨rfl, ⟨nd, rfl⟩⟩; refine ⟨_, rfl, ?_⟩; have p29 : 0 ≤ ((ji27) : Int) := of_decide_eq_true (by first | (with_reducible assumption) | assumption); have q29 : (ji27) < (a5.size : Int) := of_decide_eq_true (by first | (with_reducible assumption) | assumption); have hx29 := bt_at a5 (ji27); replace p29 := eq_true p29; replace q29 := eq_true q29) | ((with_reducible refine gate_callee (f := 29) rfl ?_); refine goesL_ (some 108) rfl rfl Try.func29 (by kernel_rfl) rfl #[.string x19_2, .int .i64 x21_2] rfl (by (try simp only [List.map_toArray, List.map_cons, List.map_nil]); first | done | rfl | (simp only [List.length_drop, List.length_take]; rfl)) ?_; (with_reducible refine (bits_Flip.calls x19_2 x21_2 t607 _ A31.out).mono ?_); rintro e w32 ⟨rfl, hb⟩; refine ⟨_, rfl, ?_⟩; have n0_ := Aside0.mk (below_step (by repeat (first | (with_reducible first | exact HB.out | apply below_alloc | apply pw_below_drewN | apply below_drew1) | exact HB.out)) hb); clear HB; have HB := n0_; clear n0_; (try clear hb); (try clear hb2); (try clear hk); (try clear hi)))
                          go_roundg k2
                          case measure => have := HJ11.out; have := HK2.out; omega
                          case rel => exact ⟨(t607), (wrap64 (x20_2 + 1)), (wrap64 (x21_2 + 1)), (by first | rfl | (simp; done) | (simp [*]; done)), (by first | rfl | (simp; done) | (simp [*]; done)), (by first | rfl | (simp; done) | (simp [*]; done)), H', ⟨by have := HJ11.out; have := HK2.out; omega⟩, ⟨by repeat (first | (with_reducible first | exact HB.out | apply below_alloc | apply pw_below_drewN | apply below_drew1) | exact HB.out)⟩⟩
                        · rw [if_neg c30] at H
                          have c30b0 : ((Go.bits .and .u8 (bt a5 (ji27)) 1) == 1) = false := beq_eq_false_iff_ne.mpr c30
                          have c30b1 : ((Go.bits .and .u8 (bt a5 (ji27)) 1) != 1) = true := bne_iff_ne.mpr c30
                          have H' := Aside0.mk H
                          clear H
                          go_wp2_with (first | ((with_reducible refine gate_callee (f := 21) rfl ?_); refine goesL_ (some 82) rfl rfl Try.func21 (by kernel_rfl) rfl #[.int .i64 a4, .int .i64 (wrap64 (ji21 + 1))] rfl (by (try simp only [List.map_toArray, List.map_cons, List.map_nil]); first | done | (simp only [hji21]; rfl) | rfl | (simp only [List.length_drop, List.length_take]; rfl)) ?_; (with_reducible refine (patchbaykeep1_within.calls a4 (wrap64 (ji21 + 1)) t606 _ A23.out).mono ?_); rintro e w' ⟨rfl, ⟨nd, rfl⟩⟩; refine ⟨_, rfl, ?_⟩; have p29 : 0 ≤ ((ji27) : Int) := of_decide_eq_true (by first | (with_reducible assumption) | assumption); have q29 : (ji27) < (a5.size : Int) := of_decide_eq_true (by first | (with_reducible assumption) | assumption); have hx29 := bt_at a5 (ji27); replace p29 := eq_true p29; replace q29 := eq_true q29))
                          go_roundg k2
                          case measure => have := HJ11.out; have := HK2.out; omega
                          case rel => exact ⟨(x19_2), (x20_2), (wrap64 (x21_2 + 1)), (by first | rfl | (simp; done) | (simp [*]; done)), (by first | rfl | (simp; done) | (simp [*]; done)), (by first | rfl | (simp; done) | (simp [*]; done)), H', ⟨by have := HJ11.out; have := HK2.out; omega⟩, ⟨by repeat (first | (with_reducible first | exact HB.out | apply below_alloc | apply pw_below_drewN | apply below_drew1) | exact HB.out)⟩⟩
                      · rw [if_neg c28] at H
                        exact absurd H (by simp)
                    · rw [if_neg c26] at H
                      have c26b0 : decide ((wrap64 (x21_2 - (wrap64 ((wrap64 (7 * (wrap64 (t604 * (wrap64 (1 + t600)))))) + t605)))) < (a5.size : Int)) = false := decide_eq_false c26
                      clear c26
                      have H' := Aside0.mk H
                      clear H
                      go_wp2_with (first | ((with_reducible refine gate_callee (f := 21) rfl ?_); refine goesL_ (some 82) rfl rfl Try.func21 (by kernel_rfl) rfl #[.int .i64 a4, .int .i64 (wrap64 (ji21 + 1))] rfl (by (try simp only [List.map_toArray, List.map_cons, List.map_nil]); first | done | (simp only [hji21]; rfl) | rfl | (simp only [List.length_drop, List.length_take]; rfl)) ?_; (with_reducible refine (patchbaykeep1_within.calls a4 (wrap64 (ji21 + 1)) t606 _ A23.out).mono ?_); rintro e w' ⟨rfl, ⟨nd, rfl⟩⟩; refine ⟨_, rfl, ?_⟩))
                      go_roundg k2
                      case measure => have := HJ11.out; have := HK2.out; omega
                      case rel => exact ⟨(x19_2), (x20_2), (wrap64 (x21_2 + 1)), (by first | rfl | (simp; done) | (simp [*]; done)), (by first | rfl | (simp; done) | (simp [*]; done)), (by first | rfl | (simp; done) | (simp [*]; done)), H', ⟨by have := HJ11.out; have := HK2.out; omega⟩, ⟨by repeat (first | (with_reducible first | exact HB.out | apply below_alloc | apply pw_below_drewN | apply below_drew1) | exact HB.out)⟩⟩
                  · rw [if_neg c25] at H
                    have c25b0 : decide (x21_2 < (ji24)) = false := decide_eq_false c25
                    clear c25
                    replace H := Option.bind_eq_some_iff.mp H
                    obtain ⟨⟨t608, t609, t610⟩, A330, H⟩ := H
                    replace H : (if t610 = 0 then (if t608.toList = t599.toList then (some (t609 == x20_2)) else (some false)) else (some false)) = some r := H
                    have A33 := Aside0.mk A330
                    clear A330
                    by_cases c34 : t610 = 0
                    · rw [if_pos c34] at H
                      have c34b0 : (t610 == 0) = true := beq_iff_eq.mpr c34
                      have c34b1 : (t610 != 0) = false := bne_eq_false_iff_eq.mpr c34
                      clear c34
                      by_cases c35 : t608.toList = t599.toList
                      · rw [if_pos c35] at H
                        have c35b0 : (t608.toList == t599.toList) = true := beq_iff_eq.mpr c35
                        have c35b1 : (t608.toList != t599.toList) = false := bne_eq_false_iff_eq.mpr c35
                        clear c35
                        obtain rfl := Option.some.inj H
                        go_wp2_with (first | ((with_reducible refine gate_callee (f := 21) rfl ?_); refine goesL_ (some 82) rfl rfl Try.func21 (by kernel_rfl) rfl #[.int .i64 a4, .int .i64 (wrap64 (ji21 + 1))] rfl (by (try simp only [List.map_toArray, List.map_cons, List.map_nil]); first | done | (simp only [hji21]; rfl) | rfl | (simp only [List.length_drop, List.length_take]; rfl)) ?_; (with_reducible refine (patchbaykeep1_within.calls a4 (wrap64 (ji21 + 1)) t606 _ A23.out).mono ?_); rintro e w' ⟨rfl, ⟨nd, rfl⟩⟩; refine ⟨_, rfl, ?_⟩) | ((with_reducible refine gate_callee (f := 56) rfl ?_); refine goesL_ (some 114) rfl rfl Try.func56 (by kernel_rfl) rfl #[.string x19_2, .int .i64 (wrap64 (1 + t600))] rfl (by (try simp only [List.map_toArray, List.map_cons, List.map_nil]); first | done | rfl | (simp only [List.length_drop, List.length_take]; rfl)) ?_; (with_reducible refine (fec_Decode.calls k2 x19_2 (wrap64 (1 + t600)) t608 t609 t610 _ A33.out).mono ?_); rintro e w36 ⟨rfl, hb⟩; refine ⟨_, rfl, ?_⟩; have n0_ := Aside0.mk (below_step (by repeat (first | (with_reducible first | exact HB.out | apply below_alloc | apply pw_below_drewN | apply below_drew1) | exact HB.out)) hb); clear HB; have HB := n0_; clear n0_; (try clear hb); (try clear hb2); (try clear hk); (try clear hi)))
                        go_ret
                        exact ⟨by first | rfl | (simp [errW_none, errW_some] <;> rfl) | (simp only [← hji21, ← hji24]; first | rfl | (simp [errW_none, errW_some] <;> rfl)) | (simp [*, errW_none, errW_some] <;> rfl), by repeat (first | (with_reducible first | exact HB.out | apply below_alloc | apply pw_below_drewN | apply below_drew1) | exact HB.out)⟩
                      · rw [if_neg c35] at H
                        have c35b0 : (t608.toList == t599.toList) = false := beq_eq_false_iff_ne.mpr c35
                        have c35b1 : (t608.toList != t599.toList) = true := bne_iff_ne.mpr c35
                        obtain rfl := Option.some.inj H
                        go_wp2_with (first | ((with_reducible refine gate_callee (f := 21) rfl ?_); refine goesL_ (some 82) rfl rfl Try.func21 (by kernel_rfl) rfl #[.int .i64 a4, .int .i64 (wrap64 (ji21 + 1))] rfl (by (try simp only [List.map_toArray, List.map_cons, List.map_nil]); first | done | (simp only [hji21]; rfl) | rfl | (simp only [List.length_drop, List.length_take]; rfl)) ?_; (with_reducible refine (patchbaykeep1_within.calls a4 (wrap64 (ji21 + 1)) t606 _ A23.out).mono ?_); rintro e w' ⟨rfl, ⟨nd, rfl⟩⟩; refine ⟨_, rfl, ?_⟩) | ((with_reducible refine gate_callee (f := 56) rfl ?_); refine goesL_ (some 114) rfl rfl Try.func56 (by kernel_rfl) rfl #[.string x19_2, .int .i64 (wrap64 (1 + t600))] rfl (by (try simp only [List.map_toArray, List.map_cons, List.map_nil]); first | done | rfl | (simp only [List.length_drop, List.length_take]; rfl)) ?_; (with_reducible refine (fec_Decode.calls k2 x19_2 (wrap64 (1 + t600)) t608 t609 t610 _ A33.out).mono ?_); rintro e w37 ⟨rfl, hb⟩; refine ⟨_, rfl, ?_⟩; have n0_ := Aside0.mk (below_step (by repeat (first | (with_reducible first | exact HB.out | apply below_alloc | apply pw_below_drewN | apply below_drew1) | exact HB.out)) hb); clear HB; have HB := n0_; clear n0_; (try clear hb); (try clear hb2); (try clear hk); (try clear hi)))
                        go_ret
                        exact ⟨by first | rfl | (simp [errW_none, errW_some] <;> rfl) | (simp only [← hji21, ← hji24]; first | rfl | (simp [errW_none, errW_some] <;> rfl)) | (simp [*, errW_none, errW_some] <;> rfl), by repeat (first | (with_reducible first | exact HB.out | apply below_alloc | apply pw_below_drewN | apply below_drew1) | exact HB.out)⟩
                    · rw [if_neg c34] at H
                      have c34b0 : (t610 == 0) = false := beq_eq_false_iff_ne.mpr c34
                      have c34b1 : (t610 != 0) = true := bne_iff_ne.mpr c34
                      obtain rfl := Option.some.inj H
                      go_wp2_with (first | ((with_reducible refine gate_callee (f := 21) rfl ?_); refine goesL_ (some 82) rfl rfl Try.func21 (by kernel_rfl) rfl #[.int .i64 a4, .int .i64 (wrap64 (ji21 + 1))] rfl (by (try simp only [List.map_toArray, List.map_cons, List.map_nil]); first | done | (simp only [hji21]; rfl) | rfl | (simp only [List.length_drop, List.length_take]; rfl)) ?_; (with_reducible refine (patchbaykeep1_within.calls a4 (wrap64 (ji21 + 1)) t606 _ A23.out).mono ?_); rintro e w' ⟨rfl, ⟨nd, rfl⟩⟩; refine ⟨_, rfl, ?_⟩) | ((with_reducible refine gate_callee (f := 56) rfl ?_); refine goesL_ (some 114) rfl rfl Try.func56 (by kernel_rfl) rfl #[.string x19_2, .int .i64 (wrap64 (1 + t600))] rfl (by (try simp only [List.map_toArray, List.map_cons, List.map_nil]); first | done | rfl | (simp only [List.length_drop, List.length_take]; rfl)) ?_; (with_reducible refine (fec_Decode.calls k2 x19_2 (wrap64 (1 + t600)) t608 t609 t610 _ A33.out).mono ?_); rintro e w38 ⟨rfl, hb⟩; refine ⟨_, rfl, ?_⟩; have n0_ := Aside0.mk (below_step (by repeat (first | (with_reducible first | exact HB.out | apply below_alloc | apply pw_below_drewN | apply below_drew1) | exact HB.out)) hb); clear HB; have HB := n0_; clear n0_; (try clear hb); (try clear hb2); (try clear hk); (try clear hi)))
                      go_ret
                      exact ⟨by first | rfl | (simp [errW_none, errW_some] <;> rfl) | (simp only [← hji21, ← hji24]; first | rfl | (simp [errW_none, errW_some] <;> rfl)) | (simp [*, errW_none, errW_some] <;> rfl), by repeat (first | (with_reducible first | exact HB.out | apply below_alloc | apply pw_below_drewN | apply below_drew1) | exact HB.out)⟩
  · replace c10 := Bool.eq_false_iff.mpr c10
    subst c10
    have H1 : (some false) = some r := by rw [if_neg (show ¬ (false = true) by decide)] at H; exact H
    clear H
    have H := H1
    clear H1
    obtain rfl := Option.some.inj H
    go_enter Try.func19, Try.ntmps19
    go_wp2_with (first | ((with_reducible refine gate_callee (f := 54) rfl ?_); refine goesL_ (some 26) rfl rfl Try.func54 (by kernel_rfl) rfl #[.string a0, .int .i64 60] rfl (by (try simp only [List.map_toArray, List.map_cons, List.map_nil]); first | done | rfl | (simp only [List.length_drop, List.length_take]; rfl)) ?_; (with_reducible refine (patchbaykeep1_cut.calls a0 60 t599 _ A7.out).mono ?_); rintro e w39 ⟨rfl, hb⟩; refine ⟨_, rfl, ?_⟩; have n0_ := Aside0.mk (below_step (by repeat (first | (with_reducible first | exact HB.out | apply below_alloc | apply pw_below_drewN | apply below_drew1) | exact HB.out)) hb); clear HB; have HB := n0_; clear n0_; (try clear hb); (try clear hb2); (try clear hk); (try clear hi)) | ((with_reducible refine gate_callee (f := 21) rfl ?_); refine goesL_ (some 28) rfl rfl Try.func21 (by kernel_rfl) rfl #[.int .i64 a1, .int .i64 64] rfl (by (try simp only [List.map_toArray, List.map_cons, List.map_nil]); first | done | rfl | (simp only [List.length_drop, List.length_take]; rfl)) ?_; (with_reducible refine (patchbaykeep1_within.calls a1 64 t600 _ A8.out).mono ?_); rintro e w' ⟨rfl, ⟨nd, rfl⟩⟩; refine ⟨_, rfl, ?_⟩) | ((with_reducible refine gate_callee (f := 24) rfl ?_); refine goesL_ (some 30) rfl rfl Try.func24 (by kernel_rfl) rfl #[] rfl (by (try simp only [List.map_toArray, List.map_cons, List.map_nil]); first | done | rfl | (simp only [List.length_drop, List.length_take]; rfl)) ?_; (with_reducible refine (patchbaykeep1_fecWorks.calls  false _ A9.out).mono ?_); rintro e w40 ⟨rfl, hb⟩; refine ⟨_, rfl, ?_⟩; have n0_ := Aside0.mk (below_step (by repeat (first | (with_reducible first | exact HB.out | apply below_alloc | apply pw_below_drewN | apply below_drew1) | exact HB.out)) hb); clear HB; have HB := n0_; clear n0_; (try clear hb); (try clear hb2); (try clear hk); (try clear hi)))
    go_ret
    exact ⟨by first | rfl | (simp [errW_none, errW_some] <;> rfl) | (simp [*, errW_none, errW_some] <;> rfl), by repeat (first | (with_reducible first | exact HB.out | apply below_alloc | apply pw_below_drewN | apply below_drew1) | exact HB.out)⟩

/-- THE ONE PURE STATEMENT of patchbaykeep1_FecBurst: yours. -/
def patchbaykeep1_FecBurst.Pure : Prop := ∀ (a0 : ByteArray) (a1 : Int) (a2 : Int) (a3 : Int) (a4 : Int) (a5 : ByteArray), a0.size ≤ 140737488351232 → (Lit.int .i64 a1).wf = true → (Lit.int .i64 a2).wf = true → (Lit.int .i64 a3).wf = true → (Lit.int .i64 a4).wf = true → a5.size ≤ 140737488351232 → ∃ k, patchbaykeep1_FecBurst.f k a0 a1 a2 a3 a4 a5 = some true
theorem patchbaykeep1_FecBurst.walk (P : patchbaykeep1_FecBurst.Pure) (a0 : ByteArray) (a1 : Int) (a2 : Int) (a3 : Int) (a4 : Int) (a5 : ByteArray) (w : World) (w0 : a0.size ≤ 140737488351232) (w1 : (Lit.int .i64 a1).wf = true) (w2 : (Lit.int .i64 a2).wf = true) (w3 : (Lit.int .i64 a3).wf = true) (w4 : (Lit.int .i64 a4).wf = true) (w5 : a5.size ≤ 140737488351232) :
    Calls Try.prog 19 #[.string a0, .int .i64 a1, .int .i64 a2, .int .i64 a3, .int .i64 a4, .string a5] w fun e w' => e = .returned (.bool true) ∧ Below w.heap.size w w' := by
  obtain ⟨k, h⟩ := P a0 a1 a2 a3 a4 a5 w0 w1 w2 w3 w4 w5
  refine (patchbaykeep1_FecBurst.calls k a0 a1 a2 a3 a4 a5 true w h).mono ?_
  rintro e w' ⟨rfl, hd⟩
  exact ⟨rfl, hd⟩

end Go.Proofs.Ytkdncfbbhbmaaaa.Q
