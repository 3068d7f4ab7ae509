/- A program's text (wip/drive.py runs the kit's printer over contracts of this session): Go functions as Lean functions, and that the calls do what these say. -/
import Derived.Test.YtkdncfbbhbmaaaaQ0
import Derived.Test.YtkdncfbbhbmaaaaQf44
namespace Go.Proofs.Ytkdncfbbhbmaaaa.Q
open Go.RowKit Go.Proofs.YtkdncfbbhbmaaaaW.PrintWords Go.Proofs.YtkdncfbbhbmaaaaW.PrintLast Go.Proofs.YtkdncfbbhbmaaaaW.PrintMore
attribute [local go_sem] max2_int min2_int max_two min_two max_three min_three max_four min_four   -- for this text's walks alone
set_option linter.unusedVariables false
set_option linter.unusedSimpArgs false

/-! ### patchbaykeep1_heardDuring: function 49 -/
def patchbaykeep1_heardDuring.l0 : Nat → List Int → Int → Int → Int → Int → Int → Int → Int → Option (Bool)
  | 0, _, _, _, _, _, _, _, _ => none
  | k + 1, x0, x7, x460000, x460001, x460002, x461000, x461001, x461002 => if x7 < (wrap64 (x460001 + x460002)) then ((medium_Heard.f k x0 (([(⟨x461000, x461001, x461002⟩ : S48)] : List (S48))) x460000 x7).bind fun bt464 => (if bt464.1 > 0 then (some true) else (patchbaykeep1_heardDuring.l0 k x0 (wrap64 (x7 + 1)) x460000 x460001 x460002 x461000 x461001 x461002))) else (some false)
def patchbaykeep1_heardDuring.f (k : Nat) (l0 : List Int) (a1_0 : Int) (a1_1 : Int) (a1_2 : Int) (a2_0 : Int) (a2_1 : Int) (a2_2 : Int) : Option (Bool) := patchbaykeep1_heardDuring.l0 k l0 a1_1 a1_0 a1_1 a1_2 a2_0 a2_1 a2_2
theorem patchbaykeep1_heardDuring.mono_l : ∀ k, (∀ y0 y1 y2 y3 y4 y5 y6 y7, LeO (patchbaykeep1_heardDuring.l0 k y0 y1 y2 y3 y4 y5 y6 y7) (patchbaykeep1_heardDuring.l0 (k + 1) y0 y1 y2 y3 y4 y5 y6 y7))
  | 0 => fun _ _ _ _ _ _ _ _ r h => by simp [patchbaykeep1_heardDuring.l0] at h
  | k + 1 => by
    have ih0 := patchbaykeep1_heardDuring.mono_l k
    · intro y0 y1 y2 y3 y4 y5 y6 y7
      unfold patchbaykeep1_heardDuring.l0
      repeat' first
      | (with_reducible exact ih0 _ _ _ _ _ _ _ _)
      | (with_reducible exact medium_Heard.mono _ _ _ _ _)
      | (with_reducible exact LeO.refl _)
      | (with_reducible exact LeO.none _)
      | (with_reducible refine LeO.ite ?_ ?_)
      | (with_reducible refine LeO.bind ?_ (fun _ => ?_))
      | exact ih0 _ _ _ _ _ _ _ _
      | exact medium_Heard.mono _ _ _ _ _
      | exact LeO.none _
      | refine LeO.ite ?_ ?_
      | refine LeO.bind ?_ (fun _ => ?_)
theorem patchbaykeep1_heardDuring.mono : ∀ a0 a1 a2 a3 a4 a5 a6 k, LeO (patchbaykeep1_heardDuring.f k a0 a1 a2 a3 a4 a5 a6) (patchbaykeep1_heardDuring.f (k + 1) a0 a1 a2 a3 a4 a5 a6) := by
  intro a0 a1 a2 a3 a4 a5 a6 k
  have ih0 := patchbaykeep1_heardDuring.mono_l k
  unfold patchbaykeep1_heardDuring.f
  repeat' first
      | (with_reducible exact ih0 _ _ _ _ _ _ _ _)
      | (with_reducible exact medium_Heard.mono _ _ _ _ _)
      | (with_reducible exact LeO.refl _)
      | (with_reducible exact LeO.none _)
      | (with_reducible refine LeO.ite ?_ ?_)
      | (with_reducible refine LeO.bind ?_ (fun _ => ?_))
      | exact ih0 _ _ _ _ _ _ _ _
      | exact medium_Heard.mono _ _ _ _ _
      | exact LeO.none _
      | refine LeO.ite ?_ ?_
      | refine LeO.bind ?_ (fun _ => ?_)
set_option maxHeartbeats 8000000 in
set_option maxRecDepth 100000 in
theorem patchbaykeep1_heardDuring.calls (k : Nat) (A0 : Option Addr) (c0 : Nat) (l0 : List Int) (a1_0 : Int) (a1_1 : Int) (a1_2 : Int) (a2_0 : Int) (a2_1 : Int) (a2_2 : Int) (r : Bool) (w : World) (hr0 : Kd.C (Kd.int .i64) w A0 l0.length l0) (hc0 : l0.length ≤ c0) (h : patchbaykeep1_heardDuring.f k l0 a1_0 a1_1 a1_2 a2_0 a2_1 a2_2 = some r) :
    Calls Try.prog 49 #[.slice A0 l0.length c0, .agg #[.int .i64 a1_0, .int .i64 a1_1, .int .i64 a1_2], .agg #[.int .i64 a2_0, .int .i64 a2_1, .int .i64 a2_2]] w fun e w' => e = .returned (.bool r) ∧ Below w.heap.size w w' := by
  have hu48 := Try.underlying48
  have HR0 := Aside0.mk hr0
  have HC0 := Aside0.mk hc0
  clear hr0 hc0
  have HB := Aside0.mk (Below.refl w.heap.size w)
  have H : (patchbaykeep1_heardDuring.l0 k l0 a1_1 a1_0 a1_1 a1_2 a2_0 a2_1 a2_2) = some r := h
  clear h
  have H' := Aside0.mk H
  clear H
  go_enter Try.func49, Try.ntmps49
  go_wp2_with (first | ((with_reducible refine gate_dst (N := 4) rfl ?_); refine box_event ?hg (N := 4) ?hd (cs := #[.int .i64 a1_0, .int .i64 a1_1, .int .i64 a1_2]) (t := 48) ?hr ?_; (case hd => rfl); (case hg => rfl); (case hr => first | (go_simp; done) | (go_simp; rfl)); intro gb459 hg w4 hbox hb; have n0_ := Aside0.mk (below_step (by repeat (first | (with_reducible first | exact HB.out | apply below_alloc | apply pw_below_drewN | apply below_drew1) | exact HB.out)) hb); have n1_ := Aside0.mk (hbox); have n2_ := Aside0.mk ((by rw [hg]; exact (below_size (by repeat (first | (with_reducible first | exact HB.out | apply below_alloc | apply pw_below_drewN | apply below_drew1) | exact HB.out))) : w.heap.size ≤ gb459)); have n3_ := Aside0.mk ((by rw [hg]; exact (below_size (by repeat (first | (with_reducible first | exact HB.out | apply below_alloc | apply pw_below_drewN | apply below_drew1) | exact HB.out))) : w.heap.size ≤ gb459)); clear HB; have HB := n0_; have BK459 := n1_; have GW459 := n2_; have GE459 := n3_; clear n0_ n1_ n2_ n3_; clear hb hbox hg) | ((with_reducible refine gate_dst (N := 5) rfl ?_); refine box_event ?hg (N := 5) ?hd (cs := #[.int .i64 a2_0, .int .i64 a2_1, .int .i64 a2_2]) (t := 48) ?hr ?_; (case hd => rfl); (case hg => rfl); (case hr => first | (go_simp; done) | (go_simp; rfl)); intro gb460 hg w5 hbox hb; have n0_ := Aside0.mk (blk_below (g := gb459) (o := .cells #[.int .i64 a1_0, .int .i64 a1_1, .int .i64 a1_2] 48 (0, 0)) (by (with_reducible repeat (first | refine blk_drewN ?_ _ | refine blk_drew ?_ | refine blk_alloc ?_ _)); exact BK459.out) hb); have n1_ := Aside0.mk (below_step (by repeat (first | (with_reducible first | exact HB.out | apply below_alloc | apply pw_below_drewN | apply below_drew1 | refine below_set ?_ GE459.out) | exact HB.out)) hb); have n2_ := Aside0.mk (hbox); have n3_ := Aside0.mk ((by rw [hg]; exact (below_size (by repeat (first | (with_reducible first | exact HB.out | apply below_alloc | apply pw_below_drewN | apply below_drew1 | refine below_set ?_ GE459.out) | exact HB.out))) : w.heap.size ≤ gb460)); have n4_ := Aside0.mk ((by rw [hg]; exact (below_size (by repeat (first | (with_reducible first | exact HB.out | apply below_alloc | apply pw_below_drewN | apply below_drew1 | refine below_set ?_ GE459.out) | exact HB.out))) : w.heap.size ≤ gb460)); have n5_ := Aside0.mk ((by rw [hg]; exact Nat.ne_of_lt (blk_lt (g := gb459) (o := .cells #[.int .i64 a1_0, .int .i64 a1_1, .int .i64 a1_2] 48 (0, 0)) (by (with_reducible repeat (first | refine blk_drewN ?_ _ | refine blk_drew ?_ | refine blk_alloc ?_ _)); exact BK459.out)) : gb459 ≠ gb460)); have n6_ := Aside0.mk ((by rw [hg]; exact Nat.ne_of_gt (blk_lt (g := gb459) (o := .cells #[.int .i64 a1_0, .int .i64 a1_1, .int .i64 a1_2] 48 (0, 0)) (by (with_reducible repeat (first | refine blk_drewN ?_ _ | refine blk_drew ?_ | refine blk_alloc ?_ _)); exact BK459.out)) : gb460 ≠ gb459)); clear BK459; clear HB; have BK459 := n0_; have HB := n1_; have BK460 := n2_; have GW460 := n3_; have GE460 := n4_; have NB459_460 := n5_; have NB460_459 := n6_; clear n0_ n1_ n2_ n3_ n4_ n5_ n6_; clear hb hbox hg; have hnb6 := NB459_460.out; have hnc6 := NB460_459.out; have hcz7_0 : w5.cell? ⟨gb459, 0, none⟩ = some (.int .i64 a1_0) := (blk_cell BK459.out 0).trans rfl; have hcz7_1 : w5.cell? ⟨gb459, 1, none⟩ = some (.int .i64 a1_1) := (blk_cell BK459.out 1).trans rfl; have hcz7_2 : w5.cell? ⟨gb459, 2, none⟩ = some (.int .i64 a1_2) := (blk_cell BK459.out 2).trans rfl; have hfz7_0 := blk_frozen BK459.out 0; have hfz7_1 := blk_frozen BK459.out 1; have hfz7_2 := blk_frozen BK459.out 2))
  go_loopg [7] k (fun kq v7 w' => ∃ (x7_1 : Int), v7 = .int .i64 x7_1 ∧ Aside0 (patchbaykeep1_heardDuring.l0 kq l0 x7_1 a1_0 a1_1 a1_2 a2_0 a2_1 a2_2 = some r) ∧ Aside0 (kq ≤ k) ∧ Aside0 (w'.heap[gb459]? = some (.cells #[.int .i64 a1_0, .int .i64 a1_1, .int .i64 a1_2] 48 (0, 0))) ∧ Aside0 (w'.heap[gb460]? = some (.cells #[.int .i64 a2_0, .int .i64 a2_1, .int .i64 a2_2] 48 (0, 0))) ∧ Aside0 (Below w.heap.size w w'))
  case atStart => exact ⟨(a1_1), (by first | rfl | (simp; done) | (simp [*]; done)), H', ⟨Nat.le_refl _⟩, ⟨by (with_reducible repeat (first | refine blk_drewN ?_ _ | refine blk_drew ?_ | refine blk_alloc ?_ _)); exact BK459.out⟩, ⟨by (with_reducible repeat (first | refine blk_drewN ?_ _ | refine blk_drew ?_ | refine blk_alloc ?_ _)); exact BK460.out⟩, ⟨by repeat (first | (with_reducible first | exact HB.out | apply below_alloc | apply pw_below_drewN | apply below_drew1 | refine below_set ?_ GE459.out | refine below_set ?_ GE460.out) | exact HB.out)⟩⟩
  case round =>
    clear H'
    try clear p1
    try clear p2
    try clear c4
    try clear c6
    try clear hcz7_0
    try clear hcz7_1
    try clear hcz7_2
    try clear hfz7_0
    try clear hfz7_1
    try clear hfz7_2
    obtain ⟨x7_1, rfl, HA, HK1, BK459, BK460, HB⟩ := hrel
    cases gk with
    | zero => exact absurd HA.out (by simp [patchbaykeep1_heardDuring.l0])
    | succ k1 =>
      have H := HA.out
      clear HA
      simp only [patchbaykeep1_heardDuring.l0] at H
      by_cases c8 : x7_1 < (wrap64 (a1_1 + a1_2))
      · rw [if_pos c8] at H
        have c8b0 : decide (x7_1 < (wrap64 (a1_1 + a1_2))) = true := decide_eq_true c8
        clear c8
        obtain ⟨y461, hy461⟩ : ∃ y_ : List (S48), y_ = (([(⟨a2_0, a2_1, a2_2⟩ : S48)] : List (S48))) := ⟨_, rfl⟩
        replace H : ((medium_Heard.f k1 l0 y461 a1_0 x7_1).bind fun bt464 => (if bt464.1 > 0 then (some true) else (patchbaykeep1_heardDuring.l0 k1 l0 (wrap64 (x7_1 + 1)) a1_0 a1_1 a1_2 a2_0 a2_1 a2_2))) = some r := by first | (rw [hy461]; with_reducible exact H) | (have H2_ := (Option.bind_some _ _).symm.trans H; rw [hy461]; with_reducible exact H2_) | (have H2_ := (Option.bind_some _ _).symm.trans H; with_reducible exact H2_) | with_reducible exact H | (rw [hy461]; exact H) | exact H
        have Ny461 := Aside0.mk hy461
        clear hy461
        replace H := Option.bind_eq_some_iff.mp H
        obtain ⟨⟨t464, t465⟩, A90, H⟩ := H
        replace H : (if t464 > 0 then (some true) else (patchbaykeep1_heardDuring.l0 k1 l0 (wrap64 (x7_1 + 1)) a1_0 a1_1 a1_2 a2_0 a2_1 a2_2)) = some r := H
        have A9 := Aside0.mk A90
        clear A90
        by_cases c10 : t464 > 0
        · rw [if_pos c10] at H
          have c10b0 : decide (0 < t464) = true := decide_eq_true c10
          clear c10
          obtain rfl := Option.some.inj H
          have hnb11 := NB459_460.out
          have hnc11 := NB460_459.out
          have hcz12_0 : wr.cell? ⟨gb459, 0, none⟩ = some (.int .i64 a1_0) := (blk_cell BK459.out 0).trans rfl
          have hcz12_1 : wr.cell? ⟨gb459, 1, none⟩ = some (.int .i64 a1_1) := (blk_cell BK459.out 1).trans rfl
          have hcz12_2 : wr.cell? ⟨gb459, 2, none⟩ = some (.int .i64 a1_2) := (blk_cell BK459.out 2).trans rfl
          have hfz12_0 := blk_frozen BK459.out 0
          have hfz12_1 := blk_frozen BK459.out 1
          have hfz12_2 := blk_frozen BK459.out 2
          have hcz13_0 : wr.cell? ⟨gb460, 0, none⟩ = some (.int .i64 a2_0) := (blk_cell BK460.out 0).trans rfl
          have hcz13_1 : wr.cell? ⟨gb460, 1, none⟩ = some (.int .i64 a2_1) := (blk_cell BK460.out 1).trans rfl
          have hcz13_2 : wr.cell? ⟨gb460, 2, none⟩ = some (.int .i64 a2_2) := (blk_cell BK460.out 2).trans rfl
          have hfz13_0 := blk_frozen BK460.out 0
          have hfz13_1 := blk_frozen BK460.out 1
          have hfz13_2 := blk_frozen BK460.out 2
          go_wp2_with (first | ((with_reducible refine gate_dst (N := 24) rfl ?_); refine Kd.R_lit k48 _ 48 ?hg (N := 24) ?hd (xs := ([(⟨a2_0, a2_1, a2_2⟩ : S48)] : List (S48))) (inner := [.int .i64 a2_0, .int .i64 a2_1, .int .i64 a2_2]) (ok := fun _ => True) (okp := fun _ => True) ?hr ?hp (fun _ hk => hk) trivial (Below.refl _ _) (Nat.le_refl _) (by simp) ?_; (case hd => rfl); (case hg => rfl); (case hr => first | (go_simp; done) | (go_simp; rfl)); (case hp => exact (Reps.c3 (show Kd.M k48 _ _ _ (⟨a2_0, a2_1, a2_2⟩ : S48) [.int .i64 a2_0, .int .i64 a2_1, .int .i64 a2_2] from (k48_mkM _ _ _ (⟨a2_0, a2_1, a2_2⟩ : S48) )) (Reps.none _ _))); intro v462 w14 ho15 hb hg_ hnew_; clear hg_ hnew_; (first | rw [← Ny461.out] at ho15 | (simp only [Int.reduceToNat] at ho15; rw [← Ny461.out] at ho15)); have n0_ := Aside0.mk (Kd.R_lower (Kd.R_newB (Kd.R_newB ho15 (g := gb459) (o := .cells #[.int .i64 a1_0, .int .i64 a1_1, .int .i64 a1_2] 48 (0, 0)) (by (with_reducible repeat (first | refine blk_drewN ?_ _ | refine blk_drew ?_ | refine blk_alloc ?_ _)); exact BK459.out)) (g := gb460) (o := .cells #[.int .i64 a2_0, .int .i64 a2_1, .int .i64 a2_2] 48 (0, 0)) (by (with_reducible repeat (first | refine blk_drewN ?_ _ | refine blk_drew ?_ | refine blk_alloc ?_ _)); exact BK460.out)) (below_size (by repeat (first | (with_reducible first | exact HB.out | apply below_alloc | apply pw_below_drewN | apply below_drew1 | refine below_set ?_ GE459.out | refine below_set ?_ GE460.out) | exact HB.out)))); have n1_ := Aside0.mk (blk_below (g := gb459) (o := .cells #[.int .i64 a1_0, .int .i64 a1_1, .int .i64 a1_2] 48 (0, 0)) (by (with_reducible repeat (first | refine blk_drewN ?_ _ | refine blk_drew ?_ | refine blk_alloc ?_ _)); exact BK459.out) hb); have n2_ := Aside0.mk (blk_below (g := gb460) (o := .cells #[.int .i64 a2_0, .int .i64 a2_1, .int .i64 a2_2] 48 (0, 0)) (by (with_reducible repeat (first | refine blk_drewN ?_ _ | refine blk_drew ?_ | refine blk_alloc ?_ _)); exact BK460.out) hb); have n3_ := Aside0.mk (below_step (by repeat (first | (with_reducible first | exact HB.out | apply below_alloc | apply pw_below_drewN | apply below_drew1 | refine below_set ?_ GE459.out | refine below_set ?_ GE460.out) | exact HB.out)) hb); clear BK459; clear BK460; clear HB; have HO463 := n0_; have BK459 := n1_; have BK460 := n2_; have HB := n3_; clear n0_ n1_ n2_ n3_; clear hb ho15; have hcz16_0 : w14.cell? ⟨gb459, 0, none⟩ = some (.int .i64 a1_0) := (blk_cell BK459.out 0).trans rfl; have hcz16_1 : w14.cell? ⟨gb459, 1, none⟩ = some (.int .i64 a1_1) := (blk_cell BK459.out 1).trans rfl; have hcz16_2 : w14.cell? ⟨gb459, 2, none⟩ = some (.int .i64 a1_2) := (blk_cell BK459.out 2).trans rfl; have hfz16_0 := blk_frozen BK459.out 0; have hfz16_1 := blk_frozen BK459.out 1; have hfz16_2 := blk_frozen BK459.out 2; obtain ⟨Ao17, co17, eo17⟩ := Kd.R_slice HO463.out; subst eo17) | ((with_reducible refine gate_callee (f := 44) rfl ?_); refine goesL_ (some 28) rfl rfl Try.func44 (by kernel_rfl) rfl #[.slice A0 l0.length c0, .slice Ao17 y461.length co17, .int .i64 a1_0, .int .i64 x7_1] rfl (by (try simp only [List.map_toArray, List.map_cons, List.map_nil]); first | done | rfl | (simp only [List.length_drop, List.length_take]; rfl)) ?_; (with_reducible refine (medium_Heard.calls k1 _ _ l0 _ _ y461 a1_0 x7_1 t464 t465 _ ?side1 ?side2 ?side3 ?side4 A9.out).mono ?_); (case side1 => repeat (first | exact (Kd.C_below HR0.out HB.out) | (with_reducible refine Kd.C_alloc ?_ _) | (with_reducible refine Kd.C_drewN ?_ _) | (with_reducible refine Kd.C_drew ?_))); (case side2 => exact HC0.out); (case side3 => repeat (first | exact (Kd.R_reads' HO463.out).2.2 | (with_reducible refine Kd.C_alloc ?_ _) | (with_reducible refine Kd.C_drewN ?_ _) | (with_reducible refine Kd.C_drew ?_))); (case side4 => exact (Kd.R_reads' HO463.out).2.1); rintro e w18 ⟨rfl, hb⟩; refine ⟨_, rfl, ?_⟩; have n0_ := Aside0.mk (Kd.R_below (by (with_reducible repeat (first | apply Kd.R_alloc | apply Kd.R_drewN | apply Kd.R_drew)); exact HO463.out) hb); have n1_ := Aside0.mk (blk_below (g := gb459) (o := .cells #[.int .i64 a1_0, .int .i64 a1_1, .int .i64 a1_2] 48 (0, 0)) (by (with_reducible repeat (first | refine blk_drewN ?_ _ | refine blk_drew ?_ | refine blk_alloc ?_ _)); exact BK459.out) hb); have n2_ := Aside0.mk (blk_below (g := gb460) (o := .cells #[.int .i64 a2_0, .int .i64 a2_1, .int .i64 a2_2] 48 (0, 0)) (by (with_reducible repeat (first | refine blk_drewN ?_ _ | refine blk_drew ?_ | refine blk_alloc ?_ _)); exact BK460.out) hb); have n3_ := Aside0.mk (below_step (by repeat (first | (with_reducible first | exact HB.out | apply below_alloc | apply pw_below_drewN | apply below_drew1 | refine below_set ?_ GE459.out | refine below_set ?_ GE460.out) | exact HB.out)) hb); clear HO463; clear BK459; clear BK460; clear HB; have HO463 := n0_; have BK459 := n1_; have BK460 := n2_; have HB := n3_; clear n0_ n1_ n2_ n3_; (try clear hb); (try clear hb2); (try clear hk); (try clear hi)))
          go_ret
          exact ⟨by first | rfl | (simp [errW_none, errW_some] <;> rfl) | (simp [*, errW_none, errW_some] <;> rfl), by repeat (first | (with_reducible first | exact HB.out | apply below_alloc | apply pw_below_drewN | apply below_drew1 | refine below_set ?_ GE459.out | refine below_set ?_ GE460.out) | exact HB.out)⟩
        · rw [if_neg c10] at H
          have c10b0 : decide (0 < t464) = false := decide_eq_false c10
          clear c10
          have H' := Aside0.mk H
          clear H
          have hnb19 := NB459_460.out
          have hnc19 := NB460_459.out
          have hcz20_0 : wr.cell? ⟨gb459, 0, none⟩ = some (.int .i64 a1_0) := (blk_cell BK459.out 0).trans rfl
          have hcz20_1 : wr.cell? ⟨gb459, 1, none⟩ = some (.int .i64 a1_1) := (blk_cell BK459.out 1).trans rfl
          have hcz20_2 : wr.cell? ⟨gb459, 2, none⟩ = some (.int .i64 a1_2) := (blk_cell BK459.out 2).trans rfl
          have hfz20_0 := blk_frozen BK459.out 0
          have hfz20_1 := blk_frozen BK459.out 1
          have hfz20_2 := blk_frozen BK459.out 2
          have hcz21_0 : wr.cell? ⟨gb460, 0, none⟩ = some (.int .i64 a2_0) := (blk_cell BK460.out 0).trans rfl
          have hcz21_1 : wr.cell? ⟨gb460, 1, none⟩ = some (.int .i64 a2_1) := (blk_cell BK460.out 1).trans rfl
          have hcz21_2 : wr.cell? ⟨gb460, 2, none⟩ = some (.int .i64 a2_2) := (blk_cell BK460.out 2).trans rfl
          have hfz21_0 := blk_frozen BK460.out 0
          have hfz21_1 := blk_frozen BK460.out 1
          have hfz21_2 := blk_frozen BK460.out 2
          go_wp2_with (first | ((with_reducible refine gate_dst (N := 24) rfl ?_); refine Kd.R_lit k48 _ 48 ?hg (N := 24) ?hd (xs := ([(⟨a2_0, a2_1, a2_2⟩ : S48)] : List (S48))) (inner := [.int .i64 a2_0, .int .i64 a2_1, .int .i64 a2_2]) (ok := fun _ => True) (okp := fun _ => True) ?hr ?hp (fun _ hk => hk) trivial (Below.refl _ _) (Nat.le_refl _) (by simp) ?_; (case hd => rfl); (case hg => rfl); (case hr => first | (go_simp; done) | (go_simp; rfl)); (case hp => exact (Reps.c3 (show Kd.M k48 _ _ _ (⟨a2_0, a2_1, a2_2⟩ : S48) [.int .i64 a2_0, .int .i64 a2_1, .int .i64 a2_2] from (k48_mkM _ _ _ (⟨a2_0, a2_1, a2_2⟩ : S48) )) (Reps.none _ _))); intro v462 w22 ho23 hb hg_ hnew_; clear hg_ hnew_; (first | rw [← Ny461.out] at ho23 | (simp only [Int.reduceToNat] at ho23; rw [← Ny461.out] at ho23)); have n0_ := Aside0.mk (Kd.R_lower (Kd.R_newB (Kd.R_newB ho23 (g := gb459) (o := .cells #[.int .i64 a1_0, .int .i64 a1_1, .int .i64 a1_2] 48 (0, 0)) (by (with_reducible repeat (first | refine blk_drewN ?_ _ | refine blk_drew ?_ | refine blk_alloc ?_ _)); exact BK459.out)) (g := gb460) (o := .cells #[.int .i64 a2_0, .int .i64 a2_1, .int .i64 a2_2] 48 (0, 0)) (by (with_reducible repeat (first | refine blk_drewN ?_ _ | refine blk_drew ?_ | refine blk_alloc ?_ _)); exact BK460.out)) (below_size (by repeat (first | (with_reducible first | exact HB.out | apply below_alloc | apply pw_below_drewN | apply below_drew1 | refine below_set ?_ GE459.out | refine below_set ?_ GE460.out) | exact HB.out)))); have n1_ := Aside0.mk (blk_below (g := gb459) (o := .cells #[.int .i64 a1_0, .int .i64 a1_1, .int .i64 a1_2] 48 (0, 0)) (by (with_reducible repeat (first | refine blk_drewN ?_ _ | refine blk_drew ?_ | refine blk_alloc ?_ _)); exact BK459.out) hb); have n2_ := Aside0.mk (blk_below (g := gb460) (o := .cells #[.int .i64 a2_0, .int .i64 a2_1, .int .i64 a2_2] 48 (0, 0)) (by (with_reducible repeat (first | refine blk_drewN ?_ _ | refine blk_drew ?_ | refine blk_alloc ?_ _)); exact BK460.out) hb); have n3_ := Aside0.mk (below_step (by repeat (first | (with_reducible first | exact HB.out | apply below_alloc | apply pw_below_drewN | apply below_drew1 | refine below_set ?_ GE459.out | refine below_set ?_ GE460.out) | exact HB.out)) hb); clear BK459; clear BK460; clear HB; have HO463 := n0_; have BK459 := n1_; have BK460 := n2_; have HB := n3_; clear n0_ n1_ n2_ n3_; clear hb ho23; have hcz24_0 : w22.cell? ⟨gb459, 0, none⟩ = some (.int .i64 a1_0) := (blk_cell BK459.out 0).trans rfl; have hcz24_1 : w22.cell? ⟨gb459, 1, none⟩ = some (.int .i64 a1_1) := (blk_cell BK459.out 1).trans rfl; have hcz24_2 : w22.cell? ⟨gb459, 2, none⟩ = some (.int .i64 a1_2) := (blk_cell BK459.out 2).trans rfl; have hfz24_0 := blk_frozen BK459.out 0; have hfz24_1 := blk_frozen BK459.out 1; have hfz24_2 := blk_frozen BK459.out 2; obtain ⟨Ao25, co25, eo25⟩ := Kd.R_slice HO463.out; subst eo25) | ((with_reducible refine gate_callee (f := 44) rfl ?_); refine goesL_ (some 28) rfl rfl Try.func44 (by kernel_rfl) rfl #[.slice A0 l0.length c0, .slice Ao25 y461.length co25, .int .i64 a1_0, .int .i64 x7_1] rfl (by (try simp only [List.map_toArray, List.map_cons, List.map_nil]); first | done | rfl | (simp only [List.length_drop, List.length_take]; rfl)) ?_; (with_reducible refine (medium_Heard.calls k1 _ _ l0 _ _ y461 a1_0 x7_1 t464 t465 _ ?side1 ?side2 ?side3 ?side4 A9.out).mono ?_); (case side1 => repeat (first | exact (Kd.C_below HR0.out HB.out) | (with_reducible refine Kd.C_alloc ?_ _) | (with_reducible refine Kd.C_drewN ?_ _) | (with_reducible refine Kd.C_drew ?_))); (case side2 => exact HC0.out); (case side3 => repeat (first | exact (Kd.R_reads' HO463.out).2.2 | (with_reducible refine Kd.C_alloc ?_ _) | (with_reducible refine Kd.C_drewN ?_ _) | (with_reducible refine Kd.C_drew ?_))); (case side4 => exact (Kd.R_reads' HO463.out).2.1); rintro e w26 ⟨rfl, hb⟩; refine ⟨_, rfl, ?_⟩; have n0_ := Aside0.mk (Kd.R_below (by (with_reducible repeat (first | apply Kd.R_alloc | apply Kd.R_drewN | apply Kd.R_drew)); exact HO463.out) hb); have n1_ := Aside0.mk (blk_below (g := gb459) (o := .cells #[.int .i64 a1_0, .int .i64 a1_1, .int .i64 a1_2] 48 (0, 0)) (by (with_reducible repeat (first | refine blk_drewN ?_ _ | refine blk_drew ?_ | refine blk_alloc ?_ _)); exact BK459.out) hb); have n2_ := Aside0.mk (blk_below (g := gb460) (o := .cells #[.int .i64 a2_0, .int .i64 a2_1, .int .i64 a2_2] 48 (0, 0)) (by (with_reducible repeat (first | refine blk_drewN ?_ _ | refine blk_drew ?_ | refine blk_alloc ?_ _)); exact BK460.out) hb); have n3_ := Aside0.mk (below_step (by repeat (first | (with_reducible first | exact HB.out | apply below_alloc | apply pw_below_drewN | apply below_drew1 | refine below_set ?_ GE459.out | refine below_set ?_ GE460.out) | exact HB.out)) hb); clear HO463; clear BK459; clear BK460; clear HB; have HO463 := n0_; have BK459 := n1_; have BK460 := n2_; have HB := n3_; clear n0_ n1_ n2_ n3_; (try clear hb); (try clear hb2); (try clear hk); (try clear hi)))
          go_roundg k1
          case measure => have := HK1.out; omega
          case rel => exact ⟨(wrap64 (x7_1 + 1)), (by first | rfl | (simp; done) | (simp [*]; done)), H', ⟨by have := HK1.out; omega⟩, ⟨by (with_reducible repeat (first | refine blk_drewN ?_ _ | refine blk_drew ?_ | refine blk_alloc ?_ _)); exact BK459.out⟩, ⟨by (with_reducible repeat (first | refine blk_drewN ?_ _ | refine blk_drew ?_ | refine blk_alloc ?_ _)); exact BK460.out⟩, ⟨by repeat (first | (with_reducible first | exact HB.out | apply below_alloc | apply pw_below_drewN | apply below_drew1 | refine below_set ?_ GE459.out | refine below_set ?_ GE460.out) | exact HB.out)⟩⟩
      · rw [if_neg c8] at H
        have c8b0 : decide (x7_1 < (wrap64 (a1_1 + a1_2))) = false := decide_eq_false c8
        clear c8
        obtain rfl := Option.some.inj H
        have hnb27 := NB459_460.out
        have hnc27 := NB460_459.out
        have hcz28_0 : wr.cell? ⟨gb459, 0, none⟩ = some (.int .i64 a1_0) := (blk_cell BK459.out 0).trans rfl
        have hcz28_1 : wr.cell? ⟨gb459, 1, none⟩ = some (.int .i64 a1_1) := (blk_cell BK459.out 1).trans rfl
        have hcz28_2 : wr.cell? ⟨gb459, 2, none⟩ = some (.int .i64 a1_2) := (blk_cell BK459.out 2).trans rfl
        have hfz28_0 := blk_frozen BK459.out 0
        have hfz28_1 := blk_frozen BK459.out 1
        have hfz28_2 := blk_frozen BK459.out 2
        go_wp2
        go_ret
        exact ⟨by first | rfl | (simp [errW_none, errW_some] <;> rfl) | (simp [*, errW_none, errW_some] <;> rfl), by repeat (first | (with_reducible first | exact HB.out | apply below_alloc | apply pw_below_drewN | apply below_drew1 | refine below_set ?_ GE459.out | refine below_set ?_ GE460.out) | exact HB.out)⟩

end Go.Proofs.Ytkdncfbbhbmaaaa.Q
