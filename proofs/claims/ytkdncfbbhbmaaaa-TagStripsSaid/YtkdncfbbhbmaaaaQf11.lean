/- A program's text (wip/drive.py runs the kit's printer over contracts of this session): Go functions as Lean functions, and that the calls do what these say. -/
import Derived.Test.YtkdncfbbhbmaaaaQ0
import Derived.Test.YtkdncfbbhbmaaaaQ1
import Derived.Test.YtkdncfbbhbmaaaaQf37
import Derived.Test.YtkdncfbbhbmaaaaQf39
namespace Go.Proofs.Ytkdncfbbhbmaaaa.Q
open Go.RowKit Go.Proofs.YtkdncfbbhbmaaaaW.PrintWords Go.Proofs.YtkdncfbbhbmaaaaW.PrintLast Go.Proofs.YtkdncfbbhbmaaaaW.PrintMore
attribute [local go_sem] max2_int min2_int max_two min_two max_three min_three max_four min_four   -- for this text's walks alone
set_option linter.unusedVariables false
set_option linter.unusedSimpArgs false

attribute [local go_sem high] eqA37
/-! ### patchbaykeep1_TagStrips: function 11 -/
def patchbaykeep1_TagStrips.j0 : Nat → Int → Bool → Bool → Int → List Int → Int → Int → Int → Int → ByteArray → Int → Int → Int → Int → ByteArray → Option (Bool)
  | 0, _, _, _, _, _, _, _, _, _, _, _, _, _, _, _ => none
  | k + 1, x1, x8, x26, x373000, x373001, x374000, x374001, x374002, x374003, x374004, x383000, x383001, x383002, x383003, x383004 => if x26 = true then (if (x383000 == 0 && (x383001 == 0 && (x383002 == 0 && (x383003 == 0 && (x383004.toList == ([] : List UInt8)))))) = true then (some (!x8)) else (some false)) else (if x1 = x373000 then (some (x383000 == x374000 && (x383001 == x374001 && (x383002 == 0 && (x383003 == x374003 && (x383004.toList == x374004.toList)))))) else (some (x383000 == x374000 && (x383001 == x374001 && (x383002 == x1 && (x383003 == x374003 && (x383004.toList == x374004.toList)))))))
def patchbaykeep1_TagStrips.f (k : Nat) (a0_0 : Int) (l0_1 : List Int) (a1 : Int) (a2_0 : Int) (a2_1 : Int) (a2_2 : Int) (a2_3 : Int) (a2_4 : ByteArray) : Option (Bool) := (patchbaykeep1_tagWorks.f k).bind fun t374 => (if t374 = true then ((tag_Out.f k a0_0 l0_1 a1 a2_0 a2_1 a2_2 a2_3 a2_4).bind fun bt375 => (if bt375.2.2.2.2.2.2 = 0 then (patchbaykeep1_TagStrips.j0 k a1 bt375.2.2.2.2.2.1 (!bt375.2.2.2.2.2.1) a0_0 l0_1 a2_0 a2_1 a2_2 a2_3 a2_4 bt375.1 bt375.2.1 bt375.2.2.1 bt375.2.2.2.1 bt375.2.2.2.2.1) else (patchbaykeep1_TagStrips.j0 k a1 bt375.2.2.2.2.2.1 true a0_0 l0_1 a2_0 a2_1 a2_2 a2_3 a2_4 bt375.1 bt375.2.1 bt375.2.2.1 bt375.2.2.2.1 bt375.2.2.2.2.1))) else (some false))
theorem patchbaykeep1_TagStrips.mono_l : ∀ k, (∀ y0 y1 y2 y3 y4 y5 y6 y7 y8 y9 y10 y11 y12 y13 y14, LeO (patchbaykeep1_TagStrips.j0 k y0 y1 y2 y3 y4 y5 y6 y7 y8 y9 y10 y11 y12 y13 y14) (patchbaykeep1_TagStrips.j0 (k + 1) y0 y1 y2 y3 y4 y5 y6 y7 y8 y9 y10 y11 y12 y13 y14))
  | 0 => fun _ _ _ _ _ _ _ _ _ _ _ _ _ _ _ r h => by simp [patchbaykeep1_TagStrips.j0] at h
  | k + 1 => by
    have ih0 := patchbaykeep1_TagStrips.mono_l k
    · intro y0 y1 y2 y3 y4 y5 y6 y7 y8 y9 y10 y11 y12 y13 y14
      unfold patchbaykeep1_TagStrips.j0
      repeat' first
      | (with_reducible exact ih0 _ _ _ _ _ _ _ _ _ _ _ _ _ _ _)
      | (with_reducible exact patchbaykeep1_tagWorks.mono _)
      | (with_reducible exact tag_Out.mono _ _ _ _ _ _ _ _ _)
      | (with_reducible exact LeO.refl _)
      | (with_reducible exact LeO.none _)
      | (with_reducible refine LeO.ite ?_ ?_)
      | (with_reducible refine LeO.bind ?_ (fun _ => ?_))
      | exact ih0 _ _ _ _ _ _ _ _ _ _ _ _ _ _ _
      | exact patchbaykeep1_tagWorks.mono _
      | exact tag_Out.mono _ _ _ _ _ _ _ _ _
      | exact LeO.none _
      | refine LeO.ite ?_ ?_
      | refine LeO.bind ?_ (fun _ => ?_)
theorem patchbaykeep1_TagStrips.mono : ∀ a0 a1 a2 a3 a4 a5 a6 a7 k, LeO (patchbaykeep1_TagStrips.f k a0 a1 a2 a3 a4 a5 a6 a7) (patchbaykeep1_TagStrips.f (k + 1) a0 a1 a2 a3 a4 a5 a6 a7) := by
  intro a0 a1 a2 a3 a4 a5 a6 a7 k
  have ih0 := patchbaykeep1_TagStrips.mono_l k
  unfold patchbaykeep1_TagStrips.f
  repeat' first
      | (with_reducible exact ih0 _ _ _ _ _ _ _ _ _ _ _ _ _ _ _)
      | (with_reducible exact patchbaykeep1_tagWorks.mono _)
      | (with_reducible exact tag_Out.mono _ _ _ _ _ _ _ _ _)
      | (with_reducible exact LeO.refl _)
      | (with_reducible exact LeO.none _)
      | (with_reducible refine LeO.ite ?_ ?_)
      | (with_reducible refine LeO.bind ?_ (fun _ => ?_))
      | exact ih0 _ _ _ _ _ _ _ _ _ _ _ _ _ _ _
      | exact patchbaykeep1_tagWorks.mono _
      | exact tag_Out.mono _ _ _ _ _ _ _ _ _
      | exact LeO.none _
      | refine LeO.ite ?_ ?_
      | refine LeO.bind ?_ (fun _ => ?_)
set_option maxHeartbeats 8000000 in
set_option maxRecDepth 100000 in
theorem patchbaykeep1_TagStrips.calls (k : Nat) (a0_0 : Int) (A0_1 : Option Addr) (c0_1 : Nat) (l0_1 : List Int) (a1 : Int) (a2_0 : Int) (a2_1 : Int) (a2_2 : Int) (a2_3 : Int) (a2_4 : ByteArray) (r : Bool) (w : World) (hr0_1 : Kd.C (Kd.int .i64) w A0_1 l0_1.length l0_1) (hc0_1 : l0_1.length ≤ c0_1) (h : patchbaykeep1_TagStrips.f k a0_0 l0_1 a1 a2_0 a2_1 a2_2 a2_3 a2_4 = some r) :
    Calls Try.prog 11 #[.agg #[.int .i64 a0_0, .slice A0_1 l0_1.length c0_1], .int .i64 a1, .agg #[.int .i64 a2_0, .int .i64 a2_1, .int .i64 a2_2, .int .i64 a2_3, .string a2_4]] w fun e w' => e = .returned (.bool r) ∧ Below w.heap.size w w' := by
  have hu53 := Try.underlying53
  have hu37 := Try.underlying37
  have HR0_1 := Aside0.mk hr0_1
  have HC0_1 := Aside0.mk hc0_1
  clear hr0_1 hc0_1
  have HB := Aside0.mk (Below.refl w.heap.size w)
  have H : ((patchbaykeep1_tagWorks.f k).bind fun t374 => (if t374 = true then ((tag_Out.f k a0_0 l0_1 a1 a2_0 a2_1 a2_2 a2_3 a2_4).bind fun bt375 => (if bt375.2.2.2.2.2.2 = 0 then (patchbaykeep1_TagStrips.j0 k a1 bt375.2.2.2.2.2.1 (!bt375.2.2.2.2.2.1) a0_0 l0_1 a2_0 a2_1 a2_2 a2_3 a2_4 bt375.1 bt375.2.1 bt375.2.2.1 bt375.2.2.2.1 bt375.2.2.2.2.1) else (patchbaykeep1_TagStrips.j0 k a1 bt375.2.2.2.2.2.1 true a0_0 l0_1 a2_0 a2_1 a2_2 a2_3 a2_4 bt375.1 bt375.2.1 bt375.2.2.1 bt375.2.2.2.1 bt375.2.2.2.2.1))) else (some false))) = some r := h
  clear h
  replace H := Option.bind_eq_some_iff.mp H
  obtain ⟨t374, A40, H⟩ := H
  replace H : (if t374 = true then ((tag_Out.f k a0_0 l0_1 a1 a2_0 a2_1 a2_2 a2_3 a2_4).bind fun bt375 => (if bt375.2.2.2.2.2.2 = 0 then (patchbaykeep1_TagStrips.j0 k a1 bt375.2.2.2.2.2.1 (!bt375.2.2.2.2.2.1) a0_0 l0_1 a2_0 a2_1 a2_2 a2_3 a2_4 bt375.1 bt375.2.1 bt375.2.2.1 bt375.2.2.2.1 bt375.2.2.2.2.1) else (patchbaykeep1_TagStrips.j0 k a1 bt375.2.2.2.2.2.1 true a0_0 l0_1 a2_0 a2_1 a2_2 a2_3 a2_4 bt375.1 bt375.2.1 bt375.2.2.1 bt375.2.2.2.1 bt375.2.2.2.2.1))) else (some false)) = some r := H
  have A4 := Aside0.mk A40
  clear A40
  by_cases c5 : t374 = true
  · subst c5
    have H1 : ((tag_Out.f k a0_0 l0_1 a1 a2_0 a2_1 a2_2 a2_3 a2_4).bind fun bt375 => (if bt375.2.2.2.2.2.2 = 0 then (patchbaykeep1_TagStrips.j0 k a1 bt375.2.2.2.2.2.1 (!bt375.2.2.2.2.2.1) a0_0 l0_1 a2_0 a2_1 a2_2 a2_3 a2_4 bt375.1 bt375.2.1 bt375.2.2.1 bt375.2.2.2.1 bt375.2.2.2.2.1) else (patchbaykeep1_TagStrips.j0 k a1 bt375.2.2.2.2.2.1 true a0_0 l0_1 a2_0 a2_1 a2_2 a2_3 a2_4 bt375.1 bt375.2.1 bt375.2.2.1 bt375.2.2.2.1 bt375.2.2.2.2.1))) = some r := by rw [if_pos rfl] at H; exact H
    clear H
    have H := H1
    clear H1
    replace H := Option.bind_eq_some_iff.mp H
    obtain ⟨⟨t375, t376, t377, t378, t379, t380, t381⟩, A60, H⟩ := H
    replace H : (if t381 = 0 then (patchbaykeep1_TagStrips.j0 k a1 t380 (!t380) a0_0 l0_1 a2_0 a2_1 a2_2 a2_3 a2_4 t375 t376 t377 t378 t379) else (patchbaykeep1_TagStrips.j0 k a1 t380 true a0_0 l0_1 a2_0 a2_1 a2_2 a2_3 a2_4 t375 t376 t377 t378 t379)) = some r := H
    have A6 := Aside0.mk A60
    clear A60
    have HC7 := Aside0.mk H
    clear H
    go_enter Try.func11, Try.ntmps11
    go_upto_region 4 with (first | ((with_reducible refine gate_dst (N := 3) rfl ?_); refine box_event ?hg (N := 3) ?hd (cs := #[.int .i64 a0_0, .slice A0_1 l0_1.length c0_1]) (t := 53) ?hr ?_; (case hd => rfl); (case hg => rfl); (case hr => first | (go_simp; done) | (go_simp; rfl)); intro gb372 hg w8 hbox hb; have n0_ := Aside0.mk (below_step (by repeat (first | (with_reducible first | exact HB.out | apply below_alloc | apply pw_below_drewN | apply below_drew1) | exact HB.out)) hb); have n1_ := Aside0.mk (hbox); have n2_ := Aside0.mk ((by rw [hg]; exact (below_size (by repeat (first | (with_reducible first | exact HB.out | apply below_alloc | apply pw_below_drewN | apply below_drew1) | exact HB.out))) : w.heap.size ≤ gb372)); have n3_ := Aside0.mk ((by rw [hg]; exact (below_size (by repeat (first | (with_reducible first | exact HB.out | apply below_alloc | apply pw_below_drewN | apply below_drew1) | exact HB.out))) : w.heap.size ≤ gb372)); clear HB; have HB := n0_; have BK372 := n1_; have GW372 := n2_; have GE372 := n3_; clear n0_ n1_ n2_ n3_; clear hb hbox hg) | ((with_reducible refine gate_dst (N := 5) rfl ?_); refine box_event ?hg (N := 5) ?hd (cs := #[.int .i64 a2_0, .int .i64 a2_1, .int .i64 a2_2, .int .i64 a2_3, .string a2_4]) (t := 37) ?hr ?_; (case hd => rfl); (case hg => rfl); (case hr => first | (go_simp; done) | (go_simp; rfl)); intro gb373 hg w9 hbox hb; have n0_ := Aside0.mk (blk_below (g := gb372) (o := .cells #[.int .i64 a0_0, .slice A0_1 l0_1.length c0_1] 53 (0, 0)) (by (with_reducible repeat (first | refine blk_drewN ?_ _ | refine blk_drew ?_ | refine blk_alloc ?_ _)); exact BK372.out) hb); have n1_ := Aside0.mk (below_step (by repeat (first | (with_reducible first | exact HB.out | apply below_alloc | apply pw_below_drewN | apply below_drew1 | refine below_set ?_ GE372.out) | exact HB.out)) hb); have n2_ := Aside0.mk (hbox); have n3_ := Aside0.mk ((by rw [hg]; exact (below_size (by repeat (first | (with_reducible first | exact HB.out | apply below_alloc | apply pw_below_drewN | apply below_drew1 | refine below_set ?_ GE372.out) | exact HB.out))) : w.heap.size ≤ gb373)); have n4_ := Aside0.mk ((by rw [hg]; exact (below_size (by repeat (first | (with_reducible first | exact HB.out | apply below_alloc | apply pw_below_drewN | apply below_drew1 | refine below_set ?_ GE372.out) | exact HB.out))) : w.heap.size ≤ gb373)); have n5_ := Aside0.mk ((by rw [hg]; exact Nat.ne_of_lt (blk_lt (g := gb372) (o := .cells #[.int .i64 a0_0, .slice A0_1 l0_1.length c0_1] 53 (0, 0)) (by (with_reducible repeat (first | refine blk_drewN ?_ _ | refine blk_drew ?_ | refine blk_alloc ?_ _)); exact BK372.out)) : gb372 ≠ gb373)); have n6_ := Aside0.mk ((by rw [hg]; exact Nat.ne_of_gt (blk_lt (g := gb372) (o := .cells #[.int .i64 a0_0, .slice A0_1 l0_1.length c0_1] 53 (0, 0)) (by (with_reducible repeat (first | refine blk_drewN ?_ _ | refine blk_drew ?_ | refine blk_alloc ?_ _)); exact BK372.out)) : gb373 ≠ gb372)); clear BK372; clear HB; have BK372 := n0_; have HB := n1_; have BK373 := n2_; have GW373 := n3_; have GE373 := n4_; have NB372_373 := n5_; have NB373_372 := n6_; clear n0_ n1_ n2_ n3_ n4_ n5_ n6_; clear hb hbox hg) | ((with_reducible refine gate_callee (f := 37) rfl ?_); refine goesL_ (some 11) rfl rfl Try.func37 (by kernel_rfl) rfl #[] rfl (by (try simp only [List.map_toArray, List.map_cons, List.map_nil]); first | done | rfl | (simp only [List.length_drop, List.length_take]; rfl)) ?_; (with_reducible refine (patchbaykeep1_tagWorks.calls k  true _ A4.out).mono ?_); rintro e w10 ⟨rfl, hb⟩; refine ⟨_, rfl, ?_⟩; have n0_ := Aside0.mk (blk_below (g := gb372) (o := .cells #[.int .i64 a0_0, .slice A0_1 l0_1.length c0_1] 53 (0, 0)) (by (with_reducible repeat (first | refine blk_drewN ?_ _ | refine blk_drew ?_ | refine blk_alloc ?_ _)); exact BK372.out) hb); have n1_ := Aside0.mk (blk_below (g := gb373) (o := .cells #[.int .i64 a2_0, .int .i64 a2_1, .int .i64 a2_2, .int .i64 a2_3, .string a2_4] 37 (0, 0)) (by (with_reducible repeat (first | refine blk_drewN ?_ _ | refine blk_drew ?_ | refine blk_alloc ?_ _)); exact BK373.out) hb); have n2_ := Aside0.mk (below_step (by repeat (first | (with_reducible first | exact HB.out | apply below_alloc | apply pw_below_drewN | apply below_drew1 | refine below_set ?_ GE372.out | refine below_set ?_ GE373.out) | exact HB.out)) hb); clear BK372; clear BK373; clear HB; have BK372 := n0_; have BK373 := n1_; have HB := n2_; clear n0_ n1_ n2_; (try clear hb); (try clear hb2); (try clear hk); (try clear hi); have hnb11 := NB372_373.out; have hnc11 := NB373_372.out; have hcz12_0 : w10.cell? ⟨gb372, 0, none⟩ = some (.int .i64 a0_0) := (blk_cell BK372.out 0).trans rfl; have hcz12_1 : w10.cell? ⟨gb372, 1, none⟩ = some (.slice A0_1 l0_1.length c0_1) := (blk_cell BK372.out 1).trans rfl; have hfz12_0 := blk_frozen BK372.out 0; have hfz12_1 := blk_frozen BK372.out 1; have hcz13_0 : w10.cell? ⟨gb373, 0, none⟩ = some (.int .i64 a2_0) := (blk_cell BK373.out 0).trans rfl; have hcz13_1 : w10.cell? ⟨gb373, 1, none⟩ = some (.int .i64 a2_1) := (blk_cell BK373.out 1).trans rfl; have hcz13_2 : w10.cell? ⟨gb373, 2, none⟩ = some (.int .i64 a2_2) := (blk_cell BK373.out 2).trans rfl; have hcz13_3 : w10.cell? ⟨gb373, 3, none⟩ = some (.int .i64 a2_3) := (blk_cell BK373.out 3).trans rfl; have hcz13_4 : w10.cell? ⟨gb373, 4, none⟩ = some (.string a2_4) := (blk_cell BK373.out 4).trans rfl; have hfz13_0 := blk_frozen BK373.out 0; have hfz13_1 := blk_frozen BK373.out 1; have hfz13_2 := blk_frozen BK373.out 2; have hfz13_3 := blk_frozen BK373.out 3; have hfz13_4 := blk_frozen BK373.out 4) | ((with_reducible refine gate_callee (f := 39) rfl ?_); refine goesL_ (some 17) rfl rfl Try.func39 (by kernel_rfl) rfl #[.agg #[.int .i64 a0_0, .slice A0_1 l0_1.length c0_1], .int .i64 a1, .agg #[.int .i64 a2_0, .int .i64 a2_1, .int .i64 a2_2, .int .i64 a2_3, .string a2_4]] rfl (by (try simp only [List.map_toArray, List.map_cons, List.map_nil]); first | done | rfl | (simp only [List.length_drop, List.length_take]; rfl)) ?_; (with_reducible refine (tag_Out.calls k a0_0 _ _ l0_1 a1 a2_0 a2_1 a2_2 a2_3 a2_4 t375 t376 t377 t378 t379 t380 t381 _ ?side1 ?side2 A6.out).mono ?_); (case side1 => repeat (first | exact (Kd.C_below HR0_1.out HB.out) | (with_reducible refine Kd.C_alloc ?_ _) | (with_reducible refine Kd.C_drewN ?_ _) | (with_reducible refine Kd.C_drew ?_))); (case side2 => exact HC0_1.out); rintro e w14 ⟨rfl, hb⟩; refine ⟨_, rfl, ?_⟩; have n0_ := Aside0.mk (blk_below (g := gb372) (o := .cells #[.int .i64 a0_0, .slice A0_1 l0_1.length c0_1] 53 (0, 0)) (by (with_reducible repeat (first | refine blk_drewN ?_ _ | refine blk_drew ?_ | refine blk_alloc ?_ _)); exact BK372.out) hb); have n1_ := Aside0.mk (blk_below (g := gb373) (o := .cells #[.int .i64 a2_0, .int .i64 a2_1, .int .i64 a2_2, .int .i64 a2_3, .string a2_4] 37 (0, 0)) (by (with_reducible repeat (first | refine blk_drewN ?_ _ | refine blk_drew ?_ | refine blk_alloc ?_ _)); exact BK373.out) hb); have n2_ := Aside0.mk (below_step (by repeat (first | (with_reducible first | exact HB.out | apply below_alloc | apply pw_below_drewN | apply below_drew1 | refine below_set ?_ GE372.out | refine below_set ?_ GE373.out) | exact HB.out)) hb); clear BK372; clear BK373; clear HB; have BK372 := n0_; have BK373 := n1_; have HB := n2_; clear n0_ n1_ n2_; (try clear hb); (try clear hb2); (try clear hk); (try clear hi)) | ((with_reducible refine gate_dst (N := 7) rfl ?_); refine box_event ?hg (N := 7) ?hd (cs := #[.int .i64 0, .int .i64 0, .int .i64 0, .int .i64 0, .string (⟨#[]⟩ : ByteArray)]) (t := 37) ?hr ?_; (case hd => rfl); (case hg => rfl); (case hr => first | (go_simp; done) | (go_simp; rfl)); intro gb382 hg w15 hbox hb; have n0_ := Aside0.mk (blk_below (g := gb372) (o := .cells #[.int .i64 a0_0, .slice A0_1 l0_1.length c0_1] 53 (0, 0)) (by (with_reducible repeat (first | refine blk_drewN ?_ _ | refine blk_drew ?_ | refine blk_alloc ?_ _)); exact BK372.out) hb); have n1_ := Aside0.mk (blk_below (g := gb373) (o := .cells #[.int .i64 a2_0, .int .i64 a2_1, .int .i64 a2_2, .int .i64 a2_3, .string a2_4] 37 (0, 0)) (by (with_reducible repeat (first | refine blk_drewN ?_ _ | refine blk_drew ?_ | refine blk_alloc ?_ _)); exact BK373.out) hb); have n2_ := Aside0.mk (below_step (by repeat (first | (with_reducible first | exact HB.out | apply below_alloc | apply pw_below_drewN | apply below_drew1 | refine below_set ?_ GE372.out | refine below_set ?_ GE373.out) | exact HB.out)) hb); have n3_ := Aside0.mk (hbox); have n4_ := Aside0.mk ((by rw [hg]; exact (below_size (by repeat (first | (with_reducible first | exact HB.out | apply below_alloc | apply pw_below_drewN | apply below_drew1 | refine below_set ?_ GE372.out | refine below_set ?_ GE373.out) | exact HB.out))) : w.heap.size ≤ gb382)); have n5_ := Aside0.mk ((by rw [hg]; exact (below_size (by repeat (first | (with_reducible first | exact HB.out | apply below_alloc | apply pw_below_drewN | apply below_drew1 | refine below_set ?_ GE372.out | refine below_set ?_ GE373.out) | exact HB.out))) : w.heap.size ≤ gb382)); have n6_ := Aside0.mk ((by rw [hg]; exact Nat.ne_of_lt (blk_lt (g := gb372) (o := .cells #[.int .i64 a0_0, .slice A0_1 l0_1.length c0_1] 53 (0, 0)) (by (with_reducible repeat (first | refine blk_drewN ?_ _ | refine blk_drew ?_ | refine blk_alloc ?_ _)); exact BK372.out)) : gb372 ≠ gb382)); have n7_ := Aside0.mk ((by rw [hg]; exact Nat.ne_of_gt (blk_lt (g := gb372) (o := .cells #[.int .i64 a0_0, .slice A0_1 l0_1.length c0_1] 53 (0, 0)) (by (with_reducible repeat (first | refine blk_drewN ?_ _ | refine blk_drew ?_ | refine blk_alloc ?_ _)); exact BK372.out)) : gb382 ≠ gb372)); have n8_ := Aside0.mk ((by rw [hg]; exact Nat.ne_of_lt (blk_lt (g := gb373) (o := .cells #[.int .i64 a2_0, .int .i64 a2_1, .int .i64 a2_2, .int .i64 a2_3, .string a2_4] 37 (0, 0)) (by (with_reducible repeat (first | refine blk_drewN ?_ _ | refine blk_drew ?_ | refine blk_alloc ?_ _)); exact BK373.out)) : gb373 ≠ gb382)); have n9_ := Aside0.mk ((by rw [hg]; exact Nat.ne_of_gt (blk_lt (g := gb373) (o := .cells #[.int .i64 a2_0, .int .i64 a2_1, .int .i64 a2_2, .int .i64 a2_3, .string a2_4] 37 (0, 0)) (by (with_reducible repeat (first | refine blk_drewN ?_ _ | refine blk_drew ?_ | refine blk_alloc ?_ _)); exact BK373.out)) : gb382 ≠ gb373)); clear BK372; clear BK373; clear HB; have BK372 := n0_; have BK373 := n1_; have HB := n2_; have BK382 := n3_; have GW382 := n4_; have GE382 := n5_; have NB372_382 := n6_; have NB382_372 := n7_; have NB373_382 := n8_; have NB382_373 := n9_; clear n0_ n1_ n2_ n3_ n4_ n5_ n6_ n7_ n8_ n9_; clear hb hbox hg; have hnb16 := NB382_372.out; have hnc16 := NB372_382.out; have hnb17 := NB382_373.out; have hnc17 := NB373_382.out; have hcz18_0 : w15.cell? ⟨gb382, 0, none⟩ = some (.int .i64 0) := (blk_cell BK382.out 0).trans rfl; have hcz18_1 : w15.cell? ⟨gb382, 1, none⟩ = some (.int .i64 0) := (blk_cell BK382.out 1).trans rfl; have hcz18_2 : w15.cell? ⟨gb382, 2, none⟩ = some (.int .i64 0) := (blk_cell BK382.out 2).trans rfl; have hcz18_3 : w15.cell? ⟨gb382, 3, none⟩ = some (.int .i64 0) := (blk_cell BK382.out 3).trans rfl; have hcz18_4 : w15.cell? ⟨gb382, 4, none⟩ = some (.string (⟨#[]⟩ : ByteArray)) := (blk_cell BK382.out 4).trans rfl; have hfz18_0 := blk_frozen BK382.out 0; have hfz18_1 := blk_frozen BK382.out 1; have hfz18_2 := blk_frozen BK382.out 2; have hfz18_3 := blk_frozen BK382.out 3; have hfz18_4 := blk_frozen BK382.out 4))
    (try simp only [Act.put, List.setIfInBounds_toArray, List.set_cons_zero, List.set_cons_succ])
    go_cut [26] (fun v26 wc => ∃ (kq : Nat) (x26_6 : Bool), v26 = .bool x26_6 ∧ Aside0 (patchbaykeep1_TagStrips.j0 kq a1 t380 x26_6 a0_0 l0_1 a2_0 a2_1 a2_2 a2_3 a2_4 t375 t376 t377 t378 t379 = some r) ∧ Aside0 (kq ≤ k) ∧ Aside0 (wc.heap[gb372]? = some (.cells #[.int .i64 a0_0, (.slice A0_1 l0_1.length c0_1)] 53 (0, 0))) ∧ Aside0 (wc.heap[gb373]? = some (.cells #[.int .i64 a2_0, .int .i64 a2_1, .int .i64 a2_2, .int .i64 a2_3, .string a2_4] 37 (0, 0))) ∧ Aside0 (wc.heap[gb382]? = some (.cells #[.int .i64 t375, .int .i64 t376, .int .i64 t377, .int .i64 t378, .string t379] 37 (0, 0))) ∧ Aside0 (Below w.heap.size w wc))
    case first =>
      have H := HC7.out
      clear HC7
      by_cases c19 : t381 = 0
      · rw [if_pos c19] at H
        have c19b0 : (t381 == 0) = true := beq_iff_eq.mpr c19
        have c19b1 : (t381 != 0) = false := bne_eq_false_iff_eq.mpr c19
        clear c19
        (first | rw [c19b0] | (simp only [i64_w, i32_w]; rw [c19b0]) | skip)
        have H' := Aside0.mk H
        clear H
        go_wp2
        go_meet
        case rel => exact ⟨_, (!t380), (by first | rfl | (simp; done) | (simp [*]; done)), H', ⟨by first | omega | exact Nat.le_refl _⟩, ⟨by (with_reducible repeat (first | refine blk_drewN ?_ _ | refine blk_drew ?_ | refine blk_alloc ?_ _)); refine blk_far ?_ NB372_382.out _; (with_reducible repeat (first | refine blk_drewN ?_ _ | refine blk_drew ?_ | refine blk_alloc ?_ _)); refine blk_far ?_ NB372_382.out _; (with_reducible repeat (first | refine blk_drewN ?_ _ | refine blk_drew ?_ | refine blk_alloc ?_ _)); refine blk_far ?_ NB372_382.out _; (with_reducible repeat (first | refine blk_drewN ?_ _ | refine blk_drew ?_ | refine blk_alloc ?_ _)); refine blk_far ?_ NB372_382.out _; (with_reducible repeat (first | refine blk_drewN ?_ _ | refine blk_drew ?_ | refine blk_alloc ?_ _)); refine blk_far ?_ NB372_382.out _; (with_reducible repeat (first | refine blk_drewN ?_ _ | refine blk_drew ?_ | refine blk_alloc ?_ _)); exact BK372.out⟩, ⟨by (with_reducible repeat (first | refine blk_drewN ?_ _ | refine blk_drew ?_ | refine blk_alloc ?_ _)); refine blk_far ?_ NB373_382.out _; (with_reducible repeat (first | refine blk_drewN ?_ _ | refine blk_drew ?_ | refine blk_alloc ?_ _)); refine blk_far ?_ NB373_382.out _; (with_reducible repeat (first | refine blk_drewN ?_ _ | refine blk_drew ?_ | refine blk_alloc ?_ _)); refine blk_far ?_ NB373_382.out _; (with_reducible repeat (first | refine blk_drewN ?_ _ | refine blk_drew ?_ | refine blk_alloc ?_ _)); refine blk_far ?_ NB373_382.out _; (with_reducible repeat (first | refine blk_drewN ?_ _ | refine blk_drew ?_ | refine blk_alloc ?_ _)); refine blk_far ?_ NB373_382.out _; (with_reducible repeat (first | refine blk_drewN ?_ _ | refine blk_drew ?_ | refine blk_alloc ?_ _)); exact BK373.out⟩, ⟨by (with_reducible repeat (first | refine blk_drewN ?_ _ | refine blk_drew ?_ | refine blk_alloc ?_ _)); refine blk_put (cs := #[.int .i64 t375, .int .i64 t376, .int .i64 t377, .int .i64 t378, .string (⟨#[]⟩ : ByteArray)]) ?_ 4 _ rfl; (with_reducible repeat (first | refine blk_drewN ?_ _ | refine blk_drew ?_ | refine blk_alloc ?_ _)); refine blk_put (cs := #[.int .i64 t375, .int .i64 t376, .int .i64 t377, .int .i64 0, .string (⟨#[]⟩ : ByteArray)]) ?_ 3 _ rfl; (with_reducible repeat (first | refine blk_drewN ?_ _ | refine blk_drew ?_ | refine blk_alloc ?_ _)); refine blk_put (cs := #[.int .i64 t375, .int .i64 t376, .int .i64 0, .int .i64 0, .string (⟨#[]⟩ : ByteArray)]) ?_ 2 _ rfl; (with_reducible repeat (first | refine blk_drewN ?_ _ | refine blk_drew ?_ | refine blk_alloc ?_ _)); refine blk_put (cs := #[.int .i64 t375, .int .i64 0, .int .i64 0, .int .i64 0, .string (⟨#[]⟩ : ByteArray)]) ?_ 1 _ rfl; (with_reducible repeat (first | refine blk_drewN ?_ _ | refine blk_drew ?_ | refine blk_alloc ?_ _)); refine blk_put (cs := #[.int .i64 0, .int .i64 0, .int .i64 0, .int .i64 0, .string (⟨#[]⟩ : ByteArray)]) ?_ 0 _ rfl; (with_reducible repeat (first | refine blk_drewN ?_ _ | refine blk_drew ?_ | refine blk_alloc ?_ _)); exact BK382.out⟩, ⟨by repeat (first | (with_reducible first | exact HB.out | apply below_alloc | apply pw_below_drewN | apply below_drew1 | refine below_set ?_ GE372.out | refine below_set ?_ GE373.out | refine below_set ?_ GE382.out) | exact HB.out)⟩⟩
      · rw [if_neg c19] at H
        have c19b0 : (t381 == 0) = false := beq_eq_false_iff_ne.mpr c19
        have c19b1 : (t381 != 0) = true := bne_iff_ne.mpr c19
        (first | rw [c19b0] | (simp only [i64_w, i32_w]; rw [c19b0]) | skip)
        have H' := Aside0.mk H
        clear H
        go_wp2
        go_meet
        case rel => exact ⟨_, (true), (by first | rfl | (simp; done) | (simp [*]; done)), H', ⟨by first | omega | exact Nat.le_refl _⟩, ⟨by (with_reducible repeat (first | refine blk_drewN ?_ _ | refine blk_drew ?_ | refine blk_alloc ?_ _)); refine blk_far ?_ NB372_382.out _; (with_reducible repeat (first | refine blk_drewN ?_ _ | refine blk_drew ?_ | refine blk_alloc ?_ _)); refine blk_far ?_ NB372_382.out _; (with_reducible repeat (first | refine blk_drewN ?_ _ | refine blk_drew ?_ | refine blk_alloc ?_ _)); refine blk_far ?_ NB372_382.out _; (with_reducible repeat (first | refine blk_drewN ?_ _ | refine blk_drew ?_ | refine blk_alloc ?_ _)); refine blk_far ?_ NB372_382.out _; (with_reducible repeat (first | refine blk_drewN ?_ _ | refine blk_drew ?_ | refine blk_alloc ?_ _)); refine blk_far ?_ NB372_382.out _; (with_reducible repeat (first | refine blk_drewN ?_ _ | refine blk_drew ?_ | refine blk_alloc ?_ _)); exact BK372.out⟩, ⟨by (with_reducible repeat (first | refine blk_drewN ?_ _ | refine blk_drew ?_ | refine blk_alloc ?_ _)); refine blk_far ?_ NB373_382.out _; (with_reducible repeat (first | refine blk_drewN ?_ _ | refine blk_drew ?_ | refine blk_alloc ?_ _)); refine blk_far ?_ NB373_382.out _; (with_reducible repeat (first | refine blk_drewN ?_ _ | refine blk_drew ?_ | refine blk_alloc ?_ _)); refine blk_far ?_ NB373_382.out _; (with_reducible repeat (first | refine blk_drewN ?_ _ | refine blk_drew ?_ | refine blk_alloc ?_ _)); refine blk_far ?_ NB373_382.out _; (with_reducible repeat (first | refine blk_drewN ?_ _ | refine blk_drew ?_ | refine blk_alloc ?_ _)); refine blk_far ?_ NB373_382.out _; (with_reducible repeat (first | refine blk_drewN ?_ _ | refine blk_drew ?_ | refine blk_alloc ?_ _)); exact BK373.out⟩, ⟨by (with_reducible repeat (first | refine blk_drewN ?_ _ | refine blk_drew ?_ | refine blk_alloc ?_ _)); refine blk_put (cs := #[.int .i64 t375, .int .i64 t376, .int .i64 t377, .int .i64 t378, .string (⟨#[]⟩ : ByteArray)]) ?_ 4 _ rfl; (with_reducible repeat (first | refine blk_drewN ?_ _ | refine blk_drew ?_ | refine blk_alloc ?_ _)); refine blk_put (cs := #[.int .i64 t375, .int .i64 t376, .int .i64 t377, .int .i64 0, .string (⟨#[]⟩ : ByteArray)]) ?_ 3 _ rfl; (with_reducible repeat (first | refine blk_drewN ?_ _ | refine blk_drew ?_ | refine blk_alloc ?_ _)); refine blk_put (cs := #[.int .i64 t375, .int .i64 t376, .int .i64 0, .int .i64 0, .string (⟨#[]⟩ : ByteArray)]) ?_ 2 _ rfl; (with_reducible repeat (first | refine blk_drewN ?_ _ | refine blk_drew ?_ | refine blk_alloc ?_ _)); refine blk_put (cs := #[.int .i64 t375, .int .i64 0, .int .i64 0, .int .i64 0, .string (⟨#[]⟩ : ByteArray)]) ?_ 1 _ rfl; (with_reducible repeat (first | refine blk_drewN ?_ _ | refine blk_drew ?_ | refine blk_alloc ?_ _)); refine blk_put (cs := #[.int .i64 0, .int .i64 0, .int .i64 0, .int .i64 0, .string (⟨#[]⟩ : ByteArray)]) ?_ 0 _ rfl; (with_reducible repeat (first | refine blk_drewN ?_ _ | refine blk_drew ?_ | refine blk_alloc ?_ _)); exact BK382.out⟩, ⟨by repeat (first | (with_reducible first | exact HB.out | apply below_alloc | apply pw_below_drewN | apply below_drew1 | refine below_set ?_ GE372.out | refine below_set ?_ GE373.out | refine below_set ?_ GE382.out) | exact HB.out)⟩⟩
    case rest =>
      clear HC7
      try clear c1
      try clear p1
      try clear p2
      try clear c3
      try clear c5
      try clear c11
      try clear c16
      try clear c17
      try clear c19
      try clear c19b0
      try clear c19b1
      try clear hcz12_0
      try clear hcz12_1
      try clear hcz13_0
      try clear hcz13_1
      try clear hcz13_2
      try clear hcz13_3
      try clear hcz13_4
      try clear hcz18_0
      try clear hcz18_1
      try clear hcz18_2
      try clear hcz18_3
      try clear hcz18_4
      try clear hfz12_0
      try clear hfz12_1
      try clear hfz13_0
      try clear hfz13_1
      try clear hfz13_2
      try clear hfz13_3
      try clear hfz13_4
      try clear hfz18_0
      try clear hfz18_1
      try clear hfz18_2
      try clear hfz18_3
      try clear hfz18_4
      obtain ⟨kq, x26_6, rfl, HA, HJ6, BK372, BK373, BK382, HB⟩ := hcut
      cases kq with
      | zero => exact absurd HA.out (by simp [patchbaykeep1_TagStrips.j0])
      | succ kj6 =>
        have H := HA.out
        clear HA
        simp only [patchbaykeep1_TagStrips.j0] at H
        by_cases c20 : x26_6 = true
        · subst c20
          have H1 : (if (t375 == 0 && (t376 == 0 && (t377 == 0 && (t378 == 0 && (t379.toList == ([] : List UInt8)))))) = true then (some (!t380)) else (some false)) = some r := by rw [if_pos rfl] at H; exact H
          clear H
          have H := H1
          clear H1
          by_cases c21 : (t375 == 0 && (t376 == 0 && (t377 == 0 && (t378 == 0 && (t379.toList == ([] : List UInt8)))))) = true
          · rw [if_pos c21] at H
            have c21b0 : (t375 == 0 && (t376 == 0 && (t377 == 0 && (t378 == 0 && (t379.toList == ([] : List UInt8)))))) = true := c21
            (try (have c21b1 : decide (t375 = 0 && (t376 == 0 && (t377 == 0 && (t378 == 0 && (t379.toList == ([] : List UInt8)))))) = true := by simpa using c21))
            (try (have c21b2 : (t375 == 0 && (t376 == 0 && (t377 == 0 && (t378 == 0 && (t379.toList == ([] : List UInt8)))))) = true := by simpa using c21))
            (try (have c21e0 : (t375 == 0 && (t376 == 0 && (t377 == 0 && (t378 == 0 && t379.toList.isEmpty)))) = true := by simpa using c21))
            (try (have c21e1 : (t375 = 0 ∧ (t376 = 0 ∧ (t377 = 0 ∧ (t378 = 0 ∧ (t379.toList = ([] : List UInt8)))))) := by simpa using c21))
            clear c21
            obtain rfl := Option.some.inj H
            have hnb22 := NB382_372.out
            have hnc22 := NB372_382.out
            have hnb23 := NB382_373.out
            have hnc23 := NB373_382.out
            have hcz24_0 : wc.cell? ⟨gb382, 0, none⟩ = some (.int .i64 t375) := (blk_cell BK382.out 0).trans rfl
            have hcz24_1 : wc.cell? ⟨gb382, 1, none⟩ = some (.int .i64 t376) := (blk_cell BK382.out 1).trans rfl
            have hcz24_2 : wc.cell? ⟨gb382, 2, none⟩ = some (.int .i64 t377) := (blk_cell BK382.out 2).trans rfl
            have hcz24_3 : wc.cell? ⟨gb382, 3, none⟩ = some (.int .i64 t378) := (blk_cell BK382.out 3).trans rfl
            have hcz24_4 : wc.cell? ⟨gb382, 4, none⟩ = some (.string t379) := (blk_cell BK382.out 4).trans rfl
            have hfz24_0 := blk_frozen BK382.out 0
            have hfz24_1 := blk_frozen BK382.out 1
            have hfz24_2 := blk_frozen BK382.out 2
            have hfz24_3 := blk_frozen BK382.out 3
            have hfz24_4 := blk_frozen BK382.out 4
            go_wp2
            go_ret
            exact ⟨by first | rfl | (simp [errW_none, errW_some] <;> rfl) | (simp [*, errW_none, errW_some] <;> rfl), by repeat (first | (with_reducible first | exact HB.out | apply below_alloc | apply pw_below_drewN | apply below_drew1 | refine below_set ?_ GE372.out | refine below_set ?_ GE373.out | refine below_set ?_ GE382.out) | exact HB.out)⟩
          · rw [if_neg c21] at H
            have c21b0 : (t375 == 0 && (t376 == 0 && (t377 == 0 && (t378 == 0 && (t379.toList == ([] : List UInt8)))))) = false := by simpa using c21
            (try (have c21b1 : decide (t375 = 0 && (t376 == 0 && (t377 == 0 && (t378 == 0 && (t379.toList == ([] : List UInt8)))))) = false := by simpa using c21))
            (try (have c21b2 : (t375 == 0 && (t376 == 0 && (t377 == 0 && (t378 == 0 && (t379.toList == ([] : List UInt8)))))) = false := by simpa using c21))
            (try (have c21b3 : ¬ (t375 = 0 && (t376 == 0 && (t377 == 0 && (t378 == 0 && (t379.toList == ([] : List UInt8)))))) := by simpa using c21))
            (try (have c21e0 : (t375 == 0 && (t376 == 0 && (t377 == 0 && (t378 == 0 && t379.toList.isEmpty)))) = false := by simpa using c21))
            (try (have c21e1 : ¬ (t375 = 0 ∧ (t376 = 0 ∧ (t377 = 0 ∧ (t378 = 0 ∧ (t379.toList = ([] : List UInt8)))))) := by simpa using c21))
            clear c21
            obtain rfl := Option.some.inj H
            have hnb25 := NB382_372.out
            have hnc25 := NB372_382.out
            have hnb26 := NB382_373.out
            have hnc26 := NB373_382.out
            have hcz27_0 : wc.cell? ⟨gb382, 0, none⟩ = some (.int .i64 t375) := (blk_cell BK382.out 0).trans rfl
            have hcz27_1 : wc.cell? ⟨gb382, 1, none⟩ = some (.int .i64 t376) := (blk_cell BK382.out 1).trans rfl
            have hcz27_2 : wc.cell? ⟨gb382, 2, none⟩ = some (.int .i64 t377) := (blk_cell BK382.out 2).trans rfl
            have hcz27_3 : wc.cell? ⟨gb382, 3, none⟩ = some (.int .i64 t378) := (blk_cell BK382.out 3).trans rfl
            have hcz27_4 : wc.cell? ⟨gb382, 4, none⟩ = some (.string t379) := (blk_cell BK382.out 4).trans rfl
            have hfz27_0 := blk_frozen BK382.out 0
            have hfz27_1 := blk_frozen BK382.out 1
            have hfz27_2 := blk_frozen BK382.out 2
            have hfz27_3 := blk_frozen BK382.out 3
            have hfz27_4 := blk_frozen BK382.out 4
            go_wp2
            go_ret
            exact ⟨by first | rfl | (simp [errW_none, errW_some] <;> rfl) | (simp [*, errW_none, errW_some] <;> rfl), by repeat (first | (with_reducible first | exact HB.out | apply below_alloc | apply pw_below_drewN | apply below_drew1 | refine below_set ?_ GE372.out | refine below_set ?_ GE373.out | refine below_set ?_ GE382.out) | exact HB.out)⟩
        · replace c20 := Bool.eq_false_iff.mpr c20
          subst c20
          have H1 : (if a1 = a0_0 then (some (t375 == a2_0 && (t376 == a2_1 && (t377 == 0 && (t378 == a2_3 && (t379.toList == a2_4.toList)))))) else (some (t375 == a2_0 && (t376 == a2_1 && (t377 == a1 && (t378 == a2_3 && (t379.toList == a2_4.toList))))))) = some r := by rw [if_neg (show ¬ (false = true) by decide)] at H; exact H
          clear H
          have H := H1
          clear H1
          by_cases c28 : a1 = a0_0
          · rw [if_pos c28] at H
            have c28b0 : (a1 == a0_0) = true := beq_iff_eq.mpr c28
            have c28b1 : (a1 != a0_0) = false := bne_eq_false_iff_eq.mpr c28
            clear c28
            obtain rfl := Option.some.inj H
            have hnb29 := NB372_373.out
            have hnc29 := NB373_372.out
            have hnb30 := NB372_382.out
            have hnc30 := NB382_372.out
            have hcz31_0 : wc.cell? ⟨gb372, 0, none⟩ = some (.int .i64 a0_0) := (blk_cell BK372.out 0).trans rfl
            have hcz31_1 : wc.cell? ⟨gb372, 1, none⟩ = some (.slice A0_1 l0_1.length c0_1) := (blk_cell BK372.out 1).trans rfl
            have hfz31_0 := blk_frozen BK372.out 0
            have hfz31_1 := blk_frozen BK372.out 1
            have hnb32 := NB373_382.out
            have hnc32 := NB382_373.out
            have hcz33_0 : wc.cell? ⟨gb373, 0, none⟩ = some (.int .i64 a2_0) := (blk_cell BK373.out 0).trans rfl
            have hcz33_1 : wc.cell? ⟨gb373, 1, none⟩ = some (.int .i64 a2_1) := (blk_cell BK373.out 1).trans rfl
            have hcz33_2 : wc.cell? ⟨gb373, 2, none⟩ = some (.int .i64 a2_2) := (blk_cell BK373.out 2).trans rfl
            have hcz33_3 : wc.cell? ⟨gb373, 3, none⟩ = some (.int .i64 a2_3) := (blk_cell BK373.out 3).trans rfl
            have hcz33_4 : wc.cell? ⟨gb373, 4, none⟩ = some (.string a2_4) := (blk_cell BK373.out 4).trans rfl
            have hfz33_0 := blk_frozen BK373.out 0
            have hfz33_1 := blk_frozen BK373.out 1
            have hfz33_2 := blk_frozen BK373.out 2
            have hfz33_3 := blk_frozen BK373.out 3
            have hfz33_4 := blk_frozen BK373.out 4
            have hcz34_0 : wc.cell? ⟨gb382, 0, none⟩ = some (.int .i64 t375) := (blk_cell BK382.out 0).trans rfl
            have hcz34_1 : wc.cell? ⟨gb382, 1, none⟩ = some (.int .i64 t376) := (blk_cell BK382.out 1).trans rfl
            have hcz34_2 : wc.cell? ⟨gb382, 2, none⟩ = some (.int .i64 t377) := (blk_cell BK382.out 2).trans rfl
            have hcz34_3 : wc.cell? ⟨gb382, 3, none⟩ = some (.int .i64 t378) := (blk_cell BK382.out 3).trans rfl
            have hcz34_4 : wc.cell? ⟨gb382, 4, none⟩ = some (.string t379) := (blk_cell BK382.out 4).trans rfl
            have hfz34_0 := blk_frozen BK382.out 0
            have hfz34_1 := blk_frozen BK382.out 1
            have hfz34_2 := blk_frozen BK382.out 2
            have hfz34_3 := blk_frozen BK382.out 3
            have hfz34_4 := blk_frozen BK382.out 4
            go_wp2
            go_ret
            exact ⟨by first | rfl | (simp [errW_none, errW_some] <;> rfl) | (simp [*, errW_none, errW_some] <;> rfl), by repeat (first | (with_reducible first | exact HB.out | apply below_alloc | apply pw_below_drewN | apply below_drew1 | refine below_set ?_ GE372.out | refine below_set ?_ GE373.out | refine below_set ?_ GE382.out) | exact HB.out)⟩
          · rw [if_neg c28] at H
            have c28b0 : (a1 == a0_0) = false := beq_eq_false_iff_ne.mpr c28
            have c28b1 : (a1 != a0_0) = true := bne_iff_ne.mpr c28
            obtain rfl := Option.some.inj H
            have hnb35 := NB372_373.out
            have hnc35 := NB373_372.out
            have hnb36 := NB372_382.out
            have hnc36 := NB382_372.out
            have hcz37_0 : wc.cell? ⟨gb372, 0, none⟩ = some (.int .i64 a0_0) := (blk_cell BK372.out 0).trans rfl
            have hcz37_1 : wc.cell? ⟨gb372, 1, none⟩ = some (.slice A0_1 l0_1.length c0_1) := (blk_cell BK372.out 1).trans rfl
            have hfz37_0 := blk_frozen BK372.out 0
            have hfz37_1 := blk_frozen BK372.out 1
            have hnb38 := NB373_382.out
            have hnc38 := NB382_373.out
            have hcz39_0 : wc.cell? ⟨gb373, 0, none⟩ = some (.int .i64 a2_0) := (blk_cell BK373.out 0).trans rfl
            have hcz39_1 : wc.cell? ⟨gb373, 1, none⟩ = some (.int .i64 a2_1) := (blk_cell BK373.out 1).trans rfl
            have hcz39_2 : wc.cell? ⟨gb373, 2, none⟩ = some (.int .i64 a2_2) := (blk_cell BK373.out 2).trans rfl
            have hcz39_3 : wc.cell? ⟨gb373, 3, none⟩ = some (.int .i64 a2_3) := (blk_cell BK373.out 3).trans rfl
            have hcz39_4 : wc.cell? ⟨gb373, 4, none⟩ = some (.string a2_4) := (blk_cell BK373.out 4).trans rfl
            have hfz39_0 := blk_frozen BK373.out 0
            have hfz39_1 := blk_frozen BK373.out 1
            have hfz39_2 := blk_frozen BK373.out 2
            have hfz39_3 := blk_frozen BK373.out 3
            have hfz39_4 := blk_frozen BK373.out 4
            have hcz40_0 : wc.cell? ⟨gb382, 0, none⟩ = some (.int .i64 t375) := (blk_cell BK382.out 0).trans rfl
            have hcz40_1 : wc.cell? ⟨gb382, 1, none⟩ = some (.int .i64 t376) := (blk_cell BK382.out 1).trans rfl
            have hcz40_2 : wc.cell? ⟨gb382, 2, none⟩ = some (.int .i64 t377) := (blk_cell BK382.out 2).trans rfl
            have hcz40_3 : wc.cell? ⟨gb382, 3, none⟩ = some (.int .i64 t378) := (blk_cell BK382.out 3).trans rfl
            have hcz40_4 : wc.cell? ⟨gb382, 4, none⟩ = some (.string t379) := (blk_cell BK382.out 4).trans rfl
            have hfz40_0 := blk_frozen BK382.out 0
            have hfz40_1 := blk_frozen BK382.out 1
            have hfz40_2 := blk_frozen BK382.out 2
            have hfz40_3 := blk_frozen BK382.out 3
            have hfz40_4 := blk_frozen BK382.out 4
            go_wp2
            go_ret
            exact ⟨by first | rfl | (simp [errW_none, errW_some] <;> rfl) | (simp [*, errW_none, errW_some] <;> rfl), by repeat (first | (with_reducible first | exact HB.out | apply below_alloc | apply pw_below_drewN | apply below_drew1 | refine below_set ?_ GE372.out | refine below_set ?_ GE373.out | refine below_set ?_ GE382.out) | exact HB.out)⟩
  · replace c5 := Bool.eq_false_iff.mpr c5
    subst c5
    have H1 : (some false) = some r := by rw [if_neg (show ¬ (false = true) by decide)] at H; exact H
    clear H
    have H := H1
    clear H1
    obtain rfl := Option.some.inj H
    go_enter Try.func11, Try.ntmps11
    go_wp2_with (first | ((with_reducible refine gate_dst (N := 3) rfl ?_); refine box_event ?hg (N := 3) ?hd (cs := #[.int .i64 a0_0, .slice A0_1 l0_1.length c0_1]) (t := 53) ?hr ?_; (case hd => rfl); (case hg => rfl); (case hr => first | (go_simp; done) | (go_simp; rfl)); intro gb372 hg w41 hbox hb; have n0_ := Aside0.mk (below_step (by repeat (first | (with_reducible first | exact HB.out | apply below_alloc | apply pw_below_drewN | apply below_drew1) | exact HB.out)) hb); have n1_ := Aside0.mk (hbox); have n2_ := Aside0.mk ((by rw [hg]; exact (below_size (by repeat (first | (with_reducible first | exact HB.out | apply below_alloc | apply pw_below_drewN | apply below_drew1) | exact HB.out))) : w.heap.size ≤ gb372)); have n3_ := Aside0.mk ((by rw [hg]; exact (below_size (by repeat (first | (with_reducible first | exact HB.out | apply below_alloc | apply pw_below_drewN | apply below_drew1) | exact HB.out))) : w.heap.size ≤ gb372)); clear HB; have HB := n0_; have BK372 := n1_; have GW372 := n2_; have GE372 := n3_; clear n0_ n1_ n2_ n3_; clear hb hbox hg) | ((with_reducible refine gate_dst (N := 5) rfl ?_); refine box_event ?hg (N := 5) ?hd (cs := #[.int .i64 a2_0, .int .i64 a2_1, .int .i64 a2_2, .int .i64 a2_3, .string a2_4]) (t := 37) ?hr ?_; (case hd => rfl); (case hg => rfl); (case hr => first | (go_simp; done) | (go_simp; rfl)); intro gb373 hg w42 hbox hb; have n0_ := Aside0.mk (blk_below (g := gb372) (o := .cells #[.int .i64 a0_0, .slice A0_1 l0_1.length c0_1] 53 (0, 0)) (by (with_reducible repeat (first | refine blk_drewN ?_ _ | refine blk_drew ?_ | refine blk_alloc ?_ _)); exact BK372.out) hb); have n1_ := Aside0.mk (below_step (by repeat (first | (with_reducible first | exact HB.out | apply below_alloc | apply pw_below_drewN | apply below_drew1 | refine below_set ?_ GE372.out) | exact HB.out)) hb); have n2_ := Aside0.mk (hbox); have n3_ := Aside0.mk ((by rw [hg]; exact (below_size (by repeat (first | (with_reducible first | exact HB.out | apply below_alloc | apply pw_below_drewN | apply below_drew1 | refine below_set ?_ GE372.out) | exact HB.out))) : w.heap.size ≤ gb373)); have n4_ := Aside0.mk ((by rw [hg]; exact (below_size (by repeat (first | (with_reducible first | exact HB.out | apply below_alloc | apply pw_below_drewN | apply below_drew1 | refine below_set ?_ GE372.out) | exact HB.out))) : w.heap.size ≤ gb373)); have n5_ := Aside0.mk ((by rw [hg]; exact Nat.ne_of_lt (blk_lt (g := gb372) (o := .cells #[.int .i64 a0_0, .slice A0_1 l0_1.length c0_1] 53 (0, 0)) (by (with_reducible repeat (first | refine blk_drewN ?_ _ | refine blk_drew ?_ | refine blk_alloc ?_ _)); exact BK372.out)) : gb372 ≠ gb373)); have n6_ := Aside0.mk ((by rw [hg]; exact Nat.ne_of_gt (blk_lt (g := gb372) (o := .cells #[.int .i64 a0_0, .slice A0_1 l0_1.length c0_1] 53 (0, 0)) (by (with_reducible repeat (first | refine blk_drewN ?_ _ | refine blk_drew ?_ | refine blk_alloc ?_ _)); exact BK372.out)) : gb373 ≠ gb372)); clear BK372; clear HB; have BK372 := n0_; have HB := n1_; have BK373 := n2_; have GW373 := n3_; have GE373 := n4_; have NB372_373 := n5_; have NB373_372 := n6_; clear n0_ n1_ n2_ n3_ n4_ n5_ n6_; clear hb hbox hg) | ((with_reducible refine gate_callee (f := 37) rfl ?_); refine goesL_ (some 11) rfl rfl Try.func37 (by kernel_rfl) rfl #[] rfl (by (try simp only [List.map_toArray, List.map_cons, List.map_nil]); first | done | rfl | (simp only [List.length_drop, List.length_take]; rfl)) ?_; (with_reducible refine (patchbaykeep1_tagWorks.calls k  false _ A4.out).mono ?_); rintro e w43 ⟨rfl, hb⟩; refine ⟨_, rfl, ?_⟩; have n0_ := Aside0.mk (blk_below (g := gb372) (o := .cells #[.int .i64 a0_0, .slice A0_1 l0_1.length c0_1] 53 (0, 0)) (by (with_reducible repeat (first | refine blk_drewN ?_ _ | refine blk_drew ?_ | refine blk_alloc ?_ _)); exact BK372.out) hb); have n1_ := Aside0.mk (blk_below (g := gb373) (o := .cells #[.int .i64 a2_0, .int .i64 a2_1, .int .i64 a2_2, .int .i64 a2_3, .string a2_4] 37 (0, 0)) (by (with_reducible repeat (first | refine blk_drewN ?_ _ | refine blk_drew ?_ | refine blk_alloc ?_ _)); exact BK373.out) hb); have n2_ := Aside0.mk (below_step (by repeat (first | (with_reducible first | exact HB.out | apply below_alloc | apply pw_below_drewN | apply below_drew1 | refine below_set ?_ GE372.out | refine below_set ?_ GE373.out) | exact HB.out)) hb); clear BK372; clear BK373; clear HB; have BK372 := n0_; have BK373 := n1_; have HB := n2_; clear n0_ n1_ n2_; (try clear hb); (try clear hb2); (try clear hk); (try clear hi)))
    go_ret
    exact ⟨by first | rfl | (simp [errW_none, errW_some] <;> rfl) | (simp [*, errW_none, errW_some] <;> rfl), by repeat (first | (with_reducible first | exact HB.out | apply below_alloc | apply pw_below_drewN | apply below_drew1 | refine below_set ?_ GE372.out | refine below_set ?_ GE373.out) | exact HB.out)⟩

end Go.Proofs.Ytkdncfbbhbmaaaa.Q
