/- A program's text (wip/drive.py runs the kit's printer over contracts of this session): Go functions as Lean functions, and that the calls do what these say. -/
import Derived.Test.YtkdncfbbhbmaaaaQ0
import Derived.Test.YtkdncfbbhbmaaaaQf31
import Derived.Test.YtkdncfbbhbmaaaaQf72
import Derived.Test.YtkdncfbbhbmaaaaQf73
namespace Go.Proofs.Ytkdncfbbhbmaaaa.Q
open Go.RowKit Go.Proofs.YtkdncfbbhbmaaaaW.PrintWords Go.Proofs.YtkdncfbbhbmaaaaW.PrintLast Go.Proofs.YtkdncfbbhbmaaaaW.PrintMore
attribute [local go_sem] max2_int min2_int max_two min_two max_three min_three max_four min_four   -- for this text's walks alone
set_option linter.unusedVariables false
set_option linter.unusedSimpArgs false

/-! ### frame_Decode: function 53 -/
def frame_Decode.j0 : Nat → ByteArray → ByteArray → Int → Int → Int → Int → ByteArray → Option (Int × Int × Int × Int × ByteArray × Int)
  | 0, _, _, _, _, _, _, _ => none
  | k + 1, x0, x4, x436000, x436001, x436002, x436003, x436004 => if 0 ≤ 2 then (if 2 ≤ (x4.size : Int) then ((frame_value.f k (x4.extract 0 2)).bind fun t438 => (if 2 ≤ 4 then (if 4 ≤ (x4.size : Int) then ((frame_value.f k (x4.extract 2 4)).bind fun t439 => (if t439 > (wrap64 ((x4.size : Int) - 4)) then (some (0, 0, 0, 0, (⟨#[]⟩ : ByteArray), 3)) else (if 4 ≤ (wrap64 (4 + t439)) then (if (wrap64 (4 + t439)) ≤ (x4.size : Int) then ((frame_Encode.f k x436000 x436001 x436002 t438 (x4.extract 4 ((wrap64 (4 + t439)) : Int).toNat)).bind fun bt440 => (if bt440.2 = 0 then (if bt440.1.toList = x0.toList then (some (x436000, x436001, x436002, t438, x4.extract 4 ((wrap64 (4 + t439)) : Int).toNat, 0)) else (some (0, 0, 0, 0, (⟨#[]⟩ : ByteArray), 3))) else (some (0, 0, 0, 0, (⟨#[]⟩ : ByteArray), 3)))) else (none)) else (none)))) else (none)) else (none))) else (none)) else (none)
def frame_Decode.f (k : Nat) (a0 : ByteArray) : Option (Int × Int × Int × Int × ByteArray × Int) := if (a0.size : Int) < 64 then (some (0, 0, 0, 0, (⟨#[]⟩ : ByteArray), 9)) else (if (a0.size : Int) > 1524 then (some (0, 0, 0, 0, (⟨#[]⟩ : ByteArray), 2)) else ((crc_Open.f a0).bind fun bt431 => (if bt431.2 = 0 then (if 0 ≤ 6 then (if 6 ≤ (bt431.1.size : Int) then ((frame_value.f k (bt431.1.extract 0 6)).bind fun t433 => (if 6 ≤ 12 then (if 12 ≤ (bt431.1.size : Int) then ((frame_value.f k (bt431.1.extract 6 12)).bind fun t434 => (if 0 ≤ 2 then (if 2 ≤ ((bt431.1.extract 12 bt431.1.size).size : Int) then ((frame_value.f k ((bt431.1.extract 12 bt431.1.size).extract 0 2)).bind fun t436 => (if t436 = 33024 then (if 2 ≤ 4 then (if 4 ≤ ((bt431.1.extract 12 bt431.1.size).size : Int) then ((frame_value.f k ((bt431.1.extract 12 bt431.1.size).extract 2 4)).bind fun t437 => (frame_Decode.j0 k a0 ((bt431.1.extract 12 bt431.1.size).extract 4 (bt431.1.extract 12 bt431.1.size).size) t433 t434 t437 0 (⟨#[]⟩ : ByteArray))) else (none)) else (none)) else (frame_Decode.j0 k a0 (bt431.1.extract 12 bt431.1.size) t433 t434 0 0 (⟨#[]⟩ : ByteArray)))) else (none)) else (none))) else (none)) else (none))) else (none)) else (none)) else (some (0, 0, 0, 0, (⟨#[]⟩ : ByteArray), bt431.2)))))
theorem frame_Decode.mono_l : ∀ k, (∀ y0 y1 y2 y3 y4 y5 y6, LeO (frame_Decode.j0 k y0 y1 y2 y3 y4 y5 y6) (frame_Decode.j0 (k + 1) y0 y1 y2 y3 y4 y5 y6))
  | 0 => fun _ _ _ _ _ _ _ r h => by simp [frame_Decode.j0] at h
  | k + 1 => by
    have ih0 := frame_Decode.mono_l k
    · intro y0 y1 y2 y3 y4 y5 y6
      unfold frame_Decode.j0
      repeat' first
      | (with_reducible exact ih0 _ _ _ _ _ _ _)
      | (with_reducible exact frame_Encode.mono _ _ _ _ _ _)
      | (with_reducible exact frame_value.mono _ _)
      | (with_reducible exact LeO.refl _)
      | (with_reducible exact LeO.none _)
      | (with_reducible refine LeO.ite ?_ ?_)
      | (with_reducible refine LeO.bind ?_ (fun _ => ?_))
      | exact ih0 _ _ _ _ _ _ _
      | exact frame_Encode.mono _ _ _ _ _ _
      | exact frame_value.mono _ _
      | exact LeO.none _
      | refine LeO.ite ?_ ?_
      | refine LeO.bind ?_ (fun _ => ?_)
theorem frame_Decode.mono : ∀ a0 k, LeO (frame_Decode.f k a0) (frame_Decode.f (k + 1) a0) := by
  intro a0 k
  have ih0 := frame_Decode.mono_l k
  unfold frame_Decode.f
  repeat' first
      | (with_reducible exact ih0 _ _ _ _ _ _ _)
      | (with_reducible exact frame_Encode.mono _ _ _ _ _ _)
      | (with_reducible exact frame_value.mono _ _)
      | (with_reducible exact LeO.refl _)
      | (with_reducible exact LeO.none _)
      | (with_reducible refine LeO.ite ?_ ?_)
      | (with_reducible refine LeO.bind ?_ (fun _ => ?_))
      | exact ih0 _ _ _ _ _ _ _
      | exact frame_Encode.mono _ _ _ _ _ _
      | exact frame_value.mono _ _
      | exact LeO.none _
      | refine LeO.ite ?_ ?_
      | refine LeO.bind ?_ (fun _ => ?_)
def frame_Decode.T8 : Bool × List (List Nat × List Nat) := (true, [([], []), ([0], [0]), ([1], [1]), ([], []), ([3], [3]), ([4, 2], [4]), ([2, 5], [2, 5]), ([], []), ([7, 6, 5, 0, 1, 2, 3, 4, 5, 6, 7], [6, 7])])
def frame_Decode.B8 : List Nat := [0, 1, 3, 0, 8, 31, 63, 0, 255]
theorem frame_Decode.tab8 : rtab .any (opsOf Try.f53 8) = frame_Decode.T8 := by kernel_rfl
theorem frame_Decode.bits8 : waitsOk frame_Decode.T8.2 frame_Decode.B8 = true := by kernel_rfl
def frame_Decode.T11 : Bool × List (List Nat × List Nat) := (true, [([], []), ([0], [0]), ([1], [1]), ([], []), ([3], [3]), ([0, 1, 2], []), ([5, 2, 2, 0, 1, 2], [2, 5]), ([4, 6, 0, 1, 2, 3, 4, 5, 6], [0, 3, 4])])
def frame_Decode.B11 : List Nat := [0, 1, 3, 0, 8, 7, 39, 127]
theorem frame_Decode.tab11 : rtab .any (opsOf Try.f53 11) = frame_Decode.T11 := by kernel_rfl
theorem frame_Decode.bits11 : waitsOk frame_Decode.T11.2 frame_Decode.B11 = true := by kernel_rfl
set_option maxHeartbeats 8000000 in
set_option maxRecDepth 100000 in
theorem frame_Decode.calls (k : Nat) (a0 : ByteArray) (r1 : Int) (r2 : Int) (r3 : Int) (r4 : Int) (r5 : ByteArray) (r6 : Int) (w : World) (h : frame_Decode.f k a0 = some (r1, r2, r3, r4, r5, r6)) :
    Calls Try.prog 53 #[.string a0] w fun e w' => e = .returned (.tuple #[.agg #[.int .i64 r1, .int .i64 r2, .int .i64 r3, .int .i64 r4, .string r5], .int .i64 r6]) ∧ Below w.heap.size w w' := by
  have hu37 := Try.underlying37
  have HB := Aside0.mk (Below.refl w.heap.size w)
  have H : (if (a0.size : Int) < 64 then (some (0, 0, 0, 0, (⟨#[]⟩ : ByteArray), 9)) else (if (a0.size : Int) > 1524 then (some (0, 0, 0, 0, (⟨#[]⟩ : ByteArray), 2)) else ((crc_Open.f a0).bind fun bt431 => (if bt431.2 = 0 then (if 0 ≤ 6 then (if 6 ≤ (bt431.1.size : Int) then ((frame_value.f k (bt431.1.extract 0 6)).bind fun t433 => (if 6 ≤ 12 then (if 12 ≤ (bt431.1.size : Int) then ((frame_value.f k (bt431.1.extract 6 12)).bind fun t434 => (if 0 ≤ 2 then (if 2 ≤ ((bt431.1.extract 12 bt431.1.size).size : Int) then ((frame_value.f k ((bt431.1.extract 12 bt431.1.size).extract 0 2)).bind fun t436 => (if t436 = 33024 then (if 2 ≤ 4 then (if 4 ≤ ((bt431.1.extract 12 bt431.1.size).size : Int) then ((frame_value.f k ((bt431.1.extract 12 bt431.1.size).extract 2 4)).bind fun t437 => (frame_Decode.j0 k a0 ((bt431.1.extract 12 bt431.1.size).extract 4 (bt431.1.extract 12 bt431.1.size).size) t433 t434 t437 0 (⟨#[]⟩ : ByteArray))) else (none)) else (none)) else (frame_Decode.j0 k a0 (bt431.1.extract 12 bt431.1.size) t433 t434 0 0 (⟨#[]⟩ : ByteArray)))) else (none)) else (none))) else (none)) else (none))) else (none)) else (none)) else (some (0, 0, 0, 0, (⟨#[]⟩ : ByteArray), bt431.2)))))) = some (r1, r2, r3, r4, r5, r6) := h
  clear h
  by_cases c2 : (a0.size : Int) < 64
  · rw [if_pos c2] at H
    have c2b0 : decide ((a0.size : Int) < 64) = true := decide_eq_true c2
    have c2b1 : decide (a0.size < 64) = true := decide_eq_true (by omega)
    clear c2
    simp only [Option.some.injEq, Prod.mk.injEq] at H
    obtain ⟨rfl, rfl, rfl, rfl, rfl, rfl⟩ := H
    go_enter Try.func53, Try.ntmps53
    go_wp2_with (first | ((with_reducible refine gate_dst (N := 2) rfl ?_); refine box_event ?hg (N := 2) ?hd (cs := #[.int .i64 0, .int .i64 0, .int .i64 0, .int .i64 0, .string (⟨#[]⟩ : ByteArray)]) (t := 37) ?hr ?_; (case hd => rfl); (case hg => rfl); (case hr => first | (go_simp; done) | (go_simp; rfl)); intro gb430 hg w3 hbox hb; have n0_ := Aside0.mk (below_step (by repeat (first | (with_reducible first | exact HB.out | apply below_alloc | apply pw_below_drewN | apply below_drew1) | exact HB.out)) hb); have n1_ := Aside0.mk (hbox); have n2_ := Aside0.mk ((by rw [hg]; exact (below_size (by repeat (first | (with_reducible first | exact HB.out | apply below_alloc | apply pw_below_drewN | apply below_drew1) | exact HB.out))) : w.heap.size ≤ gb430)); have n3_ := Aside0.mk ((by rw [hg]; exact (below_size (by repeat (first | (with_reducible first | exact HB.out | apply below_alloc | apply pw_below_drewN | apply below_drew1) | exact HB.out))) : w.heap.size ≤ gb430)); clear HB; have HB := n0_; have BK430 := n1_; have GW430 := n2_; have GE430 := n3_; clear n0_ n1_ n2_ n3_; clear hb hbox hg; have hcz4_0 : w3.cell? ⟨gb430, 0, none⟩ = some (.int .i64 0) := (blk_cell BK430.out 0).trans rfl; have hcz4_1 : w3.cell? ⟨gb430, 1, none⟩ = some (.int .i64 0) := (blk_cell BK430.out 1).trans rfl; have hcz4_2 : w3.cell? ⟨gb430, 2, none⟩ = some (.int .i64 0) := (blk_cell BK430.out 2).trans rfl; have hcz4_3 : w3.cell? ⟨gb430, 3, none⟩ = some (.int .i64 0) := (blk_cell BK430.out 3).trans rfl; have hcz4_4 : w3.cell? ⟨gb430, 4, none⟩ = some (.string (⟨#[]⟩ : ByteArray)) := (blk_cell BK430.out 4).trans rfl; have hfz4_0 := blk_frozen BK430.out 0; have hfz4_1 := blk_frozen BK430.out 1; have hfz4_2 := blk_frozen BK430.out 2; have hfz4_3 := blk_frozen BK430.out 3; have hfz4_4 := blk_frozen BK430.out 4))
    refine bodyPost_ret (results_ct rfl _ _ gb430 37 #[.int .i64 0, .int .i64 0, .int .i64 0, .int .i64 0, .string (⟨#[]⟩ : ByteArray)] (0, 0) _ rfl (by (with_reducible repeat (first | refine blk_drewN ?_ _ | refine blk_drew ?_ | refine blk_alloc ?_ _)); refine blk_put (cs := #[.int .i64 0, .int .i64 0, .int .i64 0, .int .i64 0, .string (⟨#[]⟩ : ByteArray)]) ?_ 4 _ rfl; (with_reducible repeat (first | refine blk_drewN ?_ _ | refine blk_drew ?_ | refine blk_alloc ?_ _)); refine blk_put (cs := #[.int .i64 0, .int .i64 0, .int .i64 0, .int .i64 0, .string (⟨#[]⟩ : ByteArray)]) ?_ 3 _ rfl; (with_reducible repeat (first | refine blk_drewN ?_ _ | refine blk_drew ?_ | refine blk_alloc ?_ _)); refine blk_put (cs := #[.int .i64 0, .int .i64 0, .int .i64 0, .int .i64 0, .string (⟨#[]⟩ : ByteArray)]) ?_ 2 _ rfl; (with_reducible repeat (first | refine blk_drewN ?_ _ | refine blk_drew ?_ | refine blk_alloc ?_ _)); refine blk_put (cs := #[.int .i64 0, .int .i64 0, .int .i64 0, .int .i64 0, .string (⟨#[]⟩ : ByteArray)]) ?_ 1 _ rfl; (with_reducible repeat (first | refine blk_drewN ?_ _ | refine blk_drew ?_ | refine blk_alloc ?_ _)); refine blk_put (cs := #[.int .i64 0, .int .i64 0, .int .i64 0, .int .i64 0, .string (⟨#[]⟩ : ByteArray)]) ?_ 0 _ rfl; (with_reducible repeat (first | refine blk_drewN ?_ _ | refine blk_drew ?_ | refine blk_alloc ?_ _)); exact BK430.out) Try.underlying37 rfl (by kernel_rfl)) rfl ?_
    exact ⟨by first | rfl | (simp [errW_none, errW_some] <;> rfl) | (simp [*, errW_none, errW_some] <;> rfl), by repeat (first | (with_reducible first | exact HB.out | apply below_alloc | apply pw_below_drewN | apply below_drew1 | refine below_set ?_ GE430.out) | exact HB.out)⟩
  · rw [if_neg c2] at H
    have c2b0 : decide ((a0.size : Int) < 64) = false := decide_eq_false c2
    have c2b1 : decide (a0.size < 64) = false := decide_eq_false (by omega)
    clear c2
    by_cases c5 : (a0.size : Int) > 1524
    · rw [if_pos c5] at H
      have c5b0 : decide (1524 < (a0.size : Int)) = true := decide_eq_true c5
      have c5b1 : decide (1524 < a0.size) = true := decide_eq_true (by omega)
      clear c5
      simp only [Option.some.injEq, Prod.mk.injEq] at H
      obtain ⟨rfl, rfl, rfl, rfl, rfl, rfl⟩ := H
      go_enter Try.func53, Try.ntmps53
      go_wp2_with (first | ((with_reducible refine gate_dst (N := 2) rfl ?_); refine box_event ?hg (N := 2) ?hd (cs := #[.int .i64 0, .int .i64 0, .int .i64 0, .int .i64 0, .string (⟨#[]⟩ : ByteArray)]) (t := 37) ?hr ?_; (case hd => rfl); (case hg => rfl); (case hr => first | (go_simp; done) | (go_simp; rfl)); intro gb430 hg w6 hbox hb; have n0_ := Aside0.mk (below_step (by repeat (first | (with_reducible first | exact HB.out | apply below_alloc | apply pw_below_drewN | apply below_drew1) | exact HB.out)) hb); have n1_ := Aside0.mk (hbox); have n2_ := Aside0.mk ((by rw [hg]; exact (below_size (by repeat (first | (with_reducible first | exact HB.out | apply below_alloc | apply pw_below_drewN | apply below_drew1) | exact HB.out))) : w.heap.size ≤ gb430)); have n3_ := Aside0.mk ((by rw [hg]; exact (below_size (by repeat (first | (with_reducible first | exact HB.out | apply below_alloc | apply pw_below_drewN | apply below_drew1) | exact HB.out))) : w.heap.size ≤ gb430)); clear HB; have HB := n0_; have BK430 := n1_; have GW430 := n2_; have GE430 := n3_; clear n0_ n1_ n2_ n3_; clear hb hbox hg; have hcz7_0 : w6.cell? ⟨gb430, 0, none⟩ = some (.int .i64 0) := (blk_cell BK430.out 0).trans rfl; have hcz7_1 : w6.cell? ⟨gb430, 1, none⟩ = some (.int .i64 0) := (blk_cell BK430.out 1).trans rfl; have hcz7_2 : w6.cell? ⟨gb430, 2, none⟩ = some (.int .i64 0) := (blk_cell BK430.out 2).trans rfl; have hcz7_3 : w6.cell? ⟨gb430, 3, none⟩ = some (.int .i64 0) := (blk_cell BK430.out 3).trans rfl; have hcz7_4 : w6.cell? ⟨gb430, 4, none⟩ = some (.string (⟨#[]⟩ : ByteArray)) := (blk_cell BK430.out 4).trans rfl; have hfz7_0 := blk_frozen BK430.out 0; have hfz7_1 := blk_frozen BK430.out 1; have hfz7_2 := blk_frozen BK430.out 2; have hfz7_3 := blk_frozen BK430.out 3; have hfz7_4 := blk_frozen BK430.out 4))
      refine bodyPost_ret (results_ct rfl _ _ gb430 37 #[.int .i64 0, .int .i64 0, .int .i64 0, .int .i64 0, .string (⟨#[]⟩ : ByteArray)] (0, 0) _ rfl (by (with_reducible repeat (first | refine blk_drewN ?_ _ | refine blk_drew ?_ | refine blk_alloc ?_ _)); refine blk_put (cs := #[.int .i64 0, .int .i64 0, .int .i64 0, .int .i64 0, .string (⟨#[]⟩ : ByteArray)]) ?_ 4 _ rfl; (with_reducible repeat (first | refine blk_drewN ?_ _ | refine blk_drew ?_ | refine blk_alloc ?_ _)); refine blk_put (cs := #[.int .i64 0, .int .i64 0, .int .i64 0, .int .i64 0, .string (⟨#[]⟩ : ByteArray)]) ?_ 3 _ rfl; (with_reducible repeat (first | refine blk_drewN ?_ _ | refine blk_drew ?_ | refine blk_alloc ?_ _)); refine blk_put (cs := #[.int .i64 0, .int .i64 0, .int .i64 0, .int .i64 0, .string (⟨#[]⟩ : ByteArray)]) ?_ 2 _ rfl; (with_reducible repeat (first | refine blk_drewN ?_ _ | refine blk_drew ?_ | refine blk_alloc ?_ _)); refine blk_put (cs := #[.int .i64 0, .int .i64 0, .int .i64 0, .int .i64 0, .string (⟨#[]⟩ : ByteArray)]) ?_ 1 _ rfl; (with_reducible repeat (first | refine blk_drewN ?_ _ | refine blk_drew ?_ | refine blk_alloc ?_ _)); refine blk_put (cs := #[.int .i64 0, .int .i64 0, .int .i64 0, .int .i64 0, .string (⟨#[]⟩ : ByteArray)]) ?_ 0 _ rfl; (with_reducible repeat (first | refine blk_drewN ?_ _ | refine blk_drew ?_ | refine blk_alloc ?_ _)); exact BK430.out) Try.underlying37 rfl (by kernel_rfl)) rfl ?_
      exact ⟨by first | rfl | (simp [errW_none, errW_some] <;> rfl) | (simp [*, errW_none, errW_some] <;> rfl), by repeat (first | (with_reducible first | exact HB.out | apply below_alloc | apply pw_below_drewN | apply below_drew1 | refine below_set ?_ GE430.out) | exact HB.out)⟩
    · rw [if_neg c5] at H
      have c5b0 : decide (1524 < (a0.size : Int)) = false := decide_eq_false c5
      have c5b1 : decide (1524 < a0.size) = false := decide_eq_false (by omega)
      clear c5
      replace H := Option.bind_eq_some_iff.mp H
      obtain ⟨⟨t431, t432⟩, A80, H⟩ := H
      replace H : (if t432 = 0 then (if 0 ≤ 6 then (if 6 ≤ (t431.size : Int) then ((frame_value.f k (t431.extract 0 6)).bind fun t433 => (if 6 ≤ 12 then (if 12 ≤ (t431.size : Int) then ((frame_value.f k (t431.extract 6 12)).bind fun t434 => (if 0 ≤ 2 then (if 2 ≤ ((t431.extract 12 t431.size).size : Int) then ((frame_value.f k ((t431.extract 12 t431.size).extract 0 2)).bind fun t436 => (if t436 = 33024 then (if 2 ≤ 4 then (if 4 ≤ ((t431.extract 12 t431.size).size : Int) then ((frame_value.f k ((t431.extract 12 t431.size).extract 2 4)).bind fun t437 => (frame_Decode.j0 k a0 ((t431.extract 12 t431.size).extract 4 (t431.extract 12 t431.size).size) t433 t434 t437 0 (⟨#[]⟩ : ByteArray))) else (none)) else (none)) else (frame_Decode.j0 k a0 (t431.extract 12 t431.size) t433 t434 0 0 (⟨#[]⟩ : ByteArray)))) else (none)) else (none))) else (none)) else (none))) else (none)) else (none)) else (some (0, 0, 0, 0, (⟨#[]⟩ : ByteArray), t432))) = some (r1, r2, r3, r4, r5, r6) := H
      have A8 := Aside0.mk A80
      clear A80
      by_cases c9 : t432 = 0
      · rw [if_pos c9] at H
        have c9b0 : (t432 == 0) = true := beq_iff_eq.mpr c9
        have c9b1 : (t432 != 0) = false := bne_eq_false_iff_eq.mpr c9
        clear c9
        by_cases c10 : 0 ≤ 6
        · rw [if_pos c10] at H
          have c10b0 := eq_true c10
          try (have c10b0q := c10b0; simp only [ByteArray.size_append, ByteArray.size_extract, Nat.min_self, Nat.sub_zero, Int.natCast_add] at c10b0q)
          have c10b1 : decide (0 ≤ 6) = true := decide_eq_true c10
          clear c10
          by_cases c11 : 6 ≤ (t431.size : Int)
          · rw [if_pos c11] at H
            have c11b0 := eq_true c11
            try (have c11b0q := c11b0; simp only [ByteArray.size_append, ByteArray.size_extract, Nat.min_self, Nat.sub_zero, Int.natCast_add] at c11b0q)
            have c11b1 : decide (6 ≤ (t431.size : Int)) = true := decide_eq_true c11
            clear c11
            replace H := Option.bind_eq_some_iff.mp H
            obtain ⟨t433, A120, H⟩ := H
            replace H : (if 6 ≤ 12 then (if 12 ≤ (t431.size : Int) then ((frame_value.f k (t431.extract 6 12)).bind fun t434 => (if 0 ≤ 2 then (if 2 ≤ ((t431.extract 12 t431.size).size : Int) then ((frame_value.f k ((t431.extract 12 t431.size).extract 0 2)).bind fun t436 => (if t436 = 33024 then (if 2 ≤ 4 then (if 4 ≤ ((t431.extract 12 t431.size).size : Int) then ((frame_value.f k ((t431.extract 12 t431.size).extract 2 4)).bind fun t437 => (frame_Decode.j0 k a0 ((t431.extract 12 t431.size).extract 4 (t431.extract 12 t431.size).size) t433 t434 t437 0 (⟨#[]⟩ : ByteArray))) else (none)) else (none)) else (frame_Decode.j0 k a0 (t431.extract 12 t431.size) t433 t434 0 0 (⟨#[]⟩ : ByteArray)))) else (none)) else (none))) else (none)) else (none)) = some (r1, r2, r3, r4, r5, r6) := H
            have A12 := Aside0.mk A120
            clear A120
            by_cases c13 : 6 ≤ 12
            · rw [if_pos c13] at H
              have c13b0 := eq_true c13
              try (have c13b0q := c13b0; simp only [ByteArray.size_append, ByteArray.size_extract, Nat.min_self, Nat.sub_zero, Int.natCast_add] at c13b0q)
              have c13b1 : decide (6 ≤ 12) = true := decide_eq_true c13
              clear c13
              by_cases c14 : 12 ≤ (t431.size : Int)
              · rw [if_pos c14] at H
                have c14b0 := eq_true c14
                try (have c14b0q := c14b0; simp only [ByteArray.size_append, ByteArray.size_extract, Nat.min_self, Nat.sub_zero, Int.natCast_add] at c14b0q)
                have c14b1 : decide (12 ≤ (t431.size : Int)) = true := decide_eq_true c14
                clear c14
                replace H := Option.bind_eq_some_iff.mp H
                obtain ⟨t434, A150, H⟩ := H
                replace H : (if 0 ≤ 2 then (if 2 ≤ ((t431.extract 12 t431.size).size : Int) then ((frame_value.f k ((t431.extract 12 t431.size).extract 0 2)).bind fun t436 => (if t436 = 33024 then (if 2 ≤ 4 then (if 4 ≤ ((t431.extract 12 t431.size).size : Int) then ((frame_value.f k ((t431.extract 12 t431.size).extract 2 4)).bind fun t437 => (frame_Decode.j0 k a0 ((t431.extract 12 t431.size).extract 4 (t431.extract 12 t431.size).size) t433 t434 t437 0 (⟨#[]⟩ : ByteArray))) else (none)) else (none)) else (frame_Decode.j0 k a0 (t431.extract 12 t431.size) t433 t434 0 0 (⟨#[]⟩ : ByteArray)))) else (none)) else (none)) = some (r1, r2, r3, r4, r5, r6) := H
                have A15 := Aside0.mk A150
                clear A150
                have c16b0 := eq_true (of_decide_eq_true (by first | (with_reducible assumption) | assumption) : 12 ≤ (t431.size : Int))
                try (have c16b0q := c16b0; simp only [ByteArray.size_append, ByteArray.size_extract, Nat.min_self, Nat.sub_zero, Int.natCast_add] at c16b0q)
                by_cases c17 : 0 ≤ 2
                · rw [if_pos c17] at H
                  have c17b0 := eq_true c17
                  try (have c17b0q := c17b0; simp only [ByteArray.size_append, ByteArray.size_extract, Nat.min_self, Nat.sub_zero, Int.natCast_add] at c17b0q)
                  have c17b1 : decide (0 ≤ 2) = true := decide_eq_true c17
                  clear c17
                  by_cases c18 : 2 ≤ ((t431.extract 12 t431.size).size : Int)
                  · rw [if_pos c18] at H
                    have c18b0 := eq_true c18
                    try (have c18b0q := c18b0; simp only [ByteArray.size_append, ByteArray.size_extract, Nat.min_self, Nat.sub_zero, Int.natCast_add] at c18b0q)
                    have c18b1 : decide (2 ≤ ((t431.extract 12 t431.size).size : Int)) = true := decide_eq_true c18
                    try (have c18b1q := c18b1; simp only [ByteArray.size_append, ByteArray.size_extract, Nat.min_self, Nat.sub_zero, Int.natCast_add] at c18b1q)
                    clear c18
                    replace H := Option.bind_eq_some_iff.mp H
                    obtain ⟨t436, A190, H⟩ := H
                    replace H : (if t436 = 33024 then (if 2 ≤ 4 then (if 4 ≤ ((t431.extract 12 t431.size).size : Int) then ((frame_value.f k ((t431.extract 12 t431.size).extract 2 4)).bind fun t437 => (frame_Decode.j0 k a0 ((t431.extract 12 t431.size).extract 4 (t431.extract 12 t431.size).size) t433 t434 t437 0 (⟨#[]⟩ : ByteArray))) else (none)) else (none)) else (frame_Decode.j0 k a0 (t431.extract 12 t431.size) t433 t434 0 0 (⟨#[]⟩ : ByteArray))) = some (r1, r2, r3, r4, r5, r6) := H
                    have A19 := Aside0.mk A190
                    clear A190
                    have HC20 := Aside0.mk H
                    clear H
                    go_enter Try.func53, Try.ntmps53
                    try go_wp2_with (first | ((with_reducible refine gate_dst (N := 2) rfl ?_); refine box_event ?hg (N := 2) ?hd (cs := #[.int .i64 0, .int .i64 0, .int .i64 0, .int .i64 0, .string (⟨#[]⟩ : ByteArray)]) (t := 37) ?hr ?_; (case hd => rfl); (case hg => rfl); (case hr => first | (go_simp; done) | (go_simp; rfl)); intro gb430 hg w21 hbox hb; have n0_ := Aside0.mk (below_step (by repeat (first | (with_reducible first | exact HB.out | apply below_alloc | apply pw_below_drewN | apply below_drew1) | exact HB.out)) hb); have n1_ := Aside0.mk (hbox); have n2_ := Aside0.mk ((by rw [hg]; exact (below_size (by repeat (first | (with_reducible first | exact HB.out | apply below_alloc | apply pw_below_drewN | apply below_drew1) | exact HB.out))) : w.heap.size ≤ gb430)); have n3_ := Aside0.mk ((by rw [hg]; exact (below_size (by repeat (first | (with_reducible first | exact HB.out | apply below_alloc | apply pw_below_drewN | apply below_drew1) | exact HB.out))) : w.heap.size ≤ gb430)); clear HB; have HB := n0_; have BK430 := n1_; have GW430 := n2_; have GE430 := n3_; clear n0_ n1_ n2_ n3_; clear hb hbox hg) | ((with_reducible refine gate_callee (f := 72) rfl ?_); refine goesL_ (some 22) rfl rfl Try.func72 (by kernel_rfl) rfl #[.string a0] rfl (by (try simp only [List.map_toArray, List.map_cons, List.map_nil]); first | done | rfl | (simp only [List.length_drop, List.length_take]; rfl)) ?_; (with_reducible refine (crc_Open.calls a0 t431 t432 _ A8.out).mono ?_); rintro e w22 ⟨rfl, hb⟩; refine ⟨_, rfl, ?_⟩; have n0_ := Aside0.mk (blk_below (g := gb430) (o := .cells #[.int .i64 0, .int .i64 0, .int .i64 0, .int .i64 0, .string (⟨#[]⟩ : ByteArray)] 37 (0, 0)) (by (with_reducible repeat (first | refine blk_drewN ?_ _ | refine blk_drew ?_ | refine blk_alloc ?_ _)); exact BK430.out) hb); have n1_ := Aside0.mk (below_step (by repeat (first | (with_reducible first | exact HB.out | apply below_alloc | apply pw_below_drewN | apply below_drew1 | refine below_set ?_ GE430.out) | exact HB.out)) hb); clear BK430; clear HB; have BK430 := n0_; have HB := n1_; clear n0_ n1_; (try clear hb); (try clear hb2); (try clear hk); (try clear hi)))
                    have n0_ := Aside0.mk (blk_drew BK430.out)
                    have n1_ := Aside0.mk (below_drew1 HB.out)
                    clear BK430
                    clear HB
                    have BK430 := n0_
                    have HB := n1_
                    clear n0_ n1_
                    refine start_ (n := 9) (S := fun w' => True) (ds := []) #[false, false, false, false, false, false, false, false, false] (by kernel_rfl) rfl rfl trivial (fun hHeld => ?_); refine with_tabW frame_Decode.tab8 frame_Decode.bits8 (fun HT_ HW_ => ?_)
                    generalize w22.drew = w23 at BK430 HB hHeld ⊢
                    refine pure_ (i := 0) (N := some 29) (v := ?_) (a' := ?_) #[true, false, false, false, false, false, false, false, false] rfl rfl (any_of HT_.out (by kernel_rfl)) (fun _ _ _ h => h) (Or.inl ⟨by rfl, ?_⟩) ?_ ?_
                    rotate_left
                    · intro w'
                      go_simp
                      with_reducible rfl
                    rotate_left
                    · simp only [Act.put, List.setIfInBounds_toArray, List.set_cons_zero, List.set_cons_succ, i64_w, i32_w]
                      rfl
                    refine pure_ (i := 1) (N := some 30) (v := ?_) (a' := ?_) #[true, true, false, false, false, false, false, false, false] rfl rfl (any_of HT_.out (by kernel_rfl)) (fun _ _ _ h => h) (Or.inl ⟨by rfl, ?_⟩) ?_ ?_
                    rotate_left
                    · intro w'
                      go_simp
                      with_reducible rfl
                    rotate_left
                    · simp only [Act.put, List.setIfInBounds_toArray, List.set_cons_zero, List.set_cons_succ, i64_w, i32_w]
                      rfl
                    refine pure_ (i := 3) (N := some 32) (v := ?_) (a' := ?_) #[true, true, false, true, false, false, false, false, false] rfl rfl (any_of HT_.out (by kernel_rfl)) (fun _ _ _ h => h) (Or.inl ⟨by rfl, ?_⟩) ?_ ?_
                    rotate_left
                    · intro w'
                      go_simp
                      with_reducible rfl
                    rotate_left
                    · simp only [Act.put, List.setIfInBounds_toArray, List.set_cons_zero, List.set_cons_succ, i64_w, i32_w]
                      rfl
                    refine pure_ (i := 4) (N := some 33) (v := ?_) (a' := ?_) #[true, true, false, true, true, false, false, false, false] rfl rfl (any_of HT_.out (by kernel_rfl)) (fun _ _ _ h => h) (Or.inl ⟨by rfl, ?_⟩) ?_ ?_
                    rotate_left
                    · intro w'
                      go_simp
                      with_reducible rfl
                    rotate_left
                    · simp only [Act.put, List.setIfInBounds_toArray, List.set_cons_zero, List.set_cons_succ, i64_w, i32_w]
                      rfl
                    refine join_ (σ := Nat) 1 #[true, true, true, true, true, true, true, true, false] (fun s_ => [(31, .int .i64 t433), (34, .int .i64 t434), (6, .pointer (some ⟨s_, 0, none⟩)), (35, .agg #[.int .i64 t433, .int .i64 t434, .int .i64 0, .int .i64 0, .string (⟨#[]⟩ : ByteArray)])]) (fun s_ w' => (w'.heap[gb430]? = some (.cells #[.int .i64 0, .int .i64 0, .int .i64 0, .int .i64 0, .string (⟨#[]⟩ : ByteArray)] 37 (0, 0))) ∧ (w'.heap[s_]? = some (.cells #[.int .i64 0, .int .i64 0, .int .i64 0, .int .i64 0, .string (⟨#[]⟩ : ByteArray)] 37 (0, 0))) ∧ (w.heap.size ≤ s_) ∧ (w.heap.size ≤ s_) ∧ (gb430 ≠ s_) ∧ (s_ ≠ gb430) ∧ (Below w.heap.size w w')) ?_ ?_
                    rotate_left
                    · intro hCont
                      refine two_ (i := 2) (j := 7) (Ni := some 31) (Nj := some 6) #[true, true, true, true, true, false, false, false, false] #[true, true, false, true, true, false, false, true, false] rfl rfl rfl rfl (two_of HT_.out (by kernel_rfl)) (by decide) (by decide) (fun K hK => ?_) (fun K hK => ?_)
                      · skip
                        refine goes_ Try.func73 (by kernel_rfl) rfl #[.string (t431.extract 0 6)] (by rfl) rfl rfl (by (try simp only [List.map_toArray, List.map_cons, List.map_nil]); first | done | rfl | (simp only [List.length_drop, List.length_take]; rfl)) ?_
                        with_reducible refine (frame_value.calls k (t431.extract 0 6) t433 _ A12.out).mono ?_
                        rintro e w24 ⟨rfl, hb⟩
                        refine ⟨_, rfl, ?_⟩
                        have n0_ := Aside0.mk (blk_below (g := gb430) (o := .cells #[.int .i64 0, .int .i64 0, .int .i64 0, .int .i64 0, .string (⟨#[]⟩ : ByteArray)] 37 (0, 0)) (by (with_reducible repeat (first | refine blk_drewN ?_ _ | refine blk_drew ?_ | refine blk_alloc ?_ _)); exact BK430.out) hb)
                        have n1_ := Aside0.mk (below_step (by repeat (first | (with_reducible first | exact HB.out | apply below_alloc | apply pw_below_drewN | apply below_drew1 | refine below_set ?_ GE430.out) | exact HB.out)) hb)
                        clear BK430
                        clear HB
                        have BK430 := n0_
                        have HB := n1_
                        clear n0_ n1_
                        (try clear hb)
                        (try clear hb2)
                        (try clear hk)
                        (try clear hi)
                        refine hK.out _ _ trivial (fun hHeld => ?_)
                        clear hK K
                        refine norm_ (a' := ?_) ?_ ?_
                        rotate_left
                        · show Act.put _ (some 31) _ = _
                          simp only [Act.put, List.setIfInBounds_toArray, List.set_cons_zero, List.set_cons_succ, i64_w, i32_w]
                          rfl
                        refine two_ (i := 5) (j := 7) (Ni := some 34) (Nj := some 6) #[true, true, true, true, true, true, false, false, false] #[true, true, true, true, true, false, false, true, false] rfl rfl rfl rfl (two_of HT_.out (by kernel_rfl)) (by decide) (by decide) (fun K hK => ?_) (fun K hK => ?_)
                        · skip
                          refine goes_ Try.func73 (by kernel_rfl) rfl #[.string (t431.extract 6 12)] (by rfl) rfl rfl (by (try simp only [List.map_toArray, List.map_cons, List.map_nil]); first | done | rfl | (simp only [List.length_drop, List.length_take]; rfl)) ?_
                          with_reducible refine (frame_value.calls k (t431.extract 6 12) t434 _ A15.out).mono ?_
                          rintro e w25 ⟨rfl, hb⟩
                          refine ⟨_, rfl, ?_⟩
                          have n0_ := Aside0.mk (blk_below (g := gb430) (o := .cells #[.int .i64 0, .int .i64 0, .int .i64 0, .int .i64 0, .string (⟨#[]⟩ : ByteArray)] 37 (0, 0)) (by (with_reducible repeat (first | refine blk_drewN ?_ _ | refine blk_drew ?_ | refine blk_alloc ?_ _)); exact BK430.out) hb)
                          have n1_ := Aside0.mk (below_step (by repeat (first | (with_reducible first | exact HB.out | apply below_alloc | apply pw_below_drewN | apply below_drew1 | refine below_set ?_ GE430.out) | exact HB.out)) hb)
                          clear BK430
                          clear HB
                          have BK430 := n0_
                          have HB := n1_
                          clear n0_ n1_
                          (try clear hb)
                          (try clear hb2)
                          (try clear hk)
                          (try clear hi)
                          refine hK.out _ _ trivial (fun hHeld => ?_)
                          clear hK K
                          refine norm_ (a' := ?_) ?_ ?_
                          rotate_left
                          · show Act.put _ (some 34) _ = _
                            simp only [Act.put, List.setIfInBounds_toArray, List.set_cons_zero, List.set_cons_succ, i64_w, i32_w]
                            rfl
                          refine pure_ (i := 6) (N := some 35) (v := ?_) (a' := ?_) #[true, true, true, true, true, true, true, false, false] rfl rfl (any_of HT_.out (by kernel_rfl)) (fun _ _ _ h => h) (Or.inl ⟨by rfl, ?_⟩) ?_ ?_
                          rotate_left
                          · intro w'
                            go_simp
                            with_reducible rfl
                          rotate_left
                          · simp only [Act.put, List.setIfInBounds_toArray, List.set_cons_zero, List.set_cons_succ, i64_w, i32_w]
                            rfl
                          refine one_ (i := 7) (N := some 6) #[true, true, true, true, true, true, true, true, false] rfl rfl (one_of HT_.out (by kernel_rfl)) (by decide) (fun K hK => ?_)
                          refine box_step ?hg (N := 6) ?hd (cs := #[.int .i64 0, .int .i64 0, .int .i64 0, .int .i64 0, .string (⟨#[]⟩ : ByteArray)]) (t := 37) ?hr ?_; (case hd => rfl); (case hg => rfl); (case hr => first | (go_simp; done) | (go_simp; rfl))
                          intro gb435 hg w26 hbox hb
                          have n0_ := Aside0.mk (blk_below (g := gb430) (o := .cells #[.int .i64 0, .int .i64 0, .int .i64 0, .int .i64 0, .string (⟨#[]⟩ : ByteArray)] 37 (0, 0)) (by (with_reducible repeat (first | refine blk_drewN ?_ _ | refine blk_drew ?_ | refine blk_alloc ?_ _)); exact BK430.out) hb)
                          have n1_ := Aside0.mk (below_step (by repeat (first | (with_reducible first | exact HB.out | apply below_alloc | apply pw_below_drewN | apply below_drew1 | refine below_set ?_ GE430.out) | exact HB.out)) hb)
                          have n2_ := Aside0.mk (hbox)
                          have n3_ := Aside0.mk ((by rw [hg]; exact (below_size (by repeat (first | (with_reducible first | exact HB.out | apply below_alloc | apply pw_below_drewN | apply below_drew1 | refine below_set ?_ GE430.out) | exact HB.out))) : w.heap.size ≤ gb435))
                          have n4_ := Aside0.mk ((by rw [hg]; exact (below_size (by repeat (first | (with_reducible first | exact HB.out | apply below_alloc | apply pw_below_drewN | apply below_drew1 | refine below_set ?_ GE430.out) | exact HB.out))) : w.heap.size ≤ gb435))
                          have n5_ := Aside0.mk ((by rw [hg]; exact Nat.ne_of_lt (blk_lt (g := gb430) (o := .cells #[.int .i64 0, .int .i64 0, .int .i64 0, .int .i64 0, .string (⟨#[]⟩ : ByteArray)] 37 (0, 0)) (by (with_reducible repeat (first | refine blk_drewN ?_ _ | refine blk_drew ?_ | refine blk_alloc ?_ _)); exact BK430.out)) : gb430 ≠ gb435))
                          have n6_ := Aside0.mk ((by rw [hg]; exact Nat.ne_of_gt (blk_lt (g := gb430) (o := .cells #[.int .i64 0, .int .i64 0, .int .i64 0, .int .i64 0, .string (⟨#[]⟩ : ByteArray)] 37 (0, 0)) (by (with_reducible repeat (first | refine blk_drewN ?_ _ | refine blk_drew ?_ | refine blk_alloc ?_ _)); exact BK430.out)) : gb435 ≠ gb430))
                          clear BK430
                          clear HB
                          have BK430 := n0_
                          have HB := n1_
                          have BK435 := n2_
                          have GW435 := n3_
                          have GE435 := n4_
                          have NB430_435 := n5_
                          have NB435_430 := n6_
                          clear n0_ n1_ n2_ n3_ n4_ n5_ n6_
                          clear hb hbox hg
                          refine hK.out _ _ trivial (fun hHeld => ?_)
                          clear hK K
                          refine norm_ (a' := ?_) ?_ ?_
                          rotate_left
                          · show Act.put _ (some 6) _ = _
                            simp only [Act.put, List.setIfInBounds_toArray, List.set_cons_zero, List.set_cons_succ, i64_w, i32_w]
                            rfl
                          exact norm_ (by simp only [putAll, Act.put, List.setIfInBounds_toArray, List.set_cons_zero, List.set_cons_succ]) (hCont (gb435) _ ⟨(by (with_reducible repeat (first | refine blk_drewN ?_ _ | refine blk_drew ?_ | refine blk_alloc ?_ _)); exact BK430.out), (by (with_reducible repeat (first | refine blk_drewN ?_ _ | refine blk_drew ?_ | refine blk_alloc ?_ _)); exact BK435.out), GW435.out, GE435.out, NB430_435.out, NB435_430.out, (by repeat (first | (with_reducible first | exact HB.out | apply below_alloc | apply pw_below_drewN | apply below_drew1 | refine below_set ?_ GE430.out | refine below_set ?_ GE435.out) | exact HB.out))⟩)
                        · skip
                          refine box_step ?hg (N := 6) ?hd (cs := #[.int .i64 0, .int .i64 0, .int .i64 0, .int .i64 0, .string (⟨#[]⟩ : ByteArray)]) (t := 37) ?hr ?_; (case hd => rfl); (case hg => rfl); (case hr => first | (go_simp; done) | (go_simp; rfl))
                          intro gb435 hg w25 hbox hb
                          have n0_ := Aside0.mk (blk_below (g := gb430) (o := .cells #[.int .i64 0, .int .i64 0, .int .i64 0, .int .i64 0, .string (⟨#[]⟩ : ByteArray)] 37 (0, 0)) (by (with_reducible repeat (first | refine blk_drewN ?_ _ | refine blk_drew ?_ | refine blk_alloc ?_ _)); exact BK430.out) hb)
                          have n1_ := Aside0.mk (below_step (by repeat (first | (with_reducible first | exact HB.out | apply below_alloc | apply pw_below_drewN | apply below_drew1 | refine below_set ?_ GE430.out) | exact HB.out)) hb)
                          have n2_ := Aside0.mk (hbox)
                          have n3_ := Aside0.mk ((by rw [hg]; exact (below_size (by repeat (first | (with_reducible first | exact HB.out | apply below_alloc | apply pw_below_drewN | apply below_drew1 | refine below_set ?_ GE430.out) | exact HB.out))) : w.heap.size ≤ gb435))
                          have n4_ := Aside0.mk ((by rw [hg]; exact (below_size (by repeat (first | (with_reducible first | exact HB.out | apply below_alloc | apply pw_below_drewN | apply below_drew1 | refine below_set ?_ GE430.out) | exact HB.out))) : w.heap.size ≤ gb435))
                          have n5_ := Aside0.mk ((by rw [hg]; exact Nat.ne_of_lt (blk_lt (g := gb430) (o := .cells #[.int .i64 0, .int .i64 0, .int .i64 0, .int .i64 0, .string (⟨#[]⟩ : ByteArray)] 37 (0, 0)) (by (with_reducible repeat (first | refine blk_drewN ?_ _ | refine blk_drew ?_ | refine blk_alloc ?_ _)); exact BK430.out)) : gb430 ≠ gb435))
                          have n6_ := Aside0.mk ((by rw [hg]; exact Nat.ne_of_gt (blk_lt (g := gb430) (o := .cells #[.int .i64 0, .int .i64 0, .int .i64 0, .int .i64 0, .string (⟨#[]⟩ : ByteArray)] 37 (0, 0)) (by (with_reducible repeat (first | refine blk_drewN ?_ _ | refine blk_drew ?_ | refine blk_alloc ?_ _)); exact BK430.out)) : gb435 ≠ gb430))
                          clear BK430
                          clear HB
                          have BK430 := n0_
                          have HB := n1_
                          have BK435 := n2_
                          have GW435 := n3_
                          have GE435 := n4_
                          have NB430_435 := n5_
                          have NB435_430 := n6_
                          clear n0_ n1_ n2_ n3_ n4_ n5_ n6_
                          clear hb hbox hg
                          refine hK.out _ _ trivial (fun hHeld => ?_)
                          clear hK K
                          refine norm_ (a' := ?_) ?_ ?_
                          rotate_left
                          · show Act.put _ (some 6) _ = _
                            simp only [Act.put, List.setIfInBounds_toArray, List.set_cons_zero, List.set_cons_succ, i64_w, i32_w]
                            rfl
                          refine one_ (i := 5) (N := some 34) #[true, true, true, true, true, true, false, true, false] rfl rfl (one_of HT_.out (by kernel_rfl)) (by decide) (fun K hK => ?_)
                          refine goes_ Try.func73 (by kernel_rfl) rfl #[.string (t431.extract 6 12)] (by rfl) rfl rfl (by (try simp only [List.map_toArray, List.map_cons, List.map_nil]); first | done | rfl | (simp only [List.length_drop, List.length_take]; rfl)) ?_
                          with_reducible refine (frame_value.calls k (t431.extract 6 12) t434 _ A15.out).mono ?_
                          rintro e w26 ⟨rfl, hb⟩
                          refine ⟨_, rfl, ?_⟩
                          have n0_ := Aside0.mk (blk_below (g := gb430) (o := .cells #[.int .i64 0, .int .i64 0, .int .i64 0, .int .i64 0, .string (⟨#[]⟩ : ByteArray)] 37 (0, 0)) (by (with_reducible repeat (first | refine blk_drewN ?_ _ | refine blk_drew ?_ | refine blk_alloc ?_ _)); exact BK430.out) hb)
                          have n1_ := Aside0.mk (blk_below (g := gb435) (o := .cells #[.int .i64 0, .int .i64 0, .int .i64 0, .int .i64 0, .string (⟨#[]⟩ : ByteArray)] 37 (0, 0)) (by (with_reducible repeat (first | refine blk_drewN ?_ _ | refine blk_drew ?_ | refine blk_alloc ?_ _)); exact BK435.out) hb)
                          have n2_ := Aside0.mk (below_step (by repeat (first | (with_reducible first | exact HB.out | apply below_alloc | apply pw_below_drewN | apply below_drew1 | refine below_set ?_ GE430.out | refine below_set ?_ GE435.out) | exact HB.out)) hb)
                          clear BK430
                          clear BK435
                          clear HB
                          have BK430 := n0_
                          have BK435 := n1_
                          have HB := n2_
                          clear n0_ n1_ n2_
                          (try clear hb)
                          (try clear hb2)
                          (try clear hk)
                          (try clear hi)
                          refine hK.out _ _ trivial (fun hHeld => ?_)
                          clear hK K
                          refine norm_ (a' := ?_) ?_ ?_
                          rotate_left
                          · show Act.put _ (some 34) _ = _
                            simp only [Act.put, List.setIfInBounds_toArray, List.set_cons_zero, List.set_cons_succ, i64_w, i32_w]
                            rfl
                          refine pure_ (i := 6) (N := some 35) (v := ?_) (a' := ?_) #[true, true, true, true, true, true, true, true, false] rfl rfl (any_of HT_.out (by kernel_rfl)) (fun _ _ _ h => h) (Or.inl ⟨by rfl, ?_⟩) ?_ ?_
                          rotate_left
                          · intro w'
                            go_simp
                            with_reducible rfl
                          rotate_left
                          · simp only [Act.put, List.setIfInBounds_toArray, List.set_cons_zero, List.set_cons_succ, i64_w, i32_w]
                            rfl
                          exact norm_ (by simp only [putAll, Act.put, List.setIfInBounds_toArray, List.set_cons_zero, List.set_cons_succ]) (hCont (gb435) _ ⟨(by (with_reducible repeat (first | refine blk_drewN ?_ _ | refine blk_drew ?_ | refine blk_alloc ?_ _)); exact BK430.out), (by (with_reducible repeat (first | refine blk_drewN ?_ _ | refine blk_drew ?_ | refine blk_alloc ?_ _)); exact BK435.out), GW435.out, GE435.out, NB430_435.out, NB435_430.out, (by repeat (first | (with_reducible first | exact HB.out | apply below_alloc | apply pw_below_drewN | apply below_drew1 | refine below_set ?_ GE430.out | refine below_set ?_ GE435.out) | exact HB.out))⟩)
                      · skip
                        refine box_step ?hg (N := 6) ?hd (cs := #[.int .i64 0, .int .i64 0, .int .i64 0, .int .i64 0, .string (⟨#[]⟩ : ByteArray)]) (t := 37) ?hr ?_; (case hd => rfl); (case hg => rfl); (case hr => first | (go_simp; done) | (go_simp; rfl))
                        intro gb435 hg w24 hbox hb
                        have n0_ := Aside0.mk (blk_below (g := gb430) (o := .cells #[.int .i64 0, .int .i64 0, .int .i64 0, .int .i64 0, .string (⟨#[]⟩ : ByteArray)] 37 (0, 0)) (by (with_reducible repeat (first | refine blk_drewN ?_ _ | refine blk_drew ?_ | refine blk_alloc ?_ _)); exact BK430.out) hb)
                        have n1_ := Aside0.mk (below_step (by repeat (first | (with_reducible first | exact HB.out | apply below_alloc | apply pw_below_drewN | apply below_drew1 | refine below_set ?_ GE430.out) | exact HB.out)) hb)
                        have n2_ := Aside0.mk (hbox)
                        have n3_ := Aside0.mk ((by rw [hg]; exact (below_size (by repeat (first | (with_reducible first | exact HB.out | apply below_alloc | apply pw_below_drewN | apply below_drew1 | refine below_set ?_ GE430.out) | exact HB.out))) : w.heap.size ≤ gb435))
                        have n4_ := Aside0.mk ((by rw [hg]; exact (below_size (by repeat (first | (with_reducible first | exact HB.out | apply below_alloc | apply pw_below_drewN | apply below_drew1 | refine below_set ?_ GE430.out) | exact HB.out))) : w.heap.size ≤ gb435))
                        have n5_ := Aside0.mk ((by rw [hg]; exact Nat.ne_of_lt (blk_lt (g := gb430) (o := .cells #[.int .i64 0, .int .i64 0, .int .i64 0, .int .i64 0, .string (⟨#[]⟩ : ByteArray)] 37 (0, 0)) (by (with_reducible repeat (first | refine blk_drewN ?_ _ | refine blk_drew ?_ | refine blk_alloc ?_ _)); exact BK430.out)) : gb430 ≠ gb435))
                        have n6_ := Aside0.mk ((by rw [hg]; exact Nat.ne_of_gt (blk_lt (g := gb430) (o := .cells #[.int .i64 0, .int .i64 0, .int .i64 0, .int .i64 0, .string (⟨#[]⟩ : ByteArray)] 37 (0, 0)) (by (with_reducible repeat (first | refine blk_drewN ?_ _ | refine blk_drew ?_ | refine blk_alloc ?_ _)); exact BK430.out)) : gb435 ≠ gb430))
                        clear BK430
                        clear HB
                        have BK430 := n0_
                        have HB := n1_
                        have BK435 := n2_
                        have GW435 := n3_
                        have GE435 := n4_
                        have NB430_435 := n5_
                        have NB435_430 := n6_
                        clear n0_ n1_ n2_ n3_ n4_ n5_ n6_
                        clear hb hbox hg
                        refine hK.out _ _ trivial (fun hHeld => ?_)
                        clear hK K
                        refine norm_ (a' := ?_) ?_ ?_
                        rotate_left
                        · show Act.put _ (some 6) _ = _
                          simp only [Act.put, List.setIfInBounds_toArray, List.set_cons_zero, List.set_cons_succ, i64_w, i32_w]
                          rfl
                        refine one_ (i := 2) (N := some 31) #[true, true, true, true, true, false, false, true, false] rfl rfl (one_of HT_.out (by kernel_rfl)) (by decide) (fun K hK => ?_)
                        refine goes_ Try.func73 (by kernel_rfl) rfl #[.string (t431.extract 0 6)] (by rfl) rfl rfl (by (try simp only [List.map_toArray, List.map_cons, List.map_nil]); first | done | rfl | (simp only [List.length_drop, List.length_take]; rfl)) ?_
                        with_reducible refine (frame_value.calls k (t431.extract 0 6) t433 _ A12.out).mono ?_
                        rintro e w25 ⟨rfl, hb⟩
                        refine ⟨_, rfl, ?_⟩
                        have n0_ := Aside0.mk (blk_below (g := gb430) (o := .cells #[.int .i64 0, .int .i64 0, .int .i64 0, .int .i64 0, .string (⟨#[]⟩ : ByteArray)] 37 (0, 0)) (by (with_reducible repeat (first | refine blk_drewN ?_ _ | refine blk_drew ?_ | refine blk_alloc ?_ _)); exact BK430.out) hb)
                        have n1_ := Aside0.mk (blk_below (g := gb435) (o := .cells #[.int .i64 0, .int .i64 0, .int .i64 0, .int .i64 0, .string (⟨#[]⟩ : ByteArray)] 37 (0, 0)) (by (with_reducible repeat (first | refine blk_drewN ?_ _ | refine blk_drew ?_ | refine blk_alloc ?_ _)); exact BK435.out) hb)
                        have n2_ := Aside0.mk (below_step (by repeat (first | (with_reducible first | exact HB.out | apply below_alloc | apply pw_below_drewN | apply below_drew1 | refine below_set ?_ GE430.out | refine below_set ?_ GE435.out) | exact HB.out)) hb)
                        clear BK430
                        clear BK435
                        clear HB
                        have BK430 := n0_
                        have BK435 := n1_
                        have HB := n2_
                        clear n0_ n1_ n2_
                        (try clear hb)
                        (try clear hb2)
                        (try clear hk)
                        (try clear hi)
                        refine hK.out _ _ trivial (fun hHeld => ?_)
                        clear hK K
                        refine norm_ (a' := ?_) ?_ ?_
                        rotate_left
                        · show Act.put _ (some 31) _ = _
                          simp only [Act.put, List.setIfInBounds_toArray, List.set_cons_zero, List.set_cons_succ, i64_w, i32_w]
                          rfl
                        refine one_ (i := 5) (N := some 34) #[true, true, true, true, true, true, false, true, false] rfl rfl (one_of HT_.out (by kernel_rfl)) (by decide) (fun K hK => ?_)
                        refine goes_ Try.func73 (by kernel_rfl) rfl #[.string (t431.extract 6 12)] (by rfl) rfl rfl (by (try simp only [List.map_toArray, List.map_cons, List.map_nil]); first | done | rfl | (simp only [List.length_drop, List.length_take]; rfl)) ?_
                        with_reducible refine (frame_value.calls k (t431.extract 6 12) t434 _ A15.out).mono ?_
                        rintro e w26 ⟨rfl, hb⟩
                        refine ⟨_, rfl, ?_⟩
                        have n0_ := Aside0.mk (blk_below (g := gb430) (o := .cells #[.int .i64 0, .int .i64 0, .int .i64 0, .int .i64 0, .string (⟨#[]⟩ : ByteArray)] 37 (0, 0)) (by (with_reducible repeat (first | refine blk_drewN ?_ _ | refine blk_drew ?_ | refine blk_alloc ?_ _)); exact BK430.out) hb)
                        have n1_ := Aside0.mk (blk_below (g := gb435) (o := .cells #[.int .i64 0, .int .i64 0, .int .i64 0, .int .i64 0, .string (⟨#[]⟩ : ByteArray)] 37 (0, 0)) (by (with_reducible repeat (first | refine blk_drewN ?_ _ | refine blk_drew ?_ | refine blk_alloc ?_ _)); exact BK435.out) hb)
                        have n2_ := Aside0.mk (below_step (by repeat (first | (with_reducible first | exact HB.out | apply below_alloc | apply pw_below_drewN | apply below_drew1 | refine below_set ?_ GE430.out | refine below_set ?_ GE435.out) | exact HB.out)) hb)
                        clear BK430
                        clear BK435
                        clear HB
                        have BK430 := n0_
                        have BK435 := n1_
                        have HB := n2_
                        clear n0_ n1_ n2_
                        (try clear hb)
                        (try clear hb2)
                        (try clear hk)
                        (try clear hi)
                        refine hK.out _ _ trivial (fun hHeld => ?_)
                        clear hK K
                        refine norm_ (a' := ?_) ?_ ?_
                        rotate_left
                        · show Act.put _ (some 34) _ = _
                          simp only [Act.put, List.setIfInBounds_toArray, List.set_cons_zero, List.set_cons_succ, i64_w, i32_w]
                          rfl
                        refine pure_ (i := 6) (N := some 35) (v := ?_) (a' := ?_) #[true, true, true, true, true, true, true, true, false] rfl rfl (any_of HT_.out (by kernel_rfl)) (fun _ _ _ h => h) (Or.inl ⟨by rfl, ?_⟩) ?_ ?_
                        rotate_left
                        · intro w'
                          go_simp
                          with_reducible rfl
                        rotate_left
                        · simp only [Act.put, List.setIfInBounds_toArray, List.set_cons_zero, List.set_cons_succ, i64_w, i32_w]
                          rfl
                        exact norm_ (by simp only [putAll, Act.put, List.setIfInBounds_toArray, List.set_cons_zero, List.set_cons_succ]) (hCont (gb435) _ ⟨(by (with_reducible repeat (first | refine blk_drewN ?_ _ | refine blk_drew ?_ | refine blk_alloc ?_ _)); exact BK430.out), (by (with_reducible repeat (first | refine blk_drewN ?_ _ | refine blk_drew ?_ | refine blk_alloc ?_ _)); exact BK435.out), GW435.out, GE435.out, NB430_435.out, NB435_430.out, (by repeat (first | (with_reducible first | exact HB.out | apply below_alloc | apply pw_below_drewN | apply below_drew1 | refine below_set ?_ GE430.out | refine below_set ?_ GE435.out) | exact HB.out))⟩)
                    rintro gb435 w27 ⟨h0_, h1_, h2_, h3_, h4_, h5_, h6_⟩
                    have n0_ : Aside0 (w27.heap[gb430]? = some (.cells #[.int .i64 0, .int .i64 0, .int .i64 0, .int .i64 0, .string (⟨#[]⟩ : ByteArray)] 37 (0, 0))) := ⟨h0_⟩
                    have n1_ : Aside0 (w27.heap[gb435]? = some (.cells #[.int .i64 0, .int .i64 0, .int .i64 0, .int .i64 0, .string (⟨#[]⟩ : ByteArray)] 37 (0, 0))) := ⟨h1_⟩
                    have n2_ : Aside0 (w.heap.size ≤ gb435) := ⟨h2_⟩
                    have n3_ : Aside0 (w.heap.size ≤ gb435) := ⟨h3_⟩
                    have n4_ : Aside0 (gb430 ≠ gb435) := ⟨h4_⟩
                    have n5_ : Aside0 (gb435 ≠ gb430) := ⟨h5_⟩
                    have n6_ : Aside0 (Below w.heap.size w w27) := ⟨h6_⟩
                    clear BK430
                    clear HB
                    clear h0_ h1_ h2_ h3_ h4_ h5_ h6_
                    have BK430 := n0_
                    have BK435 := n1_
                    have GW435 := n2_
                    have GE435 := n3_
                    have NB430_435 := n4_
                    have NB435_430 := n5_
                    have HB := n6_
                    clear n0_ n1_ n2_ n3_ n4_ n5_ n6_
                    have hHeld := trivial
                    refine norm_ (a' := ?_) ?_ ?_
                    rotate_left
                    · simp only [putAll, Act.put, List.setIfInBounds_toArray, List.set_cons_zero, List.set_cons_succ]
                      rfl
                    refine one_ (i := 8) (N := none) #[true, true, true, true, true, true, true, true, true] rfl rfl (one_of HT_.out (by kernel_rfl)) (by decide) (fun K hK => ?_)
                    have hs28 : w27.cell? ⟨gb435, 0, none⟩ = some (.int .i64 0) := (blk_cell BK435.out 0).trans rfl
                    have hfs28 := blk_frozen BK435.out 0
                    have hns28_0 := NB430_435.out
                    have hms28_0 := NB435_430.out
                    have hs29 : w27.cell? ⟨gb435, 1, none⟩ = some (.int .i64 0) := (blk_cell BK435.out 1).trans rfl
                    have hfs29 := blk_frozen BK435.out 1
                    have hns29_0 := NB430_435.out
                    have hms29_0 := NB435_430.out
                    have hs30 : w27.cell? ⟨gb435, 2, none⟩ = some (.int .i64 0) := (blk_cell BK435.out 2).trans rfl
                    have hfs30 := blk_frozen BK435.out 2
                    have hns30_0 := NB430_435.out
                    have hms30_0 := NB435_430.out
                    have hs31 : w27.cell? ⟨gb435, 3, none⟩ = some (.int .i64 0) := (blk_cell BK435.out 3).trans rfl
                    have hfs31 := blk_frozen BK435.out 3
                    have hns31_0 := NB430_435.out
                    have hms31_0 := NB435_430.out
                    have hs32 : w27.cell? ⟨gb435, 4, none⟩ = some (.string (⟨#[]⟩ : ByteArray)) := (blk_cell BK435.out 4).trans rfl
                    have hfs32 := blk_frozen BK435.out 4
                    have hns32_0 := NB430_435.out
                    have hms32_0 := NB435_430.out
                    refine skip_ (w1 := ?_) (by rfl) rfl ?_ ?_
                    rotate_left
                    · go_simp
                      rfl
                    refine hK.out _ _ trivial (fun hHeld => ?_)
                    clear hK K
                    refine done_ (done_of HT_.out (by kernel_rfl)) ?_
                    go_upto_if 41 with (first | ((with_reducible refine gate_callee (f := 73) rfl ?_); refine goesL_ (some 40) rfl rfl Try.func73 (by kernel_rfl) rfl #[.string ((t431.extract 12 t431.size).extract 0 2)] rfl (by (try simp only [List.map_toArray, List.map_cons, List.map_nil]); first | done | rfl | (simp only [List.length_drop, List.length_take]; rfl)) ?_; (with_reducible refine (frame_value.calls k ((t431.extract 12 t431.size).extract 0 2) t436 _ A19.out).mono ?_); rintro e w33 ⟨rfl, hb⟩; refine ⟨_, rfl, ?_⟩; have n0_ := Aside0.mk (blk_below (g := gb430) (o := .cells #[.int .i64 0, .int .i64 0, .int .i64 0, .int .i64 0, .string (⟨#[]⟩ : ByteArray)] 37 (0, 0)) (by (with_reducible repeat (first | refine blk_drewN ?_ _ | refine blk_drew ?_ | refine blk_alloc ?_ _)); refine blk_far ?_ NB430_435.out _; (with_reducible repeat (first | refine blk_drewN ?_ _ | refine blk_drew ?_ | refine blk_alloc ?_ _)); refine blk_far ?_ NB430_435.out _; (with_reducible repeat (first | refine blk_drewN ?_ _ | refine blk_drew ?_ | refine blk_alloc ?_ _)); refine blk_far ?_ NB430_435.out _; (with_reducible repeat (first | refine blk_drewN ?_ _ | refine blk_drew ?_ | refine blk_alloc ?_ _)); refine blk_far ?_ NB430_435.out _; (with_reducible repeat (first | refine blk_drewN ?_ _ | refine blk_drew ?_ | refine blk_alloc ?_ _)); refine blk_far ?_ NB430_435.out _; (with_reducible repeat (first | refine blk_drewN ?_ _ | refine blk_drew ?_ | refine blk_alloc ?_ _)); exact BK430.out) hb); have n1_ := Aside0.mk (blk_below (g := gb435) (o := .cells #[.int .i64 t433, .int .i64 t434, .int .i64 0, .int .i64 0, .string (⟨#[]⟩ : ByteArray)] 37 (0, 0)) (by (with_reducible repeat (first | refine blk_drewN ?_ _ | refine blk_drew ?_ | refine blk_alloc ?_ _)); refine blk_put (cs := #[.int .i64 t433, .int .i64 t434, .int .i64 0, .int .i64 0, .string (⟨#[]⟩ : ByteArray)]) ?_ 4 _ rfl; (with_reducible repeat (first | refine blk_drewN ?_ _ | refine blk_drew ?_ | refine blk_alloc ?_ _)); refine blk_put (cs := #[.int .i64 t433, .int .i64 t434, .int .i64 0, .int .i64 0, .string (⟨#[]⟩ : ByteArray)]) ?_ 3 _ rfl; (with_reducible repeat (first | refine blk_drewN ?_ _ | refine blk_drew ?_ | refine blk_alloc ?_ _)); refine blk_put (cs := #[.int .i64 t433, .int .i64 t434, .int .i64 0, .int .i64 0, .string (⟨#[]⟩ : ByteArray)]) ?_ 2 _ rfl; (with_reducible repeat (first | refine blk_drewN ?_ _ | refine blk_drew ?_ | refine blk_alloc ?_ _)); refine blk_put (cs := #[.int .i64 t433, .int .i64 0, .int .i64 0, .int .i64 0, .string (⟨#[]⟩ : ByteArray)]) ?_ 1 _ rfl; (with_reducible repeat (first | refine blk_drewN ?_ _ | refine blk_drew ?_ | refine blk_alloc ?_ _)); refine blk_put (cs := #[.int .i64 0, .int .i64 0, .int .i64 0, .int .i64 0, .string (⟨#[]⟩ : ByteArray)]) ?_ 0 _ rfl; (with_reducible repeat (first | refine blk_drewN ?_ _ | refine blk_drew ?_ | refine blk_alloc ?_ _)); exact BK435.out) hb); have n2_ := Aside0.mk (below_step (by repeat (first | (with_reducible first | exact HB.out | apply below_alloc | apply pw_below_drewN | apply below_drew1 | refine below_set ?_ GE430.out | refine below_set ?_ GE435.out) | exact HB.out)) hb); clear BK430; clear BK435; clear HB; have BK430 := n0_; have BK435 := n1_; have HB := n2_; clear n0_ n1_ n2_; (try clear hb); (try clear hb2); (try clear hk); (try clear hi)))
                    (try simp only [Act.put, List.setIfInBounds_toArray, List.set_cons_zero, List.set_cons_succ])
                    go_cut [4] (fun v4 wc => ∃ (kq : Nat) (x4_19 : ByteArray) (x436002_19 : Int), v4 = .string x4_19 ∧ Aside0 (frame_Decode.j0 kq a0 x4_19 t433 t434 x436002_19 0 (⟨#[]⟩ : ByteArray) = some (r1, r2, r3, r4, r5, r6)) ∧ Aside0 (kq ≤ k) ∧ Aside0 (wc.heap[gb430]? = some (.cells #[.int .i64 0, .int .i64 0, .int .i64 0, .int .i64 0, .string (⟨#[]⟩ : ByteArray)] 37 (0, 0))) ∧ Aside0 (wc.heap[gb435]? = some (.cells #[.int .i64 t433, .int .i64 t434, .int .i64 x436002_19, .int .i64 0, .string (⟨#[]⟩ : ByteArray)] 37 (0, 0))) ∧ Aside0 (Below w.heap.size w wc))
                    case first =>
                      have H := HC20.out
                      clear HC20
                      by_cases c34 : t436 = 33024
                      · rw [if_pos c34] at H
                        have c34b0 : (t436 == 33024) = true := beq_iff_eq.mpr c34
                        have c34b1 : (t436 != 33024) = false := bne_eq_false_iff_eq.mpr c34
                        clear c34
                        (first | rw [c34b0] | (simp only [i64_w, i32_w]; rw [c34b0]) | skip)
                        by_cases c35 : 2 ≤ 4
                        · rw [if_pos c35] at H
                          have c35b0 := eq_true c35
                          try (have c35b0q := c35b0; simp only [ByteArray.size_append, ByteArray.size_extract, Nat.min_self, Nat.sub_zero, Int.natCast_add] at c35b0q)
                          have c35b1 : decide (2 ≤ 4) = true := decide_eq_true c35
                          clear c35
                          by_cases c36 : 4 ≤ ((t431.extract 12 t431.size).size : Int)
                          · rw [if_pos c36] at H
                            have c36b0 := eq_true c36
                            try (have c36b0q := c36b0; simp only [ByteArray.size_append, ByteArray.size_extract, Nat.min_self, Nat.sub_zero, Int.natCast_add] at c36b0q)
                            have c36b1 : decide (4 ≤ ((t431.extract 12 t431.size).size : Int)) = true := decide_eq_true c36
                            try (have c36b1q := c36b1; simp only [ByteArray.size_append, ByteArray.size_extract, Nat.min_self, Nat.sub_zero, Int.natCast_add] at c36b1q)
                            clear c36
                            replace H := Option.bind_eq_some_iff.mp H
                            obtain ⟨t437, A370, H⟩ := H
                            replace H : (frame_Decode.j0 k a0 ((t431.extract 12 t431.size).extract 4 (t431.extract 12 t431.size).size) t433 t434 t437 0 (⟨#[]⟩ : ByteArray)) = some (r1, r2, r3, r4, r5, r6) := H
                            have A37 := Aside0.mk A370
                            clear A370
                            have c38b0 := eq_true (of_decide_eq_true (by first | (with_reducible assumption) | assumption) : 4 ≤ ((t431.extract 12 t431.size).size : Int))
                            try (have c38b0q := c38b0; simp only [ByteArray.size_append, ByteArray.size_extract, Nat.min_self, Nat.sub_zero, Int.natCast_add] at c38b0q)
                            have H' := Aside0.mk H
                            clear H
                            try go_wp2
                            have n0_ := Aside0.mk (blk_drew BK430.out)
                            have n1_ := Aside0.mk (blk_drew BK435.out)
                            have n2_ := Aside0.mk (below_drew1 HB.out)
                            clear BK430
                            clear BK435
                            clear HB
                            have BK430 := n0_
                            have BK435 := n1_
                            have HB := n2_
                            clear n0_ n1_ n2_
                            refine start_ (n := 8) (S := fun w' => True) (ds := []) #[false, false, false, false, false, false, false, false] (by kernel_rfl) rfl rfl trivial (fun hHeld => ?_); refine with_tabW frame_Decode.tab11 frame_Decode.bits11 (fun HT_ HW_ => ?_)
                            generalize w33.drew = w39 at BK430 BK435 HB hHeld ⊢
                            refine pure_ (i := 0) (N := some 42) (v := ?_) (a' := ?_) #[true, false, false, false, false, false, false, false] rfl rfl (any_of HT_.out (by kernel_rfl)) (fun _ _ _ h => h) (Or.inl ⟨by rfl, ?_⟩) ?_ ?_
                            rotate_left
                            · intro w'
                              go_simp
                              with_reducible rfl
                            rotate_left
                            · simp only [Act.put, List.setIfInBounds_toArray, List.set_cons_zero, List.set_cons_succ, i64_w, i32_w]
                              rfl
                            refine pure_ (i := 1) (N := some 43) (v := ?_) (a' := ?_) #[true, true, false, false, false, false, false, false] rfl rfl (any_of HT_.out (by kernel_rfl)) (fun _ _ _ h => h) (Or.inl ⟨by rfl, ?_⟩) ?_ ?_
                            rotate_left
                            · intro w'
                              go_simp
                              with_reducible rfl
                            rotate_left
                            · simp only [Act.put, List.setIfInBounds_toArray, List.set_cons_zero, List.set_cons_succ, i64_w, i32_w]
                              rfl
                            refine pure_ (i := 3) (N := some 45) (v := ?_) (a' := ?_) #[true, true, false, true, false, false, false, false] rfl rfl (any_of HT_.out (by kernel_rfl)) (fun _ _ _ h => h) (Or.inl ⟨by rfl, ?_⟩) ?_ ?_
                            rotate_left
                            · intro w'
                              go_simp
                              with_reducible rfl
                            rotate_left
                            · simp only [Act.put, List.setIfInBounds_toArray, List.set_cons_zero, List.set_cons_succ, i64_w, i32_w]
                              rfl
                            refine pure_ (i := 4) (N := some 46) (v := ?_) (a' := ?_) #[true, true, false, true, true, false, false, false] rfl rfl (any_of HT_.out (by kernel_rfl)) (fun _ _ _ h => h) (Or.inl ⟨by rfl, ?_⟩) ?_ ?_
                            rotate_left
                            · intro w'
                              go_simp
                              with_reducible rfl
                            rotate_left
                            · simp only [Act.put, List.setIfInBounds_toArray, List.set_cons_zero, List.set_cons_succ, i64_w, i32_w]
                              rfl
                            refine one_ (i := 2) (N := some 44) #[true, true, true, true, true, false, false, false] rfl rfl (one_of HT_.out (by kernel_rfl)) (by decide) (fun K hK => ?_)
                            refine goes_ Try.func73 (by kernel_rfl) rfl #[.string ((t431.extract 12 t431.size).extract 2 4)] (by rfl) rfl rfl (by (try simp only [List.map_toArray, List.map_cons, List.map_nil]); first | done | rfl | (simp only [List.length_drop, List.length_take]; rfl)) ?_
                            with_reducible refine (frame_value.calls k ((t431.extract 12 t431.size).extract 2 4) t437 _ A37.out).mono ?_
                            rintro e w40 ⟨rfl, hb⟩
                            refine ⟨_, rfl, ?_⟩
                            have n0_ := Aside0.mk (blk_below (g := gb430) (o := .cells #[.int .i64 0, .int .i64 0, .int .i64 0, .int .i64 0, .string (⟨#[]⟩ : ByteArray)] 37 (0, 0)) (by (with_reducible repeat (first | refine blk_drewN ?_ _ | refine blk_drew ?_ | refine blk_alloc ?_ _)); exact BK430.out) hb)
                            have n1_ := Aside0.mk (blk_below (g := gb435) (o := .cells #[.int .i64 t433, .int .i64 t434, .int .i64 0, .int .i64 0, .string (⟨#[]⟩ : ByteArray)] 37 (0, 0)) (by (with_reducible repeat (first | refine blk_drewN ?_ _ | refine blk_drew ?_ | refine blk_alloc ?_ _)); exact BK435.out) hb)
                            have n2_ := Aside0.mk (below_step (by repeat (first | (with_reducible first | exact HB.out | apply below_alloc | apply pw_below_drewN | apply below_drew1 | refine below_set ?_ GE430.out | refine below_set ?_ GE435.out) | exact HB.out)) hb)
                            clear BK430
                            clear BK435
                            clear HB
                            have BK430 := n0_
                            have BK435 := n1_
                            have HB := n2_
                            clear n0_ n1_ n2_
                            (try clear hb)
                            (try clear hb2)
                            (try clear hk)
                            (try clear hi)
                            refine hK.out _ _ trivial (fun hHeld => ?_)
                            clear hK K
                            refine norm_ (a' := ?_) ?_ ?_
                            rotate_left
                            · show Act.put _ (some 44) _ = _
                              simp only [Act.put, List.setIfInBounds_toArray, List.set_cons_zero, List.set_cons_succ, i64_w, i32_w]
                              rfl
                            refine pure_ (i := 5) (N := some 47) (v := ?_) (a' := ?_) #[true, true, true, true, true, true, false, false] rfl rfl (any_of HT_.out (by kernel_rfl)) (fun _ _ _ h => h) (Or.inl ⟨by rfl, ?_⟩) ?_ ?_
                            rotate_left
                            · intro w'
                              go_simp
                              with_reducible rfl
                            rotate_left
                            · simp only [Act.put, List.setIfInBounds_toArray, List.set_cons_zero, List.set_cons_succ, i64_w, i32_w]
                              rfl
                            refine one_ (i := 6) (N := none) #[true, true, true, true, true, true, true, false] rfl rfl (one_of HT_.out (by kernel_rfl)) (by decide) (fun K hK => ?_)
                            have hs41 : w40.cell? ⟨gb435, 2, none⟩ = some (.int .i64 0) := (blk_cell BK435.out 2).trans rfl
                            have hfs41 := blk_frozen BK435.out 2
                            have hns41_0 := NB430_435.out
                            have hms41_0 := NB435_430.out
                            refine skip_ (w1 := ?_) (by rfl) rfl ?_ ?_
                            rotate_left
                            · go_simp
                              rfl
                            refine hK.out _ _ trivial (fun hHeld => ?_)
                            clear hK K
                            refine pure_ (i := 7) (N := some 4) (v := ?_) (a' := ?_) #[true, true, true, true, true, true, true, true] rfl rfl (any_of HT_.out (by kernel_rfl)) (fun _ _ _ h => h) (Or.inl ⟨by rfl, ?_⟩) ?_ ?_
                            rotate_left
                            · intro w'
                              go_simp
                              with_reducible rfl
                            rotate_left
                            · simp only [Act.put, List.setIfInBounds_toArray, List.set_cons_zero, List.set_cons_succ, i64_w, i32_w]
                              rfl
                            refine done_ (done_of HT_.out (by kernel_rfl)) ?_
                            try go_wp2
                            go_meet
                            case rel => exact ⟨_, ((t431.extract 12 t431.size).extract 4 (t431.extract 12 t431.size).size), (t437), (by first | (with_reducible rfl) | (simp only [ByteArray.size_extract, Nat.min_self]; done) | (simp; done) | rfl | (simp [*]; done)), H', ⟨by first | omega | exact Nat.le_refl _⟩, ⟨by (with_reducible repeat (first | refine blk_drewN ?_ _ | refine blk_drew ?_ | refine blk_alloc ?_ _)); refine blk_far ?_ NB430_435.out _; (with_reducible repeat (first | refine blk_drewN ?_ _ | refine blk_drew ?_ | refine blk_alloc ?_ _)); exact BK430.out⟩, ⟨by (with_reducible repeat (first | refine blk_drewN ?_ _ | refine blk_drew ?_ | refine blk_alloc ?_ _)); refine blk_put (cs := #[.int .i64 t433, .int .i64 t434, .int .i64 0, .int .i64 0, .string (⟨#[]⟩ : ByteArray)]) ?_ 2 _ rfl; (with_reducible repeat (first | refine blk_drewN ?_ _ | refine blk_drew ?_ | refine blk_alloc ?_ _)); exact BK435.out⟩, ⟨by repeat (first | (with_reducible first | exact HB.out | apply below_alloc | apply pw_below_drewN | apply below_drew1 | refine below_set ?_ GE430.out | refine below_set ?_ GE435.out) | exact HB.out)⟩⟩
                          · rw [if_neg c36] at H
                            exact absurd H (by simp)
                        · rw [if_neg c35] at H
                          exact absurd H (by simp)
                      · rw [if_neg c34] at H
                        have c34b0 : (t436 == 33024) = false := beq_eq_false_iff_ne.mpr c34
                        have c34b1 : (t436 != 33024) = true := bne_iff_ne.mpr c34
                        (first | rw [c34b0] | (simp only [i64_w, i32_w]; rw [c34b0]) | skip)
                        have H' := Aside0.mk H
                        clear H
                        go_wp2
                        go_meet
                        case rel => exact ⟨_, (t431.extract 12 t431.size), (0), (by first | (with_reducible rfl) | (simp only [ByteArray.size_extract, Nat.min_self]; done) | (simp; done) | rfl | (simp [*]; done)), H', ⟨by first | omega | exact Nat.le_refl _⟩, ⟨by (with_reducible repeat (first | refine blk_drewN ?_ _ | refine blk_drew ?_ | refine blk_alloc ?_ _)); exact BK430.out⟩, ⟨by (with_reducible repeat (first | refine blk_drewN ?_ _ | refine blk_drew ?_ | refine blk_alloc ?_ _)); exact BK435.out⟩, ⟨by repeat (first | (with_reducible first | exact HB.out | apply below_alloc | apply pw_below_drewN | apply below_drew1 | refine below_set ?_ GE430.out | refine below_set ?_ GE435.out) | exact HB.out)⟩⟩
                    case rest =>
                      clear HC20
                      try clear c1
                      try clear c2
                      try clear c2b0
                      try clear c2b1
                      try clear p2
                      try clear c3
                      try clear c5
                      try clear c5b0
                      try clear c5b1
                      try clear c7
                      try clear c9
                      try clear c9b0
                      try clear c9b1
                      try clear c10
                      try clear c10b0
                      try clear c10b1
                      try clear c11
                      try clear c11b0
                      try clear c11b1
                      try clear c13
                      try clear c13b0
                      try clear c13b1
                      try clear c14
                      try clear c14b0
                      try clear c14b1
                      try clear c16
                      try clear c16b0
                      try clear c17
                      try clear c17b0
                      try clear c17b1
                      try clear c18
                      try clear c18b0
                      try clear c18b1
                      try clear c34
                      try clear c34b0
                      try clear c34b1
                      try clear c35
                      try clear c35b0
                      try clear c35b1
                      try clear c36
                      try clear c36b0
                      try clear c36b1
                      try clear c38
                      try clear c38b0
                      try clear hcz4_0
                      try clear hcz4_1
                      try clear hcz4_2
                      try clear hcz4_3
                      try clear hcz4_4
                      try clear hcz7_0
                      try clear hcz7_1
                      try clear hcz7_2
                      try clear hcz7_3
                      try clear hcz7_4
                      try clear hfz4_0
                      try clear hfz4_1
                      try clear hfz4_2
                      try clear hfz4_3
                      try clear hfz4_4
                      try clear hfz7_0
                      try clear hfz7_1
                      try clear hfz7_2
                      try clear hfz7_3
                      try clear hfz7_4
                      obtain ⟨kq, x4_19, x436002_19, rfl, HA, HJ19, BK430, BK435, HB⟩ := hcut
                      cases kq with
                      | zero => exact absurd HA.out (by simp [frame_Decode.j0])
                      | succ kj19 =>
                        have H := HA.out
                        clear HA
                        simp only [frame_Decode.j0] at H
                        by_cases c42 : 0 ≤ 2
                        · rw [if_pos c42] at H
                          have c42b0 := eq_true c42
                          try (have c42b0q := c42b0; simp only [ByteArray.size_append, ByteArray.size_extract, Nat.min_self, Nat.sub_zero, Int.natCast_add] at c42b0q)
                          have c42b1 : decide (0 ≤ 2) = true := decide_eq_true c42
                          clear c42
                          by_cases c43 : 2 ≤ (x4_19.size : Int)
                          · rw [if_pos c43] at H
                            have c43b0 := eq_true c43
                            try (have c43b0q := c43b0; simp only [ByteArray.size_append, ByteArray.size_extract, Nat.min_self, Nat.sub_zero, Int.natCast_add] at c43b0q)
                            have c43b1 : decide (2 ≤ (x4_19.size : Int)) = true := decide_eq_true c43
                            clear c43
                            replace H := Option.bind_eq_some_iff.mp H
                            obtain ⟨t438, A440, H⟩ := H
                            replace H : (if 2 ≤ 4 then (if 4 ≤ (x4_19.size : Int) then ((frame_value.f kj19 (x4_19.extract 2 4)).bind fun t439 => (if t439 > (wrap64 ((x4_19.size : Int) - 4)) then (some (0, 0, 0, 0, (⟨#[]⟩ : ByteArray), 3)) else (if 4 ≤ (wrap64 (4 + t439)) then (if (wrap64 (4 + t439)) ≤ (x4_19.size : Int) then ((frame_Encode.f kj19 t433 t434 x436002_19 t438 (x4_19.extract 4 ((wrap64 (4 + t439)) : Int).toNat)).bind fun bt440 => (if bt440.2 = 0 then (if bt440.1.toList = a0.toList then (some (t433, t434, x436002_19, t438, x4_19.extract 4 ((wrap64 (4 + t439)) : Int).toNat, 0)) else (some (0, 0, 0, 0, (⟨#[]⟩ : ByteArray), 3))) else (some (0, 0, 0, 0, (⟨#[]⟩ : ByteArray), 3)))) else (none)) else (none)))) else (none)) else (none)) = some (r1, r2, r3, r4, r5, r6) := H
                            have A44 := Aside0.mk A440
                            clear A440
                            by_cases c45 : 2 ≤ 4
                            · rw [if_pos c45] at H
                              have c45b0 := eq_true c45
                              try (have c45b0q := c45b0; simp only [ByteArray.size_append, ByteArray.size_extract, Nat.min_self, Nat.sub_zero, Int.natCast_add] at c45b0q)
                              have c45b1 : decide (2 ≤ 4) = true := decide_eq_true c45
                              clear c45
                              by_cases c46 : 4 ≤ (x4_19.size : Int)
                              · rw [if_pos c46] at H
                                have c46b0 := eq_true c46
                                try (have c46b0q := c46b0; simp only [ByteArray.size_append, ByteArray.size_extract, Nat.min_self, Nat.sub_zero, Int.natCast_add] at c46b0q)
                                have c46b1 : decide (4 ≤ (x4_19.size : Int)) = true := decide_eq_true c46
                                clear c46
                                replace H := Option.bind_eq_some_iff.mp H
                                obtain ⟨t439, A470, H⟩ := H
                                replace H : (if t439 > (wrap64 ((x4_19.size : Int) - 4)) then (some (0, 0, 0, 0, (⟨#[]⟩ : ByteArray), 3)) else (if 4 ≤ (wrap64 (4 + t439)) then (if (wrap64 (4 + t439)) ≤ (x4_19.size : Int) then ((frame_Encode.f kj19 t433 t434 x436002_19 t438 (x4_19.extract 4 ((wrap64 (4 + t439)) : Int).toNat)).bind fun bt440 => (if bt440.2 = 0 then (if bt440.1.toList = a0.toList then (some (t433, t434, x436002_19, t438, x4_19.extract 4 ((wrap64 (4 + t439)) : Int).toNat, 0)) else (some (0, 0, 0, 0, (⟨#[]⟩ : ByteArray), 3))) else (some (0, 0, 0, 0, (⟨#[]⟩ : ByteArray), 3)))) else (none)) else (none))) = some (r1, r2, r3, r4, r5, r6) := H
                                have A47 := Aside0.mk A470
                                clear A470
                                by_cases c48 : t439 > (wrap64 ((x4_19.size : Int) - 4))
                                · rw [if_pos c48] at H
                                  have c48b0 : decide ((wrap64 ((x4_19.size : Int) - 4)) < t439) = true := decide_eq_true c48
                                  clear c48
                                  simp only [Option.some.injEq, Prod.mk.injEq] at H
                                  obtain ⟨rfl, rfl, rfl, rfl, rfl, rfl⟩ := H
                                  go_wp2_with (first | ((with_reducible refine gate_callee (f := 73) rfl ?_); refine goesL_ (some 50) rfl rfl Try.func73 (by kernel_rfl) rfl #[.string (x4_19.extract 0 2)] rfl (by (try simp only [List.map_toArray, List.map_cons, List.map_nil]); first | done | rfl | (simp only [List.length_drop, List.length_take]; rfl)) ?_; (with_reducible refine (frame_value.calls kj19 (x4_19.extract 0 2) t438 _ A44.out).mono ?_); rintro e w49 ⟨rfl, hb⟩; refine ⟨_, rfl, ?_⟩; have n0_ := Aside0.mk (blk_below (g := gb430) (o := .cells #[.int .i64 0, .int .i64 0, .int .i64 0, .int .i64 0, .string (⟨#[]⟩ : ByteArray)] 37 (0, 0)) (by (with_reducible repeat (first | refine blk_drewN ?_ _ | refine blk_drew ?_ | refine blk_alloc ?_ _)); exact BK430.out) hb); have n1_ := Aside0.mk (blk_below (g := gb435) (o := .cells #[.int .i64 t433, .int .i64 t434, .int .i64 x436002_19, .int .i64 0, .string (⟨#[]⟩ : ByteArray)] 37 (0, 0)) (by (with_reducible repeat (first | refine blk_drewN ?_ _ | refine blk_drew ?_ | refine blk_alloc ?_ _)); exact BK435.out) hb); have n2_ := Aside0.mk (below_step (by repeat (first | (with_reducible first | exact HB.out | apply below_alloc | apply pw_below_drewN | apply below_drew1 | refine below_set ?_ GE430.out | refine below_set ?_ GE435.out) | exact HB.out)) hb); clear BK430; clear BK435; clear HB; have BK430 := n0_; have BK435 := n1_; have HB := n2_; clear n0_ n1_ n2_; (try clear hb); (try clear hb2); (try clear hk); (try clear hi); have hnb50 := NB435_430.out; have hnc50 := NB430_435.out; have hcz51_0 : w49.cell? ⟨gb435, 0, none⟩ = some (.int .i64 t433) := (blk_cell BK435.out 0).trans rfl; have hcz51_1 : w49.cell? ⟨gb435, 1, none⟩ = some (.int .i64 t434) := (blk_cell BK435.out 1).trans rfl; have hcz51_2 : w49.cell? ⟨gb435, 2, none⟩ = some (.int .i64 x436002_19) := (blk_cell BK435.out 2).trans rfl; have hcz51_3 : w49.cell? ⟨gb435, 3, none⟩ = some (.int .i64 0) := (blk_cell BK435.out 3).trans rfl; have hcz51_4 : w49.cell? ⟨gb435, 4, none⟩ = some (.string (⟨#[]⟩ : ByteArray)) := (blk_cell BK435.out 4).trans rfl; have hfz51_0 := blk_frozen BK435.out 0; have hfz51_1 := blk_frozen BK435.out 1; have hfz51_2 := blk_frozen BK435.out 2; have hfz51_3 := blk_frozen BK435.out 3; have hfz51_4 := blk_frozen BK435.out 4) | ((with_reducible refine gate_callee (f := 73) rfl ?_); refine goesL_ (some 54) rfl rfl Try.func73 (by kernel_rfl) rfl #[.string (x4_19.extract 2 4)] rfl (by (try simp only [List.map_toArray, List.map_cons, List.map_nil]); first | done | rfl | (simp only [List.length_drop, List.length_take]; rfl)) ?_; (with_reducible refine (frame_value.calls kj19 (x4_19.extract 2 4) t439 _ A47.out).mono ?_); rintro e w52 ⟨rfl, hb⟩; refine ⟨_, rfl, ?_⟩; have n0_ := Aside0.mk (blk_below (g := gb430) (o := .cells #[.int .i64 0, .int .i64 0, .int .i64 0, .int .i64 0, .string (⟨#[]⟩ : ByteArray)] 37 (0, 0)) (by (with_reducible repeat (first | refine blk_drewN ?_ _ | refine blk_drew ?_ | refine blk_alloc ?_ _)); refine blk_far ?_ NB430_435.out _; (with_reducible repeat (first | refine blk_drewN ?_ _ | refine blk_drew ?_ | refine blk_alloc ?_ _)); exact BK430.out) hb); have n1_ := Aside0.mk (blk_below (g := gb435) (o := .cells #[.int .i64 t433, .int .i64 t434, .int .i64 x436002_19, .int .i64 t438, .string (⟨#[]⟩ : ByteArray)] 37 (0, 0)) (by (with_reducible repeat (first | refine blk_drewN ?_ _ | refine blk_drew ?_ | refine blk_alloc ?_ _)); refine blk_put (cs := #[.int .i64 t433, .int .i64 t434, .int .i64 x436002_19, .int .i64 0, .string (⟨#[]⟩ : ByteArray)]) ?_ 3 _ rfl; (with_reducible repeat (first | refine blk_drewN ?_ _ | refine blk_drew ?_ | refine blk_alloc ?_ _)); exact BK435.out) hb); have n2_ := Aside0.mk (below_step (by repeat (first | (with_reducible first | exact HB.out | apply below_alloc | apply pw_below_drewN | apply below_drew1 | refine below_set ?_ GE430.out | refine below_set ?_ GE435.out) | exact HB.out)) hb); clear BK430; clear BK435; clear HB; have BK430 := n0_; have BK435 := n1_; have HB := n2_; clear n0_ n1_ n2_; (try clear hb); (try clear hb2); (try clear hk); (try clear hi); have hcz53_0 : w52.cell? ⟨gb430, 0, none⟩ = some (.int .i64 0) := (blk_cell BK430.out 0).trans rfl; have hcz53_1 : w52.cell? ⟨gb430, 1, none⟩ = some (.int .i64 0) := (blk_cell BK430.out 1).trans rfl; have hcz53_2 : w52.cell? ⟨gb430, 2, none⟩ = some (.int .i64 0) := (blk_cell BK430.out 2).trans rfl; have hcz53_3 : w52.cell? ⟨gb430, 3, none⟩ = some (.int .i64 0) := (blk_cell BK430.out 3).trans rfl; have hcz53_4 : w52.cell? ⟨gb430, 4, none⟩ = some (.string (⟨#[]⟩ : ByteArray)) := (blk_cell BK430.out 4).trans rfl; have hfz53_0 := blk_frozen BK430.out 0; have hfz53_1 := blk_frozen BK430.out 1; have hfz53_2 := blk_frozen BK430.out 2; have hfz53_3 := blk_frozen BK430.out 3; have hfz53_4 := blk_frozen BK430.out 4))
                                  refine bodyPost_ret (results_ct rfl _ _ gb430 37 #[.int .i64 0, .int .i64 0, .int .i64 0, .int .i64 0, .string (⟨#[]⟩ : ByteArray)] (0, 0) _ rfl (by (with_reducible repeat (first | refine blk_drewN ?_ _ | refine blk_drew ?_ | refine blk_alloc ?_ _)); refine blk_put (cs := #[.int .i64 0, .int .i64 0, .int .i64 0, .int .i64 0, .string (⟨#[]⟩ : ByteArray)]) ?_ 4 _ rfl; (with_reducible repeat (first | refine blk_drewN ?_ _ | refine blk_drew ?_ | refine blk_alloc ?_ _)); refine blk_put (cs := #[.int .i64 0, .int .i64 0, .int .i64 0, .int .i64 0, .string (⟨#[]⟩ : ByteArray)]) ?_ 3 _ rfl; (with_reducible repeat (first | refine blk_drewN ?_ _ | refine blk_drew ?_ | refine blk_alloc ?_ _)); refine blk_put (cs := #[.int .i64 0, .int .i64 0, .int .i64 0, .int .i64 0, .string (⟨#[]⟩ : ByteArray)]) ?_ 2 _ rfl; (with_reducible repeat (first | refine blk_drewN ?_ _ | refine blk_drew ?_ | refine blk_alloc ?_ _)); refine blk_put (cs := #[.int .i64 0, .int .i64 0, .int .i64 0, .int .i64 0, .string (⟨#[]⟩ : ByteArray)]) ?_ 1 _ rfl; (with_reducible repeat (first | refine blk_drewN ?_ _ | refine blk_drew ?_ | refine blk_alloc ?_ _)); refine blk_put (cs := #[.int .i64 0, .int .i64 0, .int .i64 0, .int .i64 0, .string (⟨#[]⟩ : ByteArray)]) ?_ 0 _ rfl; (with_reducible repeat (first | refine blk_drewN ?_ _ | refine blk_drew ?_ | refine blk_alloc ?_ _)); exact BK430.out) Try.underlying37 rfl (by kernel_rfl)) rfl ?_
                                  exact ⟨by first | rfl | (simp [errW_none, errW_some] <;> rfl) | (simp [*, errW_none, errW_some] <;> rfl), by repeat (first | (with_reducible first | exact HB.out | apply below_alloc | apply pw_below_drewN | apply below_drew1 | refine below_set ?_ GE430.out | refine below_set ?_ GE435.out) | exact HB.out)⟩
                                · rw [if_neg c48] at H
                                  have c48b0 : decide ((wrap64 ((x4_19.size : Int) - 4)) < t439) = false := decide_eq_false c48
                                  clear c48
                                  by_cases c54 : 4 ≤ (wrap64 (4 + t439))
                                  · rw [if_pos c54] at H
                                    have c54b0 := eq_true c54
                                    try (have c54b0q := c54b0; simp only [ByteArray.size_append, ByteArray.size_extract, Nat.min_self, Nat.sub_zero, Int.natCast_add] at c54b0q)
                                    have c54b1 : decide (4 ≤ (wrap64 (4 + t439))) = true := decide_eq_true c54
                                    by_cases c55 : (wrap64 (4 + t439)) ≤ (x4_19.size : Int)
                                    · rw [if_pos c55] at H
                                      have c55b0 := eq_true c55
                                      try (have c55b0q := c55b0; simp only [ByteArray.size_append, ByteArray.size_extract, Nat.min_self, Nat.sub_zero, Int.natCast_add] at c55b0q)
                                      have c55b1 : decide ((wrap64 (4 + t439)) ≤ (x4_19.size : Int)) = true := decide_eq_true c55
                                      replace H := Option.bind_eq_some_iff.mp H
                                      obtain ⟨⟨t440, t441⟩, A560, H⟩ := H
                                      replace H : (if t441 = 0 then (if t440.toList = a0.toList then (some (t433, t434, x436002_19, t438, x4_19.extract 4 ((wrap64 (4 + t439)) : Int).toNat, 0)) else (some (0, 0, 0, 0, (⟨#[]⟩ : ByteArray), 3))) else (some (0, 0, 0, 0, (⟨#[]⟩ : ByteArray), 3))) = some (r1, r2, r3, r4, r5, r6) := H
                                      have A56 := Aside0.mk A560
                                      clear A560
                                      by_cases c57 : t441 = 0
                                      · rw [if_pos c57] at H
                                        have c57b0 : (t441 == 0) = true := beq_iff_eq.mpr c57
                                        have c57b1 : (t441 != 0) = false := bne_eq_false_iff_eq.mpr c57
                                        clear c57
                                        by_cases c58 : t440.toList = a0.toList
                                        · rw [if_pos c58] at H
                                          have c58b0 : (t440.toList == a0.toList) = true := beq_iff_eq.mpr c58
                                          have c58b1 : (t440.toList != a0.toList) = false := bne_eq_false_iff_eq.mpr c58
                                          clear c58
                                          simp only [Option.some.injEq, Prod.mk.injEq] at H
                                          obtain ⟨rfl, rfl, rfl, rfl, rfl, rfl⟩ := H
                                          go_wp2_with (first | ((with_reducible refine gate_callee (f := 73) rfl ?_); refine goesL_ (some 50) rfl rfl Try.func73 (by kernel_rfl) rfl #[.string (x4_19.extract 0 2)] rfl (by (try simp only [List.map_toArray, List.map_cons, List.map_nil]); first | done | rfl | (simp only [List.length_drop, List.length_take]; rfl)) ?_; (with_reducible refine (frame_value.calls kj19 (x4_19.extract 0 2) t438 _ A44.out).mono ?_); rintro e w59 ⟨rfl, hb⟩; refine ⟨_, rfl, ?_⟩; have n0_ := Aside0.mk (blk_below (g := gb430) (o := .cells #[.int .i64 0, .int .i64 0, .int .i64 0, .int .i64 0, .string (⟨#[]⟩ : ByteArray)] 37 (0, 0)) (by (with_reducible repeat (first | refine blk_drewN ?_ _ | refine blk_drew ?_ | refine blk_alloc ?_ _)); exact BK430.out) hb); have n1_ := Aside0.mk (blk_below (g := gb435) (o := .cells #[.int .i64 t433, .int .i64 t434, .int .i64 x436002_19, .int .i64 0, .string (⟨#[]⟩ : ByteArray)] 37 (0, 0)) (by (with_reducible repeat (first | refine blk_drewN ?_ _ | refine blk_drew ?_ | refine blk_alloc ?_ _)); exact BK435.out) hb); have n2_ := Aside0.mk (below_step (by repeat (first | (with_reducible first | exact HB.out | apply below_alloc | apply pw_below_drewN | apply below_drew1 | refine below_set ?_ GE430.out | refine below_set ?_ GE435.out) | exact HB.out)) hb); clear BK430; clear BK435; clear HB; have BK430 := n0_; have BK435 := n1_; have HB := n2_; clear n0_ n1_ n2_; (try clear hb); (try clear hb2); (try clear hk); (try clear hi); have hnb60 := NB435_430.out; have hnc60 := NB430_435.out; have hcz61_0 : w59.cell? ⟨gb435, 0, none⟩ = some (.int .i64 t433) := (blk_cell BK435.out 0).trans rfl; have hcz61_1 : w59.cell? ⟨gb435, 1, none⟩ = some (.int .i64 t434) := (blk_cell BK435.out 1).trans rfl; have hcz61_2 : w59.cell? ⟨gb435, 2, none⟩ = some (.int .i64 x436002_19) := (blk_cell BK435.out 2).trans rfl; have hcz61_3 : w59.cell? ⟨gb435, 3, none⟩ = some (.int .i64 0) := (blk_cell BK435.out 3).trans rfl; have hcz61_4 : w59.cell? ⟨gb435, 4, none⟩ = some (.string (⟨#[]⟩ : ByteArray)) := (blk_cell BK435.out 4).trans rfl; have hfz61_0 := blk_frozen BK435.out 0; have hfz61_1 := blk_frozen BK435.out 1; have hfz61_2 := blk_frozen BK435.out 2; have hfz61_3 := blk_frozen BK435.out 3; have hfz61_4 := blk_frozen BK435.out 4) | ((with_reducible refine gate_callee (f := 73) rfl ?_); refine goesL_ (some 54) rfl rfl Try.func73 (by kernel_rfl) rfl #[.string (x4_19.extract 2 4)] rfl (by (try simp only [List.map_toArray, List.map_cons, List.map_nil]); first | done | rfl | (simp only [List.length_drop, List.length_take]; rfl)) ?_; (with_reducible refine (frame_value.calls kj19 (x4_19.extract 2 4) t439 _ A47.out).mono ?_); rintro e w62 ⟨rfl, hb⟩; refine ⟨_, rfl, ?_⟩; have n0_ := Aside0.mk (blk_below (g := gb430) (o := .cells #[.int .i64 0, .int .i64 0, .int .i64 0, .int .i64 0, .string (⟨#[]⟩ : ByteArray)] 37 (0, 0)) (by (with_reducible repeat (first | refine blk_drewN ?_ _ | refine blk_drew ?_ | refine blk_alloc ?_ _)); refine blk_far ?_ NB430_435.out _; (with_reducible repeat (first | refine blk_drewN ?_ _ | refine blk_drew ?_ | refine blk_alloc ?_ _)); exact BK430.out) hb); have n1_ := Aside0.mk (blk_below (g := gb435) (o := .cells #[.int .i64 t433, .int .i64 t434, .int .i64 x436002_19, .int .i64 t438, .string (⟨#[]⟩ : ByteArray)] 37 (0, 0)) (by (with_reducible repeat (first | refine blk_drewN ?_ _ | refine blk_drew ?_ | refine blk_alloc ?_ _)); refine blk_put (cs := #[.int .i64 t433, .int .i64 t434, .int .i64 x436002_19, .int .i64 0, .string (⟨#[]⟩ : ByteArray)]) ?_ 3 _ rfl; (with_reducible repeat (first | refine blk_drewN ?_ _ | refine blk_drew ?_ | refine blk_alloc ?_ _)); exact BK435.out) hb); have n2_ := Aside0.mk (below_step (by repeat (first | (with_reducible first | exact HB.out | apply below_alloc | apply pw_below_drewN | apply below_drew1 | refine below_set ?_ GE430.out | refine below_set ?_ GE435.out) | exact HB.out)) hb); clear BK430; clear BK435; clear HB; have BK430 := n0_; have BK435 := n1_; have HB := n2_; clear n0_ n1_ n2_; (try clear hb); (try clear hb2); (try clear hk); (try clear hi); have hcz63_0 : w62.cell? ⟨gb435, 0, none⟩ = some (.int .i64 t433) := (blk_cell BK435.out 0).trans rfl; have hcz63_1 : w62.cell? ⟨gb435, 1, none⟩ = some (.int .i64 t434) := (blk_cell BK435.out 1).trans rfl; have hcz63_2 : w62.cell? ⟨gb435, 2, none⟩ = some (.int .i64 x436002_19) := (blk_cell BK435.out 2).trans rfl; have hcz63_3 : w62.cell? ⟨gb435, 3, none⟩ = some (.int .i64 t438) := (blk_cell BK435.out 3).trans rfl; have hcz63_4 : w62.cell? ⟨gb435, 4, none⟩ = some (.string (⟨#[]⟩ : ByteArray)) := (blk_cell BK435.out 4).trans rfl; have hfz63_0 := blk_frozen BK435.out 0; have hfz63_1 := blk_frozen BK435.out 1; have hfz63_2 := blk_frozen BK435.out 2; have hfz63_3 := blk_frozen BK435.out 3; have hfz63_4 := blk_frozen BK435.out 4) | ((with_reducible refine gate_callee (f := 31) rfl ?_); refine goesL_ (some 68) rfl rfl Try.func31 (by kernel_rfl) rfl #[.agg #[.int .i64 t433, .int .i64 t434, .int .i64 x436002_19, .int .i64 t438, .string (x4_19.extract 4 ((wrap64 (4 + t439)) : Int).toNat)]] rfl (by (try simp only [List.map_toArray, List.map_cons, List.map_nil]); first | done | rfl | (simp only [List.length_drop, List.length_take]; rfl)) ?_; (with_reducible refine (frame_Encode.calls kj19 t433 t434 x436002_19 t438 (x4_19.extract 4 ((wrap64 (4 + t439)) : Int).toNat) t440 t441 _ A56.out).mono ?_); rintro e w64 ⟨rfl, hb⟩; refine ⟨_, rfl, ?_⟩; have n0_ := Aside0.mk (blk_below (g := gb430) (o := .cells #[.int .i64 0, .int .i64 0, .int .i64 0, .int .i64 0, .string (⟨#[]⟩ : ByteArray)] 37 (0, 0)) (by (with_reducible repeat (first | refine blk_drewN ?_ _ | refine blk_drew ?_ | refine blk_alloc ?_ _)); refine blk_far ?_ NB430_435.out _; (with_reducible repeat (first | refine blk_drewN ?_ _ | refine blk_drew ?_ | refine blk_alloc ?_ _)); exact BK430.out) hb); have n1_ := Aside0.mk (blk_below (g := gb435) (o := .cells #[.int .i64 t433, .int .i64 t434, .int .i64 x436002_19, .int .i64 t438, .string (x4_19.extract 4 ((wrap64 (4 + t439)) : Int).toNat)] 37 (0, 0)) (by (with_reducible repeat (first | refine blk_drewN ?_ _ | refine blk_drew ?_ | refine blk_alloc ?_ _)); refine blk_put (cs := #[.int .i64 t433, .int .i64 t434, .int .i64 x436002_19, .int .i64 t438, .string (⟨#[]⟩ : ByteArray)]) ?_ 4 _ rfl; (with_reducible repeat (first | refine blk_drewN ?_ _ | refine blk_drew ?_ | refine blk_alloc ?_ _)); exact BK435.out) hb); have n2_ := Aside0.mk (below_step (by repeat (first | (with_reducible first | exact HB.out | apply below_alloc | apply pw_below_drewN | apply below_drew1 | refine below_set ?_ GE430.out | refine below_set ?_ GE435.out) | exact HB.out)) hb); clear BK430; clear BK435; clear HB; have BK430 := n0_; have BK435 := n1_; have HB := n2_; clear n0_ n1_ n2_; (try clear hb); (try clear hb2); (try clear hk); (try clear hi); have hcz65_0 : w64.cell? ⟨gb435, 0, none⟩ = some (.int .i64 t433) := (blk_cell BK435.out 0).trans rfl; have hcz65_1 : w64.cell? ⟨gb435, 1, none⟩ = some (.int .i64 t434) := (blk_cell BK435.out 1).trans rfl; have hcz65_2 : w64.cell? ⟨gb435, 2, none⟩ = some (.int .i64 x436002_19) := (blk_cell BK435.out 2).trans rfl; have hcz65_3 : w64.cell? ⟨gb435, 3, none⟩ = some (.int .i64 t438) := (blk_cell BK435.out 3).trans rfl; have hcz65_4 : w64.cell? ⟨gb435, 4, none⟩ = some (.string (x4_19.extract 4 ((wrap64 (4 + t439)) : Int).toNat)) := (blk_cell BK435.out 4).trans rfl; have hfz65_0 := blk_frozen BK435.out 0; have hfz65_1 := blk_frozen BK435.out 1; have hfz65_2 := blk_frozen BK435.out 2; have hfz65_3 := blk_frozen BK435.out 3; have hfz65_4 := blk_frozen BK435.out 4; have hcz66_0 : w64.cell? ⟨gb430, 0, none⟩ = some (.int .i64 0) := (blk_cell BK430.out 0).trans rfl; have hcz66_1 : w64.cell? ⟨gb430, 1, none⟩ = some (.int .i64 0) := (blk_cell BK430.out 1).trans rfl; have hcz66_2 : w64.cell? ⟨gb430, 2, none⟩ = some (.int .i64 0) := (blk_cell BK430.out 2).trans rfl; have hcz66_3 : w64.cell? ⟨gb430, 3, none⟩ = some (.int .i64 0) := (blk_cell BK430.out 3).trans rfl; have hcz66_4 : w64.cell? ⟨gb430, 4, none⟩ = some (.string (⟨#[]⟩ : ByteArray)) := (blk_cell BK430.out 4).trans rfl; have hfz66_0 := blk_frozen BK430.out 0; have hfz66_1 := blk_frozen BK430.out 1; have hfz66_2 := blk_frozen BK430.out 2; have hfz66_3 := blk_frozen BK430.out 3; have hfz66_4 := blk_frozen BK430.out 4))
                                          refine bodyPost_ret (results_ct rfl _ _ gb430 37 #[.int .i64 t433, .int .i64 t434, .int .i64 x436002_19, .int .i64 t438, .string (x4_19.extract 4 ((wrap64 (4 + t439)) : Int).toNat)] (0, 0) _ rfl (by (with_reducible repeat (first | refine blk_drewN ?_ _ | refine blk_drew ?_ | refine blk_alloc ?_ _)); refine blk_put (cs := #[.int .i64 t433, .int .i64 t434, .int .i64 x436002_19, .int .i64 t438, .string (⟨#[]⟩ : ByteArray)]) ?_ 4 _ rfl; (with_reducible repeat (first | refine blk_drewN ?_ _ | refine blk_drew ?_ | refine blk_alloc ?_ _)); refine blk_put (cs := #[.int .i64 t433, .int .i64 t434, .int .i64 x436002_19, .int .i64 0, .string (⟨#[]⟩ : ByteArray)]) ?_ 3 _ rfl; (with_reducible repeat (first | refine blk_drewN ?_ _ | refine blk_drew ?_ | refine blk_alloc ?_ _)); refine blk_put (cs := #[.int .i64 t433, .int .i64 t434, .int .i64 0, .int .i64 0, .string (⟨#[]⟩ : ByteArray)]) ?_ 2 _ rfl; (with_reducible repeat (first | refine blk_drewN ?_ _ | refine blk_drew ?_ | refine blk_alloc ?_ _)); refine blk_put (cs := #[.int .i64 t433, .int .i64 0, .int .i64 0, .int .i64 0, .string (⟨#[]⟩ : ByteArray)]) ?_ 1 _ rfl; (with_reducible repeat (first | refine blk_drewN ?_ _ | refine blk_drew ?_ | refine blk_alloc ?_ _)); refine blk_put (cs := #[.int .i64 0, .int .i64 0, .int .i64 0, .int .i64 0, .string (⟨#[]⟩ : ByteArray)]) ?_ 0 _ rfl; (with_reducible repeat (first | refine blk_drewN ?_ _ | refine blk_drew ?_ | refine blk_alloc ?_ _)); exact BK430.out) Try.underlying37 rfl (by kernel_rfl)) rfl ?_
                                          exact ⟨by first | rfl | (simp [errW_none, errW_some] <;> rfl) | (simp [*, errW_none, errW_some] <;> rfl), by repeat (first | (with_reducible first | exact HB.out | apply below_alloc | apply pw_below_drewN | apply below_drew1 | refine below_set ?_ GE430.out | refine below_set ?_ GE435.out) | exact HB.out)⟩
                                        · rw [if_neg c58] at H
                                          have c58b0 : (t440.toList == a0.toList) = false := beq_eq_false_iff_ne.mpr c58
                                          have c58b1 : (t440.toList != a0.toList) = true := bne_iff_ne.mpr c58
                                          simp only [Option.some.injEq, Prod.mk.injEq] at H
                                          obtain ⟨rfl, rfl, rfl, rfl, rfl, rfl⟩ := H
                                          go_wp2_with (first | ((with_reducible refine gate_callee (f := 73) rfl ?_); refine goesL_ (some 50) rfl rfl Try.func73 (by kernel_rfl) rfl #[.string (x4_19.extract 0 2)] rfl (by (try simp only [List.map_toArray, List.map_cons, List.map_nil]); first | done | rfl | (simp only [List.length_drop, List.length_take]; rfl)) ?_; (with_reducible refine (frame_value.calls kj19 (x4_19.extract 0 2) t438 _ A44.out).mono ?_); rintro e w67 ⟨rfl, hb⟩; refine ⟨_, rfl, ?_⟩; have n0_ := Aside0.mk (blk_below (g := gb430) (o := .cells #[.int .i64 0, .int .i64 0, .int .i64 0, .int .i64 0, .string (⟨#[]⟩ : ByteArray)] 37 (0, 0)) (by (with_reducible repeat (first | refine blk_drewN ?_ _ | refine blk_drew ?_ | refine blk_alloc ?_ _)); exact BK430.out) hb); have n1_ := Aside0.mk (blk_below (g := gb435) (o := .cells #[.int .i64 t433, .int .i64 t434, .int .i64 x436002_19, .int .i64 0, .string (⟨#[]⟩ : ByteArray)] 37 (0, 0)) (by (with_reducible repeat (first | refine blk_drewN ?_ _ | refine blk_drew ?_ | refine blk_alloc ?_ _)); exact BK435.out) hb); have n2_ := Aside0.mk (below_step (by repeat (first | (with_reducible first | exact HB.out | apply below_alloc | apply pw_below_drewN | apply below_drew1 | refine below_set ?_ GE430.out | refine below_set ?_ GE435.out) | exact HB.out)) hb); clear BK430; clear BK435; clear HB; have BK430 := n0_; have BK435 := n1_; have HB := n2_; clear n0_ n1_ n2_; (try clear hb); (try clear hb2); (try clear hk); (try clear hi); have hnb68 := NB435_430.out; have hnc68 := NB430_435.out; have hcz69_0 : w67.cell? ⟨gb435, 0, none⟩ = some (.int .i64 t433) := (blk_cell BK435.out 0).trans rfl; have hcz69_1 : w67.cell? ⟨gb435, 1, none⟩ = some (.int .i64 t434) := (blk_cell BK435.out 1).trans rfl; have hcz69_2 : w67.cell? ⟨gb435, 2, none⟩ = some (.int .i64 x436002_19) := (blk_cell BK435.out 2).trans rfl; have hcz69_3 : w67.cell? ⟨gb435, 3, none⟩ = some (.int .i64 0) := (blk_cell BK435.out 3).trans rfl; have hcz69_4 : w67.cell? ⟨gb435, 4, none⟩ = some (.string (⟨#[]⟩ : ByteArray)) := (blk_cell BK435.out 4).trans rfl; have hfz69_0 := blk_frozen BK435.out 0; have hfz69_1 := blk_frozen BK435.out 1; have hfz69_2 := blk_frozen BK435.out 2; have hfz69_3 := blk_frozen BK435.out 3; have hfz69_4 := blk_frozen BK435.out 4) | ((with_reducible refine gate_callee (f := 73) rfl ?_); refine goesL_ (some 54) rfl rfl Try.func73 (by kernel_rfl) rfl #[.string (x4_19.extract 2 4)] rfl (by (try simp only [List.map_toArray, List.map_cons, List.map_nil]); first | done | rfl | (simp only [List.length_drop, List.length_take]; rfl)) ?_; (with_reducible refine (frame_value.calls kj19 (x4_19.extract 2 4) t439 _ A47.out).mono ?_); rintro e w70 ⟨rfl, hb⟩; refine ⟨_, rfl, ?_⟩; have n0_ := Aside0.mk (blk_below (g := gb430) (o := .cells #[.int .i64 0, .int .i64 0, .int .i64 0, .int .i64 0, .string (⟨#[]⟩ : ByteArray)] 37 (0, 0)) (by (with_reducible repeat (first | refine blk_drewN ?_ _ | refine blk_drew ?_ | refine blk_alloc ?_ _)); refine blk_far ?_ NB430_435.out _; (with_reducible repeat (first | refine blk_drewN ?_ _ | refine blk_drew ?_ | refine blk_alloc ?_ _)); exact BK430.out) hb); have n1_ := Aside0.mk (blk_below (g := gb435) (o := .cells #[.int .i64 t433, .int .i64 t434, .int .i64 x436002_19, .int .i64 t438, .string (⟨#[]⟩ : ByteArray)] 37 (0, 0)) (by (with_reducible repeat (first | refine blk_drewN ?_ _ | refine blk_drew ?_ | refine blk_alloc ?_ _)); refine blk_put (cs := #[.int .i64 t433, .int .i64 t434, .int .i64 x436002_19, .int .i64 0, .string (⟨#[]⟩ : ByteArray)]) ?_ 3 _ rfl; (with_reducible repeat (first | refine blk_drewN ?_ _ | refine blk_drew ?_ | refine blk_alloc ?_ _)); exact BK435.out) hb); have n2_ := Aside0.mk (below_step (by repeat (first | (with_reducible first | exact HB.out | apply below_alloc | apply pw_below_drewN | apply below_drew1 | refine below_set ?_ GE430.out | refine below_set ?_ GE435.out) | exact HB.out)) hb); clear BK430; clear BK435; clear HB; have BK430 := n0_; have BK435 := n1_; have HB := n2_; clear n0_ n1_ n2_; (try clear hb); (try clear hb2); (try clear hk); (try clear hi); have hcz71_0 : w70.cell? ⟨gb435, 0, none⟩ = some (.int .i64 t433) := (blk_cell BK435.out 0).trans rfl; have hcz71_1 : w70.cell? ⟨gb435, 1, none⟩ = some (.int .i64 t434) := (blk_cell BK435.out 1).trans rfl; have hcz71_2 : w70.cell? ⟨gb435, 2, none⟩ = some (.int .i64 x436002_19) := (blk_cell BK435.out 2).trans rfl; have hcz71_3 : w70.cell? ⟨gb435, 3, none⟩ = some (.int .i64 t438) := (blk_cell BK435.out 3).trans rfl; have hcz71_4 : w70.cell? ⟨gb435, 4, none⟩ = some (.string (⟨#[]⟩ : ByteArray)) := (blk_cell BK435.out 4).trans rfl; have hfz71_0 := blk_frozen BK435.out 0; have hfz71_1 := blk_frozen BK435.out 1; have hfz71_2 := blk_frozen BK435.out 2; have hfz71_3 := blk_frozen BK435.out 3; have hfz71_4 := blk_frozen BK435.out 4) | ((with_reducible refine gate_callee (f := 31) rfl ?_); refine goesL_ (some 68) rfl rfl Try.func31 (by kernel_rfl) rfl #[.agg #[.int .i64 t433, .int .i64 t434, .int .i64 x436002_19, .int .i64 t438, .string (x4_19.extract 4 ((wrap64 (4 + t439)) : Int).toNat)]] rfl (by (try simp only [List.map_toArray, List.map_cons, List.map_nil]); first | done | rfl | (simp only [List.length_drop, List.length_take]; rfl)) ?_; (with_reducible refine (frame_Encode.calls kj19 t433 t434 x436002_19 t438 (x4_19.extract 4 ((wrap64 (4 + t439)) : Int).toNat) t440 t441 _ A56.out).mono ?_); rintro e w72 ⟨rfl, hb⟩; refine ⟨_, rfl, ?_⟩; have n0_ := Aside0.mk (blk_below (g := gb430) (o := .cells #[.int .i64 0, .int .i64 0, .int .i64 0, .int .i64 0, .string (⟨#[]⟩ : ByteArray)] 37 (0, 0)) (by (with_reducible repeat (first | refine blk_drewN ?_ _ | refine blk_drew ?_ | refine blk_alloc ?_ _)); refine blk_far ?_ NB430_435.out _; (with_reducible repeat (first | refine blk_drewN ?_ _ | refine blk_drew ?_ | refine blk_alloc ?_ _)); exact BK430.out) hb); have n1_ := Aside0.mk (blk_below (g := gb435) (o := .cells #[.int .i64 t433, .int .i64 t434, .int .i64 x436002_19, .int .i64 t438, .string (x4_19.extract 4 ((wrap64 (4 + t439)) : Int).toNat)] 37 (0, 0)) (by (with_reducible repeat (first | refine blk_drewN ?_ _ | refine blk_drew ?_ | refine blk_alloc ?_ _)); refine blk_put (cs := #[.int .i64 t433, .int .i64 t434, .int .i64 x436002_19, .int .i64 t438, .string (⟨#[]⟩ : ByteArray)]) ?_ 4 _ rfl; (with_reducible repeat (first | refine blk_drewN ?_ _ | refine blk_drew ?_ | refine blk_alloc ?_ _)); exact BK435.out) hb); have n2_ := Aside0.mk (below_step (by repeat (first | (with_reducible first | exact HB.out | apply below_alloc | apply pw_below_drewN | apply below_drew1 | refine below_set ?_ GE430.out | refine below_set ?_ GE435.out) | exact HB.out)) hb); clear BK430; clear BK435; clear HB; have BK430 := n0_; have BK435 := n1_; have HB := n2_; clear n0_ n1_ n2_; (try clear hb); (try clear hb2); (try clear hk); (try clear hi); have hcz73_0 : w72.cell? ⟨gb430, 0, none⟩ = some (.int .i64 0) := (blk_cell BK430.out 0).trans rfl; have hcz73_1 : w72.cell? ⟨gb430, 1, none⟩ = some (.int .i64 0) := (blk_cell BK430.out 1).trans rfl; have hcz73_2 : w72.cell? ⟨gb430, 2, none⟩ = some (.int .i64 0) := (blk_cell BK430.out 2).trans rfl; have hcz73_3 : w72.cell? ⟨gb430, 3, none⟩ = some (.int .i64 0) := (blk_cell BK430.out 3).trans rfl; have hcz73_4 : w72.cell? ⟨gb430, 4, none⟩ = some (.string (⟨#[]⟩ : ByteArray)) := (blk_cell BK430.out 4).trans rfl; have hfz73_0 := blk_frozen BK430.out 0; have hfz73_1 := blk_frozen BK430.out 1; have hfz73_2 := blk_frozen BK430.out 2; have hfz73_3 := blk_frozen BK430.out 3; have hfz73_4 := blk_frozen BK430.out 4))
                                          refine bodyPost_ret (results_ct rfl _ _ gb430 37 #[.int .i64 0, .int .i64 0, .int .i64 0, .int .i64 0, .string (⟨#[]⟩ : ByteArray)] (0, 0) _ rfl (by (with_reducible repeat (first | refine blk_drewN ?_ _ | refine blk_drew ?_ | refine blk_alloc ?_ _)); refine blk_put (cs := #[.int .i64 0, .int .i64 0, .int .i64 0, .int .i64 0, .string (⟨#[]⟩ : ByteArray)]) ?_ 4 _ rfl; (with_reducible repeat (first | refine blk_drewN ?_ _ | refine blk_drew ?_ | refine blk_alloc ?_ _)); refine blk_put (cs := #[.int .i64 0, .int .i64 0, .int .i64 0, .int .i64 0, .string (⟨#[]⟩ : ByteArray)]) ?_ 3 _ rfl; (with_reducible repeat (first | refine blk_drewN ?_ _ | refine blk_drew ?_ | refine blk_alloc ?_ _)); refine blk_put (cs := #[.int .i64 0, .int .i64 0, .int .i64 0, .int .i64 0, .string (⟨#[]⟩ : ByteArray)]) ?_ 2 _ rfl; (with_reducible repeat (first | refine blk_drewN ?_ _ | refine blk_drew ?_ | refine blk_alloc ?_ _)); refine blk_put (cs := #[.int .i64 0, .int .i64 0, .int .i64 0, .int .i64 0, .string (⟨#[]⟩ : ByteArray)]) ?_ 1 _ rfl; (with_reducible repeat (first | refine blk_drewN ?_ _ | refine blk_drew ?_ | refine blk_alloc ?_ _)); refine blk_put (cs := #[.int .i64 0, .int .i64 0, .int .i64 0, .int .i64 0, .string (⟨#[]⟩ : ByteArray)]) ?_ 0 _ rfl; (with_reducible repeat (first | refine blk_drewN ?_ _ | refine blk_drew ?_ | refine blk_alloc ?_ _)); exact BK430.out) Try.underlying37 rfl (by kernel_rfl)) rfl ?_
                                          exact ⟨by first | rfl | (simp [errW_none, errW_some] <;> rfl) | (simp [*, errW_none, errW_some] <;> rfl), by repeat (first | (with_reducible first | exact HB.out | apply below_alloc | apply pw_below_drewN | apply below_drew1 | refine below_set ?_ GE430.out | refine below_set ?_ GE435.out) | exact HB.out)⟩
                                      · rw [if_neg c57] at H
                                        have c57b0 : (t441 == 0) = false := beq_eq_false_iff_ne.mpr c57
                                        have c57b1 : (t441 != 0) = true := bne_iff_ne.mpr c57
                                        simp only [Option.some.injEq, Prod.mk.injEq] at H
                                        obtain ⟨rfl, rfl, rfl, rfl, rfl, rfl⟩ := H
                                        go_wp2_with (first | ((with_reducible refine gate_callee (f := 73) rfl ?_); refine goesL_ (some 50) rfl rfl Try.func73 (by kernel_rfl) rfl #[.string (x4_19.extract 0 2)] rfl (by (try simp only [List.map_toArray, List.map_cons, List.map_nil]); first | done | rfl | (simp only [List.length_drop, List.length_take]; rfl)) ?_; (with_reducible refine (frame_value.calls kj19 (x4_19.extract 0 2) t438 _ A44.out).mono ?_); rintro e w74 ⟨rfl, hb⟩; refine ⟨_, rfl, ?_⟩; have n0_ := Aside0.mk (blk_below (g := gb430) (o := .cells #[.int .i64 0, .int .i64 0, .int .i64 0, .int .i64 0, .string (⟨#[]⟩ : ByteArray)] 37 (0, 0)) (by (with_reducible repeat (first | refine blk_drewN ?_ _ | refine blk_drew ?_ | refine blk_alloc ?_ _)); exact BK430.out) hb); have n1_ := Aside0.mk (blk_below (g := gb435) (o := .cells #[.int .i64 t433, .int .i64 t434, .int .i64 x436002_19, .int .i64 0, .string (⟨#[]⟩ : ByteArray)] 37 (0, 0)) (by (with_reducible repeat (first | refine blk_drewN ?_ _ | refine blk_drew ?_ | refine blk_alloc ?_ _)); exact BK435.out) hb); have n2_ := Aside0.mk (below_step (by repeat (first | (with_reducible first | exact HB.out | apply below_alloc | apply pw_below_drewN | apply below_drew1 | refine below_set ?_ GE430.out | refine below_set ?_ GE435.out) | exact HB.out)) hb); clear BK430; clear BK435; clear HB; have BK430 := n0_; have BK435 := n1_; have HB := n2_; clear n0_ n1_ n2_; (try clear hb); (try clear hb2); (try clear hk); (try clear hi); have hnb75 := NB435_430.out; have hnc75 := NB430_435.out; have hcz76_0 : w74.cell? ⟨gb435, 0, none⟩ = some (.int .i64 t433) := (blk_cell BK435.out 0).trans rfl; have hcz76_1 : w74.cell? ⟨gb435, 1, none⟩ = some (.int .i64 t434) := (blk_cell BK435.out 1).trans rfl; have hcz76_2 : w74.cell? ⟨gb435, 2, none⟩ = some (.int .i64 x436002_19) := (blk_cell BK435.out 2).trans rfl; have hcz76_3 : w74.cell? ⟨gb435, 3, none⟩ = some (.int .i64 0) := (blk_cell BK435.out 3).trans rfl; have hcz76_4 : w74.cell? ⟨gb435, 4, none⟩ = some (.string (⟨#[]⟩ : ByteArray)) := (blk_cell BK435.out 4).trans rfl; have hfz76_0 := blk_frozen BK435.out 0; have hfz76_1 := blk_frozen BK435.out 1; have hfz76_2 := blk_frozen BK435.out 2; have hfz76_3 := blk_frozen BK435.out 3; have hfz76_4 := blk_frozen BK435.out 4) | ((with_reducible refine gate_callee (f := 73) rfl ?_); refine goesL_ (some 54) rfl rfl Try.func73 (by kernel_rfl) rfl #[.string (x4_19.extract 2 4)] rfl (by (try simp only [List.map_toArray, List.map_cons, List.map_nil]); first | done | rfl | (simp only [List.length_drop, List.length_take]; rfl)) ?_; (with_reducible refine (frame_value.calls kj19 (x4_19.extract 2 4) t439 _ A47.out).mono ?_); rintro e w77 ⟨rfl, hb⟩; refine ⟨_, rfl, ?_⟩; have n0_ := Aside0.mk (blk_below (g := gb430) (o := .cells #[.int .i64 0, .int .i64 0, .int .i64 0, .int .i64 0, .string (⟨#[]⟩ : ByteArray)] 37 (0, 0)) (by (with_reducible repeat (first | refine blk_drewN ?_ _ | refine blk_drew ?_ | refine blk_alloc ?_ _)); refine blk_far ?_ NB430_435.out _; (with_reducible repeat (first | refine blk_drewN ?_ _ | refine blk_drew ?_ | refine blk_alloc ?_ _)); exact BK430.out) hb); have n1_ := Aside0.mk (blk_below (g := gb435) (o := .cells #[.int .i64 t433, .int .i64 t434, .int .i64 x436002_19, .int .i64 t438, .string (⟨#[]⟩ : ByteArray)] 37 (0, 0)) (by (with_reducible repeat (first | refine blk_drewN ?_ _ | refine blk_drew ?_ | refine blk_alloc ?_ _)); refine blk_put (cs := #[.int .i64 t433, .int .i64 t434, .int .i64 x436002_19, .int .i64 0, .string (⟨#[]⟩ : ByteArray)]) ?_ 3 _ rfl; (with_reducible repeat (first | refine blk_drewN ?_ _ | refine blk_drew ?_ | refine blk_alloc ?_ _)); exact BK435.out) hb); have n2_ := Aside0.mk (below_step (by repeat (first | (with_reducible first | exact HB.out | apply below_alloc | apply pw_below_drewN | apply below_drew1 | refine below_set ?_ GE430.out | refine below_set ?_ GE435.out) | exact HB.out)) hb); clear BK430; clear BK435; clear HB; have BK430 := n0_; have BK435 := n1_; have HB := n2_; clear n0_ n1_ n2_; (try clear hb); (try clear hb2); (try clear hk); (try clear hi); have hcz78_0 : w77.cell? ⟨gb435, 0, none⟩ = some (.int .i64 t433) := (blk_cell BK435.out 0).trans rfl; have hcz78_1 : w77.cell? ⟨gb435, 1, none⟩ = some (.int .i64 t434) := (blk_cell BK435.out 1).trans rfl; have hcz78_2 : w77.cell? ⟨gb435, 2, none⟩ = some (.int .i64 x436002_19) := (blk_cell BK435.out 2).trans rfl; have hcz78_3 : w77.cell? ⟨gb435, 3, none⟩ = some (.int .i64 t438) := (blk_cell BK435.out 3).trans rfl; have hcz78_4 : w77.cell? ⟨gb435, 4, none⟩ = some (.string (⟨#[]⟩ : ByteArray)) := (blk_cell BK435.out 4).trans rfl; have hfz78_0 := blk_frozen BK435.out 0; have hfz78_1 := blk_frozen BK435.out 1; have hfz78_2 := blk_frozen BK435.out 2; have hfz78_3 := blk_frozen BK435.out 3; have hfz78_4 := blk_frozen BK435.out 4) | ((with_reducible refine gate_callee (f := 31) rfl ?_); refine goesL_ (some 68) rfl rfl Try.func31 (by kernel_rfl) rfl #[.agg #[.int .i64 t433, .int .i64 t434, .int .i64 x436002_19, .int .i64 t438, .string (x4_19.extract 4 ((wrap64 (4 + t439)) : Int).toNat)]] rfl (by (try simp only [List.map_toArray, List.map_cons, List.map_nil]); first | done | rfl | (simp only [List.length_drop, List.length_take]; rfl)) ?_; (with_reducible refine (frame_Encode.calls kj19 t433 t434 x436002_19 t438 (x4_19.extract 4 ((wrap64 (4 + t439)) : Int).toNat) t440 t441 _ A56.out).mono ?_); rintro e w79 ⟨rfl, hb⟩; refine ⟨_, rfl, ?_⟩; have n0_ := Aside0.mk (blk_below (g := gb430) (o := .cells #[.int .i64 0, .int .i64 0, .int .i64 0, .int .i64 0, .string (⟨#[]⟩ : ByteArray)] 37 (0, 0)) (by (with_reducible repeat (first | refine blk_drewN ?_ _ | refine blk_drew ?_ | refine blk_alloc ?_ _)); refine blk_far ?_ NB430_435.out _; (with_reducible repeat (first | refine blk_drewN ?_ _ | refine blk_drew ?_ | refine blk_alloc ?_ _)); exact BK430.out) hb); have n1_ := Aside0.mk (blk_below (g := gb435) (o := .cells #[.int .i64 t433, .int .i64 t434, .int .i64 x436002_19, .int .i64 t438, .string (x4_19.extract 4 ((wrap64 (4 + t439)) : Int).toNat)] 37 (0, 0)) (by (with_reducible repeat (first | refine blk_drewN ?_ _ | refine blk_drew ?_ | refine blk_alloc ?_ _)); refine blk_put (cs := #[.int .i64 t433, .int .i64 t434, .int .i64 x436002_19, .int .i64 t438, .string (⟨#[]⟩ : ByteArray)]) ?_ 4 _ rfl; (with_reducible repeat (first | refine blk_drewN ?_ _ | refine blk_drew ?_ | refine blk_alloc ?_ _)); exact BK435.out) hb); have n2_ := Aside0.mk (below_step (by repeat (first | (with_reducible first | exact HB.out | apply below_alloc | apply pw_below_drewN | apply below_drew1 | refine below_set ?_ GE430.out | refine below_set ?_ GE435.out) | exact HB.out)) hb); clear BK430; clear BK435; clear HB; have BK430 := n0_; have BK435 := n1_; have HB := n2_; clear n0_ n1_ n2_; (try clear hb); (try clear hb2); (try clear hk); (try clear hi); have hcz80_0 : w79.cell? ⟨gb430, 0, none⟩ = some (.int .i64 0) := (blk_cell BK430.out 0).trans rfl; have hcz80_1 : w79.cell? ⟨gb430, 1, none⟩ = some (.int .i64 0) := (blk_cell BK430.out 1).trans rfl; have hcz80_2 : w79.cell? ⟨gb430, 2, none⟩ = some (.int .i64 0) := (blk_cell BK430.out 2).trans rfl; have hcz80_3 : w79.cell? ⟨gb430, 3, none⟩ = some (.int .i64 0) := (blk_cell BK430.out 3).trans rfl; have hcz80_4 : w79.cell? ⟨gb430, 4, none⟩ = some (.string (⟨#[]⟩ : ByteArray)) := (blk_cell BK430.out 4).trans rfl; have hfz80_0 := blk_frozen BK430.out 0; have hfz80_1 := blk_frozen BK430.out 1; have hfz80_2 := blk_frozen BK430.out 2; have hfz80_3 := blk_frozen BK430.out 3; have hfz80_4 := blk_frozen BK430.out 4))
                                        refine bodyPost_ret (results_ct rfl _ _ gb430 37 #[.int .i64 0, .int .i64 0, .int .i64 0, .int .i64 0, .string (⟨#[]⟩ : ByteArray)] (0, 0) _ rfl (by (with_reducible repeat (first | refine blk_drewN ?_ _ | refine blk_drew ?_ | refine blk_alloc ?_ _)); refine blk_put (cs := #[.int .i64 0, .int .i64 0, .int .i64 0, .int .i64 0, .string (⟨#[]⟩ : ByteArray)]) ?_ 4 _ rfl; (with_reducible repeat (first | refine blk_drewN ?_ _ | refine blk_drew ?_ | refine blk_alloc ?_ _)); refine blk_put (cs := #[.int .i64 0, .int .i64 0, .int .i64 0, .int .i64 0, .string (⟨#[]⟩ : ByteArray)]) ?_ 3 _ rfl; (with_reducible repeat (first | refine blk_drewN ?_ _ | refine blk_drew ?_ | refine blk_alloc ?_ _)); refine blk_put (cs := #[.int .i64 0, .int .i64 0, .int .i64 0, .int .i64 0, .string (⟨#[]⟩ : ByteArray)]) ?_ 2 _ rfl; (with_reducible repeat (first | refine blk_drewN ?_ _ | refine blk_drew ?_ | refine blk_alloc ?_ _)); refine blk_put (cs := #[.int .i64 0, .int .i64 0, .int .i64 0, .int .i64 0, .string (⟨#[]⟩ : ByteArray)]) ?_ 1 _ rfl; (with_reducible repeat (first | refine blk_drewN ?_ _ | refine blk_drew ?_ | refine blk_alloc ?_ _)); refine blk_put (cs := #[.int .i64 0, .int .i64 0, .int .i64 0, .int .i64 0, .string (⟨#[]⟩ : ByteArray)]) ?_ 0 _ rfl; (with_reducible repeat (first | refine blk_drewN ?_ _ | refine blk_drew ?_ | refine blk_alloc ?_ _)); exact BK430.out) Try.underlying37 rfl (by kernel_rfl)) rfl ?_
                                        exact ⟨by first | rfl | (simp [errW_none, errW_some] <;> rfl) | (simp [*, errW_none, errW_some] <;> rfl), by repeat (first | (with_reducible first | exact HB.out | apply below_alloc | apply pw_below_drewN | apply below_drew1 | refine below_set ?_ GE430.out | refine below_set ?_ GE435.out) | exact HB.out)⟩
                                    · rw [if_neg c55] at H
                                      exact absurd H (by simp)
                                  · rw [if_neg c54] at H
                                    exact absurd H (by simp)
                              · rw [if_neg c46] at H
                                exact absurd H (by simp)
                            · rw [if_neg c45] at H
                              exact absurd H (by simp)
                          · rw [if_neg c43] at H
                            exact absurd H (by simp)
                        · rw [if_neg c42] at H
                          exact absurd H (by simp)
                  · rw [if_neg c18] at H
                    exact absurd H (by simp)
                · rw [if_neg c17] at H
                  exact absurd H (by simp)
              · rw [if_neg c14] at H
                exact absurd H (by simp)
            · rw [if_neg c13] at H
              exact absurd H (by simp)
          · rw [if_neg c11] at H
            exact absurd H (by simp)
        · rw [if_neg c10] at H
          exact absurd H (by simp)
      · rw [if_neg c9] at H
        have c9b0 : (t432 == 0) = false := beq_eq_false_iff_ne.mpr c9
        have c9b1 : (t432 != 0) = true := bne_iff_ne.mpr c9
        simp only [Option.some.injEq, Prod.mk.injEq] at H
        obtain ⟨rfl, rfl, rfl, rfl, rfl, rfl⟩ := H
        go_enter Try.func53, Try.ntmps53
        go_wp2_with (first | ((with_reducible refine gate_dst (N := 2) rfl ?_); refine box_event ?hg (N := 2) ?hd (cs := #[.int .i64 0, .int .i64 0, .int .i64 0, .int .i64 0, .string (⟨#[]⟩ : ByteArray)]) (t := 37) ?hr ?_; (case hd => rfl); (case hg => rfl); (case hr => first | (go_simp; done) | (go_simp; rfl)); intro gb430 hg w81 hbox hb; have n0_ := Aside0.mk (below_step (by repeat (first | (with_reducible first | exact HB.out | apply below_alloc | apply pw_below_drewN | apply below_drew1) | exact HB.out)) hb); have n1_ := Aside0.mk (hbox); have n2_ := Aside0.mk ((by rw [hg]; exact (below_size (by repeat (first | (with_reducible first | exact HB.out | apply below_alloc | apply pw_below_drewN | apply below_drew1) | exact HB.out))) : w.heap.size ≤ gb430)); have n3_ := Aside0.mk ((by rw [hg]; exact (below_size (by repeat (first | (with_reducible first | exact HB.out | apply below_alloc | apply pw_below_drewN | apply below_drew1) | exact HB.out))) : w.heap.size ≤ gb430)); clear HB; have HB := n0_; have BK430 := n1_; have GW430 := n2_; have GE430 := n3_; clear n0_ n1_ n2_ n3_; clear hb hbox hg) | ((with_reducible refine gate_callee (f := 72) rfl ?_); refine goesL_ (some 22) rfl rfl Try.func72 (by kernel_rfl) rfl #[.string a0] rfl (by (try simp only [List.map_toArray, List.map_cons, List.map_nil]); first | done | rfl | (simp only [List.length_drop, List.length_take]; rfl)) ?_; (with_reducible refine (crc_Open.calls a0 t431 t432 _ A8.out).mono ?_); rintro e w82 ⟨rfl, hb⟩; refine ⟨_, rfl, ?_⟩; have n0_ := Aside0.mk (blk_below (g := gb430) (o := .cells #[.int .i64 0, .int .i64 0, .int .i64 0, .int .i64 0, .string (⟨#[]⟩ : ByteArray)] 37 (0, 0)) (by (with_reducible repeat (first | refine blk_drewN ?_ _ | refine blk_drew ?_ | refine blk_alloc ?_ _)); exact BK430.out) hb); have n1_ := Aside0.mk (below_step (by repeat (first | (with_reducible first | exact HB.out | apply below_alloc | apply pw_below_drewN | apply below_drew1 | refine below_set ?_ GE430.out) | exact HB.out)) hb); clear BK430; clear HB; have BK430 := n0_; have HB := n1_; clear n0_ n1_; (try clear hb); (try clear hb2); (try clear hk); (try clear hi); have hcz83_0 : w82.cell? ⟨gb430, 0, none⟩ = some (.int .i64 0) := (blk_cell BK430.out 0).trans rfl; have hcz83_1 : w82.cell? ⟨gb430, 1, none⟩ = some (.int .i64 0) := (blk_cell BK430.out 1).trans rfl; have hcz83_2 : w82.cell? ⟨gb430, 2, none⟩ = some (.int .i64 0) := (blk_cell BK430.out 2).trans rfl; have hcz83_3 : w82.cell? ⟨gb430, 3, none⟩ = some (.int .i64 0) := (blk_cell BK430.out 3).trans rfl; have hcz83_4 : w82.cell? ⟨gb430, 4, none⟩ = some (.string (⟨#[]⟩ : ByteArray)) := (blk_cell BK430.out 4).trans rfl; have hfz83_0 := blk_frozen BK430.out 0; have hfz83_1 := blk_frozen BK430.out 1; have hfz83_2 := blk_frozen BK430.out 2; have hfz83_3 := blk_frozen BK430.out 3; have hfz83_4 := blk_frozen BK430.out 4))
        refine bodyPost_ret (results_ct rfl _ _ gb430 37 #[.int .i64 0, .int .i64 0, .int .i64 0, .int .i64 0, .string (⟨#[]⟩ : ByteArray)] (0, 0) _ rfl (by (with_reducible repeat (first | refine blk_drewN ?_ _ | refine blk_drew ?_ | refine blk_alloc ?_ _)); refine blk_put (cs := #[.int .i64 0, .int .i64 0, .int .i64 0, .int .i64 0, .string (⟨#[]⟩ : ByteArray)]) ?_ 4 _ rfl; (with_reducible repeat (first | refine blk_drewN ?_ _ | refine blk_drew ?_ | refine blk_alloc ?_ _)); refine blk_put (cs := #[.int .i64 0, .int .i64 0, .int .i64 0, .int .i64 0, .string (⟨#[]⟩ : ByteArray)]) ?_ 3 _ rfl; (with_reducible repeat (first | refine blk_drewN ?_ _ | refine blk_drew ?_ | refine blk_alloc ?_ _)); refine blk_put (cs := #[.int .i64 0, .int .i64 0, .int .i64 0, .int .i64 0, .string (⟨#[]⟩ : ByteArray)]) ?_ 2 _ rfl; (with_reducible repeat (first | refine blk_drewN ?_ _ | refine blk_drew ?_ | refine blk_alloc ?_ _)); refine blk_put (cs := #[.int .i64 0, .int .i64 0, .int .i64 0, .int .i64 0, .string (⟨#[]⟩ : ByteArray)]) ?_ 1 _ rfl; (with_reducible repeat (first | refine blk_drewN ?_ _ | refine blk_drew ?_ | refine blk_alloc ?_ _)); refine blk_put (cs := #[.int .i64 0, .int .i64 0, .int .i64 0, .int .i64 0, .string (⟨#[]⟩ : ByteArray)]) ?_ 0 _ rfl; (with_reducible repeat (first | refine blk_drewN ?_ _ | refine blk_drew ?_ | refine blk_alloc ?_ _)); exact BK430.out) Try.underlying37 rfl (by kernel_rfl)) rfl ?_
        exact ⟨by first | rfl | (simp [errW_none, errW_some] <;> rfl) | (simp [*, errW_none, errW_some] <;> rfl), by repeat (first | (with_reducible first | exact HB.out | apply below_alloc | apply pw_below_drewN | apply below_drew1 | refine below_set ?_ GE430.out) | exact HB.out)⟩

end Go.Proofs.Ytkdncfbbhbmaaaa.Q
