/- Texts of this session and of its printer, one behind the other (wip/merge.py): functions of the program as Lean functions, walks and plain lemmas for the law of this claim. -/
import Derived.Test.YtkdncfbbhbmaaaaDoorM1
import Derived.Test.YtkdncfbbhbmaaaaDoorM3
import Derived.Test.YtkdncfbbhbmaaaaDoorM2
import Derived.Laws.BitsLemmas
import Derived.Lib.Split
import Derived.Lib.SplitLaws
import Derived.Lib.CountLaws
import Derived.Lib.IndexLaws
namespace Go.Proofs.YtkdncfbbhbmaaaaDoor.Q
open Go.RowKit Go.Proofs.YtkdncfbbhbmaaaaDoorW.PrintWords Go.Proofs.YtkdncfbbhbmaaaaDoorW.PrintLast Go.Proofs.YtkdncfbbhbmaaaaDoorW.PrintMore
attribute [local go_sem] max2_int min2_int max_two min_two max_three min_three max_four min_four   -- for this text's walks alone
set_option linter.unusedVariables false
set_option linter.unusedSimpArgs false

/-! ### frame_Decode: function 13 -/
def frame_Decode.j0 : Nat → ByteArray → ByteArray → Int → Int → Int → Int → ByteArray → Option (Int × Int × Int × Int × ByteArray × Int)
  | 0, _, _, _, _, _, _, _ => none
  | k + 1, x0, x4, x179000, x179001, x179002, x179003, x179004 => if 0 ≤ 2 then (if 2 ≤ (x4.size : Int) then ((frame_value.f k (x4.extract 0 2)).bind fun t181 => (if 2 ≤ 4 then (if 4 ≤ (x4.size : Int) then ((frame_value.f k (x4.extract 2 4)).bind fun t182 => (if t182 > (wrap64 ((x4.size : Int) - 4)) then (some (0, 0, 0, 0, (⟨#[]⟩ : ByteArray), 3)) else (if 4 ≤ (wrap64 (4 + t182)) then (if (wrap64 (4 + t182)) ≤ (x4.size : Int) then ((frame_Encode.f k x179000 x179001 x179002 t181 (x4.extract 4 ((wrap64 (4 + t182)) : Int).toNat)).bind fun bt183 => (if bt183.2 = 0 then (if bt183.1.toList = x0.toList then (some (x179000, x179001, x179002, t181, x4.extract 4 ((wrap64 (4 + t182)) : Int).toNat, 0)) else (some (0, 0, 0, 0, (⟨#[]⟩ : ByteArray), 3))) else (some (0, 0, 0, 0, (⟨#[]⟩ : ByteArray), 3)))) else (none)) else (none)))) else (none)) else (none))) else (none)) else (none)
def frame_Decode.f (k : Nat) (a0 : ByteArray) : Option (Int × Int × Int × Int × ByteArray × Int) := if (a0.size : Int) < 64 then (some (0, 0, 0, 0, (⟨#[]⟩ : ByteArray), 9)) else (if (a0.size : Int) > 1524 then (some (0, 0, 0, 0, (⟨#[]⟩ : ByteArray), 2)) else ((crc_Open.f a0).bind fun bt174 => (if bt174.2 = 0 then (if 0 ≤ 6 then (if 6 ≤ (bt174.1.size : Int) then ((frame_value.f k (bt174.1.extract 0 6)).bind fun t176 => (if 6 ≤ 12 then (if 12 ≤ (bt174.1.size : Int) then ((frame_value.f k (bt174.1.extract 6 12)).bind fun t177 => (if 0 ≤ 2 then (if 2 ≤ ((bt174.1.extract 12 bt174.1.size).size : Int) then ((frame_value.f k ((bt174.1.extract 12 bt174.1.size).extract 0 2)).bind fun t179 => (if t179 = 33024 then (if 2 ≤ 4 then (if 4 ≤ ((bt174.1.extract 12 bt174.1.size).size : Int) then ((frame_value.f k ((bt174.1.extract 12 bt174.1.size).extract 2 4)).bind fun t180 => (frame_Decode.j0 k a0 ((bt174.1.extract 12 bt174.1.size).extract 4 (bt174.1.extract 12 bt174.1.size).size) t176 t177 t180 0 (⟨#[]⟩ : ByteArray))) else (none)) else (none)) else (frame_Decode.j0 k a0 (bt174.1.extract 12 bt174.1.size) t176 t177 0 0 (⟨#[]⟩ : ByteArray)))) else (none)) else (none))) else (none)) else (none))) else (none)) else (none)) else (some (0, 0, 0, 0, (⟨#[]⟩ : ByteArray), bt174.2)))))
theorem frame_Decode.mono_l : ∀ k, (∀ y0 y1 y2 y3 y4 y5 y6, LeO (frame_Decode.j0 k y0 y1 y2 y3 y4 y5 y6) (frame_Decode.j0 (k + 1) y0 y1 y2 y3 y4 y5 y6))
  | 0 => fun _ _ _ _ _ _ _ r h => by simp [frame_Decode.j0] at h
  | k + 1 => by
    have ih0 := frame_Decode.mono_l k
    · intro y0 y1 y2 y3 y4 y5 y6
      unfold frame_Decode.j0
      repeat' first
      | (with_reducible exact ih0 _ _ _ _ _ _ _)
      | (with_reducible exact frame_Encode.mono _ _ _ _ _ _)
      | (with_reducible exact frame_value.mono _ _)
      | (with_reducible exact LeO.refl _)
      | (with_reducible exact LeO.none _)
      | (with_reducible refine LeO.ite ?_ ?_)
      | (with_reducible refine LeO.bind ?_ (fun _ => ?_))
      | exact ih0 _ _ _ _ _ _ _
      | exact frame_Encode.mono _ _ _ _ _ _
      | exact frame_value.mono _ _
      | exact LeO.none _
      | refine LeO.ite ?_ ?_
      | refine LeO.bind ?_ (fun _ => ?_)
theorem frame_Decode.mono : ∀ a0 k, LeO (frame_Decode.f k a0) (frame_Decode.f (k + 1) a0) := by
  intro a0 k
  have ih0 := frame_Decode.mono_l k
  unfold frame_Decode.f
  repeat' first
      | (with_reducible exact ih0 _ _ _ _ _ _ _)
      | (with_reducible exact frame_Encode.mono _ _ _ _ _ _)
      | (with_reducible exact frame_value.mono _ _)
      | (with_reducible exact LeO.refl _)
      | (with_reducible exact LeO.none _)
      | (with_reducible refine LeO.ite ?_ ?_)
      | (with_reducible refine LeO.bind ?_ (fun _ => ?_))
      | exact ih0 _ _ _ _ _ _ _
      | exact frame_Encode.mono _ _ _ _ _ _
      | exact frame_value.mono _ _
      | exact LeO.none _
      | refine LeO.ite ?_ ?_
      | refine LeO.bind ?_ (fun _ => ?_)
def frame_Decode.T8 : Bool × List (List Nat × List Nat) := (true, [([], []), ([0], [0]), ([1], [1]), ([], []), ([3], [3]), ([4, 2], [4]), ([2, 5], [2, 5]), ([], []), ([7, 6, 5, 0, 1, 2, 3, 4, 5, 6, 7], [6, 7])])
def frame_Decode.B8 : List Nat := [0, 1, 3, 0, 8, 31, 63, 0, 255]
theorem frame_Decode.tab8 : rtab .any (opsOf Tryd.f13 8) = frame_Decode.T8 := by kernel_rfl
theorem frame_Decode.bits8 : waitsOk frame_Decode.T8.2 frame_Decode.B8 = true := by kernel_rfl
def frame_Decode.T11 : Bool × List (List Nat × List Nat) := (true, [([], []), ([0], [0]), ([1], [1]), ([], []), ([3], [3]), ([0, 1, 2], []), ([5, 2, 2, 0, 1, 2], [2, 5]), ([4, 6, 0, 1, 2, 3, 4, 5, 6], [0, 3, 4])])
def frame_Decode.B11 : List Nat := [0, 1, 3, 0, 8, 7, 39, 127]
theorem frame_Decode.tab11 : rtab .any (opsOf Tryd.f13 11) = frame_Decode.T11 := by kernel_rfl
theorem frame_Decode.bits11 : waitsOk frame_Decode.T11.2 frame_Decode.B11 = true := by kernel_rfl
set_option maxHeartbeats 8000000 in
set_option maxRecDepth 100000 in
theorem frame_Decode.calls (k : Nat) (a0 : ByteArray) (r1 : Int) (r2 : Int) (r3 : Int) (r4 : Int) (r5 : ByteArray) (r6 : Int) (w : World) (h : frame_Decode.f k a0 = some (r1, r2, r3, r4, r5, r6)) :
    Calls Tryd.prog 13 #[.string a0] w fun e w' => e = .returned (.tuple #[.agg #[.int .i64 r1, .int .i64 r2, .int .i64 r3, .int .i64 r4, .string r5], .int .i64 r6]) ∧ Below w.heap.size w w' := by
  have hu23 := Tryd.underlying23
  have HB := Aside0.mk (Below.refl w.heap.size w)
  have H : (if (a0.size : Int) < 64 then (some (0, 0, 0, 0, (⟨#[]⟩ : ByteArray), 9)) else (if (a0.size : Int) > 1524 then (some (0, 0, 0, 0, (⟨#[]⟩ : ByteArray), 2)) else ((crc_Open.f a0).bind fun bt174 => (if bt174.2 = 0 then (if 0 ≤ 6 then (if 6 ≤ (bt174.1.size : Int) then ((frame_value.f k (bt174.1.extract 0 6)).bind fun t176 => (if 6 ≤ 12 then (if 12 ≤ (bt174.1.size : Int) then ((frame_value.f k (bt174.1.extract 6 12)).bind fun t177 => (if 0 ≤ 2 then (if 2 ≤ ((bt174.1.extract 12 bt174.1.size).size : Int) then ((frame_value.f k ((bt174.1.extract 12 bt174.1.size).extract 0 2)).bind fun t179 => (if t179 = 33024 then (if 2 ≤ 4 then (if 4 ≤ ((bt174.1.extract 12 bt174.1.size).size : Int) then ((frame_value.f k ((bt174.1.extract 12 bt174.1.size).extract 2 4)).bind fun t180 => (frame_Decode.j0 k a0 ((bt174.1.extract 12 bt174.1.size).extract 4 (bt174.1.extract 12 bt174.1.size).size) t176 t177 t180 0 (⟨#[]⟩ : ByteArray))) else (none)) else (none)) else (frame_Decode.j0 k a0 (bt174.1.extract 12 bt174.1.size) t176 t177 0 0 (⟨#[]⟩ : ByteArray)))) else (none)) else (none))) else (none)) else (none))) else (none)) else (none)) else (some (0, 0, 0, 0, (⟨#[]⟩ : ByteArray), bt174.2)))))) = some (r1, r2, r3, r4, r5, r6) := h
  clear h
  by_cases c2 : (a0.size : Int) < 64
  · rw [if_pos c2] at H
    have c2b0 : decide ((a0.size : Int) < 64) = true := decide_eq_true c2
    have c2b1 : decide (a0.size < 64) = true := decide_eq_true (by omega)
    clear c2
    simp only [Option.some.injEq, Prod.mk.injEq] at H
    obtain ⟨rfl, rfl, rfl, rfl, rfl, rfl⟩ := H
    go_enter Tryd.func13, Tryd.ntmps13
    go_wp2_with (first | ((with_reducible refine gate_dst (N := 2) rfl ?_); refine box_event ?hg (N := 2) ?hd (cs := #[.int .i64 0, .int .i64 0, .int .i64 0, .int .i64 0, .string (⟨#[]⟩ : ByteArray)]) (t := 23) ?hr ?_; (case hd => rfl); (case hg => rfl); (case hr => first | (go_simp; done) | (go_simp; rfl)); intro gb173 hg w3 hbox hb; have n0_ := Aside0.mk (below_step (by repeat (first | (with_reducible first | exact HB.out | apply below_alloc | apply pw_below_drewN | apply below_drew1) | exact HB.out)) hb); have n1_ := Aside0.mk (hbox); have n2_ := Aside0.mk ((by rw [hg]; exact (below_size (by repeat (first | (with_reducible first | exact HB.out | apply below_alloc | apply pw_below_drewN | apply below_drew1) | exact HB.out))) : w.heap.size ≤ gb173)); have n3_ := Aside0.mk ((by rw [hg]; exact (below_size (by repeat (first | (with_reducible first | exact HB.out | apply below_alloc | apply pw_below_drewN | apply below_drew1) | exact HB.out))) : w.heap.size ≤ gb173)); clear HB; have HB := n0_; have BK173 := n1_; have GW173 := n2_; have GE173 := n3_; clear n0_ n1_ n2_ n3_; clear hb hbox hg; have hcz4_0 : w3.cell? ⟨gb173, 0, none⟩ = some (.int .i64 0) := (blk_cell BK173.out 0).trans rfl; have hcz4_1 : w3.cell? ⟨gb173, 1, none⟩ = some (.int .i64 0) := (blk_cell BK173.out 1).trans rfl; have hcz4_2 : w3.cell? ⟨gb173, 2, none⟩ = some (.int .i64 0) := (blk_cell BK173.out 2).trans rfl; have hcz4_3 : w3.cell? ⟨gb173, 3, none⟩ = some (.int .i64 0) := (blk_cell BK173.out 3).trans rfl; have hcz4_4 : w3.cell? ⟨gb173, 4, none⟩ = some (.string (⟨#[]⟩ : ByteArray)) := (blk_cell BK173.out 4).trans rfl; have hfz4_0 := blk_frozen BK173.out 0; have hfz4_1 := blk_frozen BK173.out 1; have hfz4_2 := blk_frozen BK173.out 2; have hfz4_3 := blk_frozen BK173.out 3; have hfz4_4 := blk_frozen BK173.out 4))
    refine bodyPost_ret (results_ct rfl _ _ gb173 23 #[.int .i64 0, .int .i64 0, .int .i64 0, .int .i64 0, .string (⟨#[]⟩ : ByteArray)] (0, 0) _ rfl (by (with_reducible repeat (first | refine blk_drewN ?_ _ | refine blk_drew ?_ | refine blk_alloc ?_ _)); refine blk_put (cs := #[.int .i64 0, .int .i64 0, .int .i64 0, .int .i64 0, .string (⟨#[]⟩ : ByteArray)]) ?_ 4 _ rfl; (with_reducible repeat (first | refine blk_drewN ?_ _ | refine blk_drew ?_ | refine blk_alloc ?_ _)); refine blk_put (cs := #[.int .i64 0, .int .i64 0, .int .i64 0, .int .i64 0, .string (⟨#[]⟩ : ByteArray)]) ?_ 3 _ rfl; (with_reducible repeat (first | refine blk_drewN ?_ _ | refine blk_drew ?_ | refine blk_alloc ?_ _)); refine blk_put (cs := #[.int .i64 0, .int .i64 0, .int .i64 0, .int .i64 0, .string (⟨#[]⟩ : ByteArray)]) ?_ 2 _ rfl; (with_reducible repeat (first | refine blk_drewN ?_ _ | refine blk_drew ?_ | refine blk_alloc ?_ _)); refine blk_put (cs := #[.int .i64 0, .int .i64 0, .int .i64 0, .int .i64 0, .string (⟨#[]⟩ : ByteArray)]) ?_ 1 _ rfl; (with_reducible repeat (first | refine blk_drewN ?_ _ | refine blk_drew ?_ | refine blk_alloc ?_ _)); refine blk_put (cs := #[.int .i64 0, .int .i64 0, .int .i64 0, .int .i64 0, .string (⟨#[]⟩ : ByteArray)]) ?_ 0 _ rfl; (with_reducible repeat (first | refine blk_drewN ?_ _ | refine blk_drew ?_ | refine blk_alloc ?_ _)); exact BK173.out) Tryd.underlying23 rfl (by kernel_rfl)) rfl ?_
    exact ⟨by first | rfl | (simp [errW_none, errW_some] <;> rfl) | (simp [*, errW_none, errW_some] <;> rfl), by repeat (first | (with_reducible first | exact HB.out | apply below_alloc | apply pw_below_drewN | apply below_drew1 | refine below_set ?_ GE173.out) | exact HB.out)⟩
  · rw [if_neg c2] at H
    have c2b0 : decide ((a0.size : Int) < 64) = false := decide_eq_false c2
    have c2b1 : decide (a0.size < 64) = false := decide_eq_false (by omega)
    clear c2
    by_cases c5 : (a0.size : Int) > 1524
    · rw [if_pos c5] at H
      have c5b0 : decide (1524 < (a0.size : Int)) = true := decide_eq_true c5
      have c5b1 : decide (1524 < a0.size) = true := decide_eq_true (by omega)
      clear c5
      simp only [Option.some.injEq, Prod.mk.injEq] at H
      obtain ⟨rfl, rfl, rfl, rfl, rfl, rfl⟩ := H
      go_enter Tryd.func13, Tryd.ntmps13
      go_wp2_with (first | ((with_reducible refine gate_dst (N := 2) rfl ?_); refine box_event ?hg (N := 2) ?hd (cs := #[.int .i64 0, .int .i64 0, .int .i64 0, .int .i64 0, .string (⟨#[]⟩ : ByteArray)]) (t := 23) ?hr ?_; (case hd => rfl); (case hg => rfl); (case hr => first | (go_simp; done) | (go_simp; rfl)); intro gb173 hg w6 hbox hb; have n0_ := Aside0.mk (below_step (by repeat (first | (with_reducible first | exact HB.out | apply below_alloc | apply pw_below_drewN | apply below_drew1) | exact HB.out)) hb); have n1_ := Aside0.mk (hbox); have n2_ := Aside0.mk ((by rw [hg]; exact (below_size (by repeat (first | (with_reducible first | exact HB.out | apply below_alloc | apply pw_below_drewN | apply below_drew1) | exact HB.out))) : w.heap.size ≤ gb173)); have n3_ := Aside0.mk ((by rw [hg]; exact (below_size (by repeat (first | (with_reducible first | exact HB.out | apply below_alloc | apply pw_below_drewN | apply below_drew1) | exact HB.out))) : w.heap.size ≤ gb173)); clear HB; have HB := n0_; have BK173 := n1_; have GW173 := n2_; have GE173 := n3_; clear n0_ n1_ n2_ n3_; clear hb hbox hg; have hcz7_0 : w6.cell? ⟨gb173, 0, none⟩ = some (.int .i64 0) := (blk_cell BK173.out 0).trans rfl; have hcz7_1 : w6.cell? ⟨gb173, 1, none⟩ = some (.int .i64 0) := (blk_cell BK173.out 1).trans rfl; have hcz7_2 : w6.cell? ⟨gb173, 2, none⟩ = some (.int .i64 0) := (blk_cell BK173.out 2).trans rfl; have hcz7_3 : w6.cell? ⟨gb173, 3, none⟩ = some (.int .i64 0) := (blk_cell BK173.out 3).trans rfl; have hcz7_4 : w6.cell? ⟨gb173, 4, none⟩ = some (.string (⟨#[]⟩ : ByteArray)) := (blk_cell BK173.out 4).trans rfl; have hfz7_0 := blk_frozen BK173.out 0; have hfz7_1 := blk_frozen BK173.out 1; have hfz7_2 := blk_frozen BK173.out 2; have hfz7_3 := blk_frozen BK173.out 3; have hfz7_4 := blk_frozen BK173.out 4))
      refine bodyPost_ret (results_ct rfl _ _ gb173 23 #[.int .i64 0, .int .i64 0, .int .i64 0, .int .i64 0, .string (⟨#[]⟩ : ByteArray)] (0, 0) _ rfl (by (with_reducible repeat (first | refine blk_drewN ?_ _ | refine blk_drew ?_ | refine blk_alloc ?_ _)); refine blk_put (cs := #[.int .i64 0, .int .i64 0, .int .i64 0, .int .i64 0, .string (⟨#[]⟩ : ByteArray)]) ?_ 4 _ rfl; (with_reducible repeat (first | refine blk_drewN ?_ _ | refine blk_drew ?_ | refine blk_alloc ?_ _)); refine blk_put (cs := #[.int .i64 0, .int .i64 0, .int .i64 0, .int .i64 0, .string (⟨#[]⟩ : ByteArray)]) ?_ 3 _ rfl; (with_reducible repeat (first | refine blk_drewN ?_ _ | refine blk_drew ?_ | refine blk_alloc ?_ _)); refine blk_put (cs := #[.int .i64 0, .int .i64 0, .int .i64 0, .int .i64 0, .string (⟨#[]⟩ : ByteArray)]) ?_ 2 _ rfl; (with_reducible repeat (first | refine blk_drewN ?_ _ | refine blk_drew ?_ | refine blk_alloc ?_ _)); refine blk_put (cs := #[.int .i64 0, .int .i64 0, .int .i64 0, .int .i64 0, .string (⟨#[]⟩ : ByteArray)]) ?_ 1 _ rfl; (with_reducible repeat (first | refine blk_drewN ?_ _ | refine blk_drew ?_ | refine blk_alloc ?_ _)); refine blk_put (cs := #[.int .i64 0, .int .i64 0, .int .i64 0, .int .i64 0, .string (⟨#[]⟩ : ByteArray)]) ?_ 0 _ rfl; (with_reducible repeat (first | refine blk_drewN ?_ _ | refine blk_drew ?_ | refine blk_alloc ?_ _)); exact BK173.out) Tryd.underlying23 rfl (by kernel_rfl)) rfl ?_
      exact ⟨by first | rfl | (simp [errW_none, errW_some] <;> rfl) | (simp [*, errW_none, errW_some] <;> rfl), by repeat (first | (with_reducible first | exact HB.out | apply below_alloc | apply pw_below_drewN | apply below_drew1 | refine below_set ?_ GE173.out) | exact HB.out)⟩
    · rw [if_neg c5] at H
      have c5b0 : decide (1524 < (a0.size : Int)) = false := decide_eq_false c5
      have c5b1 : decide (1524 < a0.size) = false := decide_eq_false (by omega)
      clear c5
      replace H := Option.bind_eq_some_iff.mp H
      obtain ⟨⟨t174, t175⟩, A80, H⟩ := H
      replace H : (if t175 = 0 then (if 0 ≤ 6 then (if 6 ≤ (t174.size : Int) then ((frame_value.f k (t174.extract 0 6)).bind fun t176 => (if 6 ≤ 12 then (if 12 ≤ (t174.size : Int) then ((frame_value.f k (t174.extract 6 12)).bind fun t177 => (if 0 ≤ 2 then (if 2 ≤ ((t174.extract 12 t174.size).size : Int) then ((frame_value.f k ((t174.extract 12 t174.size).extract 0 2)).bind fun t179 => (if t179 = 33024 then (if 2 ≤ 4 then (if 4 ≤ ((t174.extract 12 t174.size).size : Int) then ((frame_value.f k ((t174.extract 12 t174.size).extract 2 4)).bind fun t180 => (frame_Decode.j0 k a0 ((t174.extract 12 t174.size).extract 4 (t174.extract 12 t174.size).size) t176 t177 t180 0 (⟨#[]⟩ : ByteArray))) else (none)) else (none)) else (frame_Decode.j0 k a0 (t174.extract 12 t174.size) t176 t177 0 0 (⟨#[]⟩ : ByteArray)))) else (none)) else (none))) else (none)) else (none))) else (none)) else (none)) else (some (0, 0, 0, 0, (⟨#[]⟩ : ByteArray), t175))) = some (r1, r2, r3, r4, r5, r6) := H
      have A8 := Aside0.mk A80
      clear A80
      by_cases c9 : t175 = 0
      · rw [if_pos c9] at H
        have c9b0 : (t175 == 0) = true := beq_iff_eq.mpr c9
        have c9b1 : (t175 != 0) = false := bne_eq_false_iff_eq.mpr c9
        clear c9
        by_cases c10 : 0 ≤ 6
        · rw [if_pos c10] at H
          have c10b0 := eq_true c10
          try (have c10b0q := c10b0; simp only [ByteArray.size_append, ByteArray.size_extract, Nat.min_self, Nat.sub_zero, Int.natCast_add] at c10b0q)
          have c10b1 : decide (0 ≤ 6) = true := decide_eq_true c10
          clear c10
          by_cases c11 : 6 ≤ (t174.size : Int)
          · rw [if_pos c11] at H
            have c11b0 := eq_true c11
            try (have c11b0q := c11b0; simp only [ByteArray.size_append, ByteArray.size_extract, Nat.min_self, Nat.sub_zero, Int.natCast_add] at c11b0q)
            have c11b1 : decide (6 ≤ (t174.size : Int)) = true := decide_eq_true c11
            clear c11
            replace H := Option.bind_eq_some_iff.mp H
            obtain ⟨t176, A120, H⟩ := H
            replace H : (if 6 ≤ 12 then (if 12 ≤ (t174.size : Int) then ((frame_value.f k (t174.extract 6 12)).bind fun t177 => (if 0 ≤ 2 then (if 2 ≤ ((t174.extract 12 t174.size).size : Int) then ((frame_value.f k ((t174.extract 12 t174.size).extract 0 2)).bind fun t179 => (if t179 = 33024 then (if 2 ≤ 4 then (if 4 ≤ ((t174.extract 12 t174.size).size : Int) then ((frame_value.f k ((t174.extract 12 t174.size).extract 2 4)).bind fun t180 => (frame_Decode.j0 k a0 ((t174.extract 12 t174.size).extract 4 (t174.extract 12 t174.size).size) t176 t177 t180 0 (⟨#[]⟩ : ByteArray))) else (none)) else (none)) else (frame_Decode.j0 k a0 (t174.extract 12 t174.size) t176 t177 0 0 (⟨#[]⟩ : ByteArray)))) else (none)) else (none))) else (none)) else (none)) = some (r1, r2, r3, r4, r5, r6) := H
            have A12 := Aside0.mk A120
            clear A120
            by_cases c13 : 6 ≤ 12
            · rw [if_pos c13] at H
              have c13b0 := eq_true c13
              try (have c13b0q := c13b0; simp only [ByteArray.size_append, ByteArray.size_extract, Nat.min_self, Nat.sub_zero, Int.natCast_add] at c13b0q)
              have c13b1 : decide (6 ≤ 12) = true := decide_eq_true c13
              clear c13
              by_cases c14 : 12 ≤ (t174.size : Int)
              · rw [if_pos c14] at H
                have c14b0 := eq_true c14
                try (have c14b0q := c14b0; simp only [ByteArray.size_append, ByteArray.size_extract, Nat.min_self, Nat.sub_zero, Int.natCast_add] at c14b0q)
                have c14b1 : decide (12 ≤ (t174.size : Int)) = true := decide_eq_true c14
                clear c14
                replace H := Option.bind_eq_some_iff.mp H
                obtain ⟨t177, A150, H⟩ := H
                replace H : (if 0 ≤ 2 then (if 2 ≤ ((t174.extract 12 t174.size).size : Int) then ((frame_value.f k ((t174.extract 12 t174.size).extract 0 2)).bind fun t179 => (if t179 = 33024 then (if 2 ≤ 4 then (if 4 ≤ ((t174.extract 12 t174.size).size : Int) then ((frame_value.f k ((t174.extract 12 t174.size).extract 2 4)).bind fun t180 => (frame_Decode.j0 k a0 ((t174.extract 12 t174.size).extract 4 (t174.extract 12 t174.size).size) t176 t177 t180 0 (⟨#[]⟩ : ByteArray))) else (none)) else (none)) else (frame_Decode.j0 k a0 (t174.extract 12 t174.size) t176 t177 0 0 (⟨#[]⟩ : ByteArray)))) else (none)) else (none)) = some (r1, r2, r3, r4, r5, r6) := H
                have A15 := Aside0.mk A150
                clear A150
                have c16b0 := eq_true (of_decide_eq_true (by first | (with_reducible assumption) | assumption) : 12 ≤ (t174.size : Int))
                try (have c16b0q := c16b0; simp only [ByteArray.size_append, ByteArray.size_extract, Nat.min_self, Nat.sub_zero, Int.natCast_add] at c16b0q)
                by_cases c17 : 0 ≤ 2
                · rw [if_pos c17] at H
                  have c17b0 := eq_true c17
                  try (have c17b0q := c17b0; simp only [ByteArray.size_append, ByteArray.size_extract, Nat.min_self, Nat.sub_zero, Int.natCast_add] at c17b0q)
                  have c17b1 : decide (0 ≤ 2) = true := decide_eq_true c17
                  clear c17
                  by_cases c18 : 2 ≤ ((t174.extract 12 t174.size).size : Int)
                  · rw [if_pos c18] at H
                    have c18b0 := eq_true c18
                    try (have c18b0q := c18b0; simp only [ByteArray.size_append, ByteArray.size_extract, Nat.min_self, Nat.sub_zero, Int.natCast_add] at c18b0q)
                    have c18b1 : decide (2 ≤ ((t174.extract 12 t174.size).size : Int)) = true := decide_eq_true c18
                    try (have c18b1q := c18b1; simp only [ByteArray.size_append, ByteArray.size_extract, Nat.min_self, Nat.sub_zero, Int.natCast_add] at c18b1q)
                    clear c18
                    replace H := Option.bind_eq_some_iff.mp H
                    obtain ⟨t179, A190, H⟩ := H
                    replace H : (if t179 = 33024 then (if 2 ≤ 4 then (if 4 ≤ ((t174.extract 12 t174.size).size : Int) then ((frame_value.f k ((t174.extract 12 t174.size).extract 2 4)).bind fun t180 => (frame_Decode.j0 k a0 ((t174.extract 12 t174.size).extract 4 (t174.extract 12 t174.size).size) t176 t177 t180 0 (⟨#[]⟩ : ByteArray))) else (none)) else (none)) else (frame_Decode.j0 k a0 (t174.extract 12 t174.size) t176 t177 0 0 (⟨#[]⟩ : ByteArray))) = some (r1, r2, r3, r4, r5, r6) := H
                    have A19 := Aside0.mk A190
                    clear A190
                    have HC20 := Aside0.mk H
                    clear H
                    go_enter Tryd.func13, Tryd.ntmps13
                    try go_wp2_with (first | ((with_reducible refine gate_dst (N := 2) rfl ?_); refine box_event ?hg (N := 2) ?hd (cs := #[.int .i64 0, .int .i64 0, .int .i64 0, .int .i64 0, .string (⟨#[]⟩ : ByteArray)]) (t := 23) ?hr ?_; (case hd => rfl); (case hg => rfl); (case hr => first | (go_simp; done) | (go_simp; rfl)); intro gb173 hg w21 hbox hb; have n0_ := Aside0.mk (below_step (by repeat (first | (with_reducible first | exact HB.out | apply below_alloc | apply pw_below_drewN | apply below_drew1) | exact HB.out)) hb); have n1_ := Aside0.mk (hbox); have n2_ := Aside0.mk ((by rw [hg]; exact (below_size (by repeat (first | (with_reducible first | exact HB.out | apply below_alloc | apply pw_below_drewN | apply below_drew1) | exact HB.out))) : w.heap.size ≤ gb173)); have n3_ := Aside0.mk ((by rw [hg]; exact (below_size (by repeat (first | (with_reducible first | exact HB.out | apply below_alloc | apply pw_below_drewN | apply below_drew1) | exact HB.out))) : w.heap.size ≤ gb173)); clear HB; have HB := n0_; have BK173 := n1_; have GW173 := n2_; have GE173 := n3_; clear n0_ n1_ n2_ n3_; clear hb hbox hg) | ((with_reducible refine gate_callee (f := 26) rfl ?_); refine goesL_ (some 22) rfl rfl Tryd.func26 (by kernel_rfl) rfl #[.string a0] rfl (by (try simp only [List.map_toArray, List.map_cons, List.map_nil]); first | done | rfl | (simp only [List.length_drop, List.length_take]; rfl)) ?_; (with_reducible refine (crc_Open.calls a0 t174 t175 _ A8.out).mono ?_); rintro e w22 ⟨rfl, hb⟩; refine ⟨_, rfl, ?_⟩; have n0_ := Aside0.mk (blk_below (g := gb173) (o := .cells #[.int .i64 0, .int .i64 0, .int .i64 0, .int .i64 0, .string (⟨#[]⟩ : ByteArray)] 23 (0, 0)) (by (with_reducible repeat (first | refine blk_drewN ?_ _ | refine blk_drew ?_ | refine blk_alloc ?_ _)); exact BK173.out) hb); have n1_ := Aside0.mk (below_step (by repeat (first | (with_reducible first | exact HB.out | apply below_alloc | apply pw_below_drewN | apply below_drew1 | refine below_set ?_ GE173.out) | exact HB.out)) hb); clear BK173; clear HB; have BK173 := n0_; have HB := n1_; clear n0_ n1_; (try clear hb); (try clear hb2); (try clear hk); (try clear hi)))
                    have n0_ := Aside0.mk (blk_drew BK173.out)
                    have n1_ := Aside0.mk (below_drew1 HB.out)
                    clear BK173
                    clear HB
                    have BK173 := n0_
                    have HB := n1_
                    clear n0_ n1_
                    refine start_ (n := 9) (S := fun w' => True) (ds := []) #[false, false, false, false, false, false, false, false, false] (by kernel_rfl) rfl rfl trivial (fun hHeld => ?_); refine with_tabW frame_Decode.tab8 frame_Decode.bits8 (fun HT_ HW_ => ?_)
                    generalize w22.drew = w23 at BK173 HB hHeld ⊢
                    refine pure_ (i := 0) (N := some 29) (v := ?_) (a' := ?_) #[true, false, false, false, false, false, false, false, false] rfl rfl (any_of HT_.out (by kernel_rfl)) (fun _ _ _ h => h) (Or.inl ⟨by rfl, ?_⟩) ?_ ?_
                    rotate_left
                    · intro w'
                      go_simp
                      with_reducible rfl
                    rotate_left
                    · simp only [Act.put, List.setIfInBounds_toArray, List.set_cons_zero, List.set_cons_succ, i64_w, i32_w]
                      rfl
                    refine pure_ (i := 1) (N := some 30) (v := ?_) (a' := ?_) #[true, true, false, false, false, false, false, false, false] rfl rfl (any_of HT_.out (by kernel_rfl)) (fun _ _ _ h => h) (Or.inl ⟨by rfl, ?_⟩) ?_ ?_
                    rotate_left
                    · intro w'
                      go_simp
                      with_reducible rfl
                    rotate_left
                    · simp only [Act.put, List.setIfInBounds_toArray, List.set_cons_zero, List.set_cons_succ, i64_w, i32_w]
                      rfl
                    refine pure_ (i := 3) (N := some 32) (v := ?_) (a' := ?_) #[true, true, false, true, false, false, false, false, false] rfl rfl (any_of HT_.out (by kernel_rfl)) (fun _ _ _ h => h) (Or.inl ⟨by rfl, ?_⟩) ?_ ?_
                    rotate_left
                    · intro w'
                      go_simp
                      with_reducible rfl
                    rotate_left
                    · simp only [Act.put, List.setIfInBounds_toArray, List.set_cons_zero, List.set_cons_succ, i64_w, i32_w]
                      rfl
                    refine pure_ (i := 4) (N := some 33) (v := ?_) (a' := ?_) #[true, true, false, true, true, false, false, false, false] rfl rfl (any_of HT_.out (by kernel_rfl)) (fun _ _ _ h => h) (Or.inl ⟨by rfl, ?_⟩) ?_ ?_
                    rotate_left
                    · intro w'
                      go_simp
                      with_reducible rfl
                    rotate_left
                    · simp only [Act.put, List.setIfInBounds_toArray, List.set_cons_zero, List.set_cons_succ, i64_w, i32_w]
                      rfl
                    refine join_ (σ := Nat) 1 #[true, true, true, true, true, true, true, true, false] (fun s_ => [(31, .int .i64 t176), (34, .int .i64 t177), (6, .pointer (some ⟨s_, 0, none⟩)), (35, .agg #[.int .i64 t176, .int .i64 t177, .int .i64 0, .int .i64 0, .string (⟨#[]⟩ : ByteArray)])]) (fun s_ w' => (w'.heap[gb173]? = some (.cells #[.int .i64 0, .int .i64 0, .int .i64 0, .int .i64 0, .string (⟨#[]⟩ : ByteArray)] 23 (0, 0))) ∧ (w'.heap[s_]? = some (.cells #[.int .i64 0, .int .i64 0, .int .i64 0, .int .i64 0, .string (⟨#[]⟩ : ByteArray)] 23 (0, 0))) ∧ (w.heap.size ≤ s_) ∧ (w.heap.size ≤ s_) ∧ (gb173 ≠ s_) ∧ (s_ ≠ gb173) ∧ (Below w.heap.size w w')) ?_ ?_
                    rotate_left
                    · intro hCont
                      refine two_ (i := 2) (j := 7) (Ni := some 31) (Nj := some 6) #[true, true, true, true, true, false, false, false, false] #[true, true, false, true, true, false, false, true, false] rfl rfl rfl rfl (two_of HT_.out (by kernel_rfl)) (by decide) (by decide) (fun K hK => ?_) (fun K hK => ?_)
                      · skip
                        refine goes_ Tryd.func27 (by kernel_rfl) rfl #[.string (t174.extract 0 6)] (by rfl) rfl rfl (by (try simp only [List.map_toArray, List.map_cons, List.map_nil]); first | done | rfl | (simp only [List.length_drop, List.length_take]; rfl)) ?_
                        with_reducible refine (frame_value.calls k (t174.extract 0 6) t176 _ A12.out).mono ?_
                        rintro e w24 ⟨rfl, hb⟩
                        refine ⟨_, rfl, ?_⟩
                        have n0_ := Aside0.mk (blk_below (g := gb173) (o := .cells #[.int .i64 0, .int .i64 0, .int .i64 0, .int .i64 0, .string (⟨#[]⟩ : ByteArray)] 23 (0, 0)) (by (with_reducible repeat (first | refine blk_drewN ?_ _ | refine blk_drew ?_ | refine blk_alloc ?_ _)); exact BK173.out) hb)
                        have n1_ := Aside0.mk (below_step (by repeat (first | (with_reducible first | exact HB.out | apply below_alloc | apply pw_below_drewN | apply below_drew1 | refine below_set ?_ GE173.out) | exact HB.out)) hb)
                        clear BK173
                        clear HB
                        have BK173 := n0_
                        have HB := n1_
                        clear n0_ n1_
                        (try clear hb)
                        (try clear hb2)
                        (try clear hk)
                        (try clear hi)
                        refine hK.out _ _ trivial (fun hHeld => ?_)
                        clear hK K
                        refine norm_ (a' := ?_) ?_ ?_
                        rotate_left
                        · show Act.put _ (some 31) _ = _
                          simp only [Act.put, List.setIfInBounds_toArray, List.set_cons_zero, List.set_cons_succ, i64_w, i32_w]
                          rfl
                        refine two_ (i := 5) (j := 7) (Ni := some 34) (Nj := some 6) #[true, true, true, true, true, true, false, false, false] #[true, true, true, true, true, false, false, true, false] rfl rfl rfl rfl (two_of HT_.out (by kernel_rfl)) (by decide) (by decide) (fun K hK => ?_) (fun K hK => ?_)
                        · skip
                          refine goes_ Tryd.func27 (by kernel_rfl) rfl #[.string (t174.extract 6 12)] (by rfl) rfl rfl (by (try simp only [List.map_toArray, List.map_cons, List.map_nil]); first | done | rfl | (simp only [List.length_drop, List.length_take]; rfl)) ?_
                          with_reducible refine (frame_value.calls k (t174.extract 6 12) t177 _ A15.out).mono ?_
                          rintro e w25 ⟨rfl, hb⟩
                          refine ⟨_, rfl, ?_⟩
                          have n0_ := Aside0.mk (blk_below (g := gb173) (o := .cells #[.int .i64 0, .int .i64 0, .int .i64 0, .int .i64 0, .string (⟨#[]⟩ : ByteArray)] 23 (0, 0)) (by (with_reducible repeat (first | refine blk_drewN ?_ _ | refine blk_drew ?_ | refine blk_alloc ?_ _)); exact BK173.out) hb)
                          have n1_ := Aside0.mk (below_step (by repeat (first | (with_reducible first | exact HB.out | apply below_alloc | apply pw_below_drewN | apply below_drew1 | refine below_set ?_ GE173.out) | exact HB.out)) hb)
                          clear BK173
                          clear HB
                          have BK173 := n0_
                          have HB := n1_
                          clear n0_ n1_
                          (try clear hb)
                          (try clear hb2)
                          (try clear hk)
                          (try clear hi)
                          refine hK.out _ _ trivial (fun hHeld => ?_)
                          clear hK K
                          refine norm_ (a' := ?_) ?_ ?_
                          rotate_left
                          · show Act.put _ (some 34) _ = _
                            simp only [Act.put, List.setIfInBounds_toArray, List.set_cons_zero, List.set_cons_succ, i64_w, i32_w]
                            rfl
                          refine pure_ (i := 6) (N := some 35) (v := ?_) (a' := ?_) #[true, true, true, true, true, true, true, false, false] rfl rfl (any_of HT_.out (by kernel_rfl)) (fun _ _ _ h => h) (Or.inl ⟨by rfl, ?_⟩) ?_ ?_
                          rotate_left
                          · intro w'
                            go_simp
                            with_reducible rfl
                          rotate_left
                          · simp only [Act.put, List.setIfInBounds_toArray, List.set_cons_zero, List.set_cons_succ, i64_w, i32_w]
                            rfl
                          refine one_ (i := 7) (N := some 6) #[true, true, true, true, true, true, true, true, false] rfl rfl (one_of HT_.out (by kernel_rfl)) (by decide) (fun K hK => ?_)
                          refine box_step ?hg (N := 6) ?hd (cs := #[.int .i64 0, .int .i64 0, .int .i64 0, .int .i64 0, .string (⟨#[]⟩ : ByteArray)]) (t := 23) ?hr ?_; (case hd => rfl); (case hg => rfl); (case hr => first | (go_simp; done) | (go_simp; rfl))
                          intro gb178 hg w26 hbox hb
                          have n0_ := Aside0.mk (blk_below (g := gb173) (o := .cells #[.int .i64 0, .int .i64 0, .int .i64 0, .int .i64 0, .string (⟨#[]⟩ : ByteArray)] 23 (0, 0)) (by (with_reducible repeat (first | refine blk_drewN ?_ _ | refine blk_drew ?_ | refine blk_alloc ?_ _)); exact BK173.out) hb)
                          have n1_ := Aside0.mk (below_step (by repeat (first | (with_reducible first | exact HB.out | apply below_alloc | apply pw_below_drewN | apply below_drew1 | refine below_set ?_ GE173.out) | exact HB.out)) hb)
                          have n2_ := Aside0.mk (hbox)
                          have n3_ := Aside0.mk ((by rw [hg]; exact (below_size (by repeat (first | (with_reducible first | exact HB.out | apply below_alloc | apply pw_below_drewN | apply below_drew1 | refine below_set ?_ GE173.out) | exact HB.out))) : w.heap.size ≤ gb178))
                          have n4_ := Aside0.mk ((by rw [hg]; exact (below_size (by repeat (first | (with_reducible first | exact HB.out | apply below_alloc | apply pw_below_drewN | apply below_drew1 | refine below_set ?_ GE173.out) | exact HB.out))) : w.heap.size ≤ gb178))
                          have n5_ := Aside0.mk ((by rw [hg]; exact Nat.ne_of_lt (blk_lt (g := gb173) (o := .cells #[.int .i64 0, .int .i64 0, .int .i64 0, .int .i64 0, .string (⟨#[]⟩ : ByteArray)] 23 (0, 0)) (by (with_reducible repeat (first | refine blk_drewN ?_ _ | refine blk_drew ?_ | refine blk_alloc ?_ _)); exact BK173.out)) : gb173 ≠ gb178))
                          have n6_ := Aside0.mk ((by rw [hg]; exact Nat.ne_of_gt (blk_lt (g := gb173) (o := .cells #[.int .i64 0, .int .i64 0, .int .i64 0, .int .i64 0, .string (⟨#[]⟩ : ByteArray)] 23 (0, 0)) (by (with_reducible repeat (first | refine blk_drewN ?_ _ | refine blk_drew ?_ | refine blk_alloc ?_ _)); exact BK173.out)) : gb178 ≠ gb173))
                          clear BK173
                          clear HB
                          have BK173 := n0_
                          have HB := n1_
                          have BK178 := n2_
                          have GW178 := n3_
                          have GE178 := n4_
                          have NB173_178 := n5_
                          have NB178_173 := n6_
                          clear n0_ n1_ n2_ n3_ n4_ n5_ n6_
                          clear hb hbox hg
                          refine hK.out _ _ trivial (fun hHeld => ?_)
                          clear hK K
                          refine norm_ (a' := ?_) ?_ ?_
                          rotate_left
                          · show Act.put _ (some 6) _ = _
                            simp only [Act.put, List.setIfInBounds_toArray, List.set_cons_zero, List.set_cons_succ, i64_w, i32_w]
                            rfl
                          exact norm_ (by simp only [putAll, Act.put, List.setIfInBounds_toArray, List.set_cons_zero, List.set_cons_succ]) (hCont (gb178) _ ⟨(by (with_reducible repeat (first | refine blk_drewN ?_ _ | refine blk_drew ?_ | refine blk_alloc ?_ _)); exact BK173.out), (by (with_reducible repeat (first | refine blk_drewN ?_ _ | refine blk_drew ?_ | refine blk_alloc ?_ _)); exact BK178.out), GW178.out, GE178.out, NB173_178.out, NB178_173.out, (by repeat (first | (with_reducible first | exact HB.out | apply below_alloc | apply pw_below_drewN | apply below_drew1 | refine below_set ?_ GE173.out | refine below_set ?_ GE178.out) | exact HB.out))⟩)
                        · skip
                          refine box_step ?hg (N := 6) ?hd (cs := #[.int .i64 0, .int .i64 0, .int .i64 0, .int .i64 0, .string (⟨#[]⟩ : ByteArray)]) (t := 23) ?hr ?_; (case hd => rfl); (case hg => rfl); (case hr => first | (go_simp; done) | (go_simp; rfl))
                          intro gb178 hg w25 hbox hb
                          have n0_ := Aside0.mk (blk_below (g := gb173) (o := .cells #[.int .i64 0, .int .i64 0, .int .i64 0, .int .i64 0, .string (⟨#[]⟩ : ByteArray)] 23 (0, 0)) (by (with_reducible repeat (first | refine blk_drewN ?_ _ | refine blk_drew ?_ | refine blk_alloc ?_ _)); exact BK173.out) hb)
                          have n1_ := Aside0.mk (below_step (by repeat (first | (with_reducible first | exact HB.out | apply below_alloc | apply pw_below_drewN | apply below_drew1 | refine below_set ?_ GE173.out) | exact HB.out)) hb)
                          have n2_ := Aside0.mk (hbox)
                          have n3_ := Aside0.mk ((by rw [hg]; exact (below_size (by repeat (first | (with_reducible first | exact HB.out | apply below_alloc | apply pw_below_drewN | apply below_drew1 | refine below_set ?_ GE173.out) | exact HB.out))) : w.heap.size ≤ gb178))
                          have n4_ := Aside0.mk ((by rw [hg]; exact (below_size (by repeat (first | (with_reducible first | exact HB.out | apply below_alloc | apply pw_below_drewN | apply below_drew1 | refine below_set ?_ GE173.out) | exact HB.out))) : w.heap.size ≤ gb178))
                          have n5_ := Aside0.mk ((by rw [hg]; exact Nat.ne_of_lt (blk_lt (g := gb173) (o := .cells #[.int .i64 0, .int .i64 0, .int .i64 0, .int .i64 0, .string (⟨#[]⟩ : ByteArray)] 23 (0, 0)) (by (with_reducible repeat (first | refine blk_drewN ?_ _ | refine blk_drew ?_ | refine blk_alloc ?_ _)); exact BK173.out)) : gb173 ≠ gb178))
                          have n6_ := Aside0.mk ((by rw [hg]; exact Nat.ne_of_gt (blk_lt (g := gb173) (o := .cells #[.int .i64 0, .int .i64 0, .int .i64 0, .int .i64 0, .string (⟨#[]⟩ : ByteArray)] 23 (0, 0)) (by (with_reducible repeat (first | refine blk_drewN ?_ _ | refine blk_drew ?_ | refine blk_alloc ?_ _)); exact BK173.out)) : gb178 ≠ gb173))
                          clear BK173
                          clear HB
                          have BK173 := n0_
                          have HB := n1_
                          have BK178 := n2_
                          have GW178 := n3_
                          have GE178 := n4_
                          have NB173_178 := n5_
                          have NB178_173 := n6_
                          clear n0_ n1_ n2_ n3_ n4_ n5_ n6_
                          clear hb hbox hg
                          refine hK.out _ _ trivial (fun hHeld => ?_)
                          clear hK K
                          refine norm_ (a' := ?_) ?_ ?_
                          rotate_left
                          · show Act.put _ (some 6) _ = _
                            simp only [Act.put, List.setIfInBounds_toArray, List.set_cons_zero, List.set_cons_succ, i64_w, i32_w]
                            rfl
                          refine one_ (i := 5) (N := some 34) #[true, true, true, true, true, true, false, true, false] rfl rfl (one_of HT_.out (by kernel_rfl)) (by decide) (fun K hK => ?_)
                          refine goes_ Tryd.func27 (by kernel_rfl) rfl #[.string (t174.extract 6 12)] (by rfl) rfl rfl (by (try simp only [List.map_toArray, List.map_cons, List.map_nil]); first | done | rfl | (simp only [List.length_drop, List.length_take]; rfl)) ?_
                          with_reducible refine (frame_value.calls k (t174.extract 6 12) t177 _ A15.out).mono ?_
                          rintro e w26 ⟨rfl, hb⟩
                          refine ⟨_, rfl, ?_⟩
                          have n0_ := Aside0.mk (blk_below (g := gb173) (o := .cells #[.int .i64 0, .int .i64 0, .int .i64 0, .int .i64 0, .string (⟨#[]⟩ : ByteArray)] 23 (0, 0)) (by (with_reducible repeat (first | refine blk_drewN ?_ _ | refine blk_drew ?_ | refine blk_alloc ?_ _)); exact BK173.out) hb)
                          have n1_ := Aside0.mk (blk_below (g := gb178) (o := .cells #[.int .i64 0, .int .i64 0, .int .i64 0, .int .i64 0, .string (⟨#[]⟩ : ByteArray)] 23 (0, 0)) (by (with_reducible repeat (first | refine blk_drewN ?_ _ | refine blk_drew ?_ | refine blk_alloc ?_ _)); exact BK178.out) hb)
                          have n2_ := Aside0.mk (below_step (by repeat (first | (with_reducible first | exact HB.out | apply below_alloc | apply pw_below_drewN | apply below_drew1 | refine below_set ?_ GE173.out | refine below_set ?_ GE178.out) | exact HB.out)) hb)
                          clear BK173
                          clear BK178
                          clear HB
                          have BK173 := n0_
                          have BK178 := n1_
                          have HB := n2_
                          clear n0_ n1_ n2_
                          (try clear hb)
                          (try clear hb2)
                          (try clear hk)
                          (try clear hi)
                          refine hK.out _ _ trivial (fun hHeld => ?_)
                          clear hK K
                          refine norm_ (a' := ?_) ?_ ?_
                          rotate_left
                          · show Act.put _ (some 34) _ = _
                            simp only [Act.put, List.setIfInBounds_toArray, List.set_cons_zero, List.set_cons_succ, i64_w, i32_w]
                            rfl
                          refine pure_ (i := 6) (N := some 35) (v := ?_) (a' := ?_) #[true, true, true, true, true, true, true, true, false] rfl rfl (any_of HT_.out (by kernel_rfl)) (fun _ _ _ h => h) (Or.inl ⟨by rfl, ?_⟩) ?_ ?_
                          rotate_left
                          · intro w'
                            go_simp
                            with_reducible rfl
                          rotate_left
                          · simp only [Act.put, List.setIfInBounds_toArray, List.set_cons_zero, List.set_cons_succ, i64_w, i32_w]
                            rfl
                          exact norm_ (by simp only [putAll, Act.put, List.setIfInBounds_toArray, List.set_cons_zero, List.set_cons_succ]) (hCont (gb178) _ ⟨(by (with_reducible repeat (first | refine blk_drewN ?_ _ | refine blk_drew ?_ | refine blk_alloc ?_ _)); exact BK173.out), (by (with_reducible repeat (first | refine blk_drewN ?_ _ | refine blk_drew ?_ | refine blk_alloc ?_ _)); exact BK178.out), GW178.out, GE178.out, NB173_178.out, NB178_173.out, (by repeat (first | (with_reducible first | exact HB.out | apply below_alloc | apply pw_below_drewN | apply below_drew1 | refine below_set ?_ GE173.out | refine below_set ?_ GE178.out) | exact HB.out))⟩)
                      · skip
                        refine box_step ?hg (N := 6) ?hd (cs := #[.int .i64 0, .int .i64 0, .int .i64 0, .int .i64 0, .string (⟨#[]⟩ : ByteArray)]) (t := 23) ?hr ?_; (case hd => rfl); (case hg => rfl); (case hr => first | (go_simp; done) | (go_simp; rfl))
                        intro gb178 hg w24 hbox hb
                        have n0_ := Aside0.mk (blk_below (g := gb173) (o := .cells #[.int .i64 0, .int .i64 0, .int .i64 0, .int .i64 0, .string (⟨#[]⟩ : ByteArray)] 23 (0, 0)) (by (with_reducible repeat (first | refine blk_drewN ?_ _ | refine blk_drew ?_ | refine blk_alloc ?_ _)); exact BK173.out) hb)
                        have n1_ := Aside0.mk (below_step (by repeat (first | (with_reducible first | exact HB.out | apply below_alloc | apply pw_below_drewN | apply below_drew1 | refine below_set ?_ GE173.out) | exact HB.out)) hb)
                        have n2_ := Aside0.mk (hbox)
                        have n3_ := Aside0.mk ((by rw [hg]; exact (below_size (by repeat (first | (with_reducible first | exact HB.out | apply below_alloc | apply pw_below_drewN | apply below_drew1 | refine below_set ?_ GE173.out) | exact HB.out))) : w.heap.size ≤ gb178))
                        have n4_ := Aside0.mk ((by rw [hg]; exact (below_size (by repeat (first | (with_reducible first | exact HB.out | apply below_alloc | apply pw_below_drewN | apply below_drew1 | refine below_set ?_ GE173.out) | exact HB.out))) : w.heap.size ≤ gb178))
                        have n5_ := Aside0.mk ((by rw [hg]; exact Nat.ne_of_lt (blk_lt (g := gb173) (o := .cells #[.int .i64 0, .int .i64 0, .int .i64 0, .int .i64 0, .string (⟨#[]⟩ : ByteArray)] 23 (0, 0)) (by (with_reducible repeat (first | refine blk_drewN ?_ _ | refine blk_drew ?_ | refine blk_alloc ?_ _)); exact BK173.out)) : gb173 ≠ gb178))
                        have n6_ := Aside0.mk ((by rw [hg]; exact Nat.ne_of_gt (blk_lt (g := gb173) (o := .cells #[.int .i64 0, .int .i64 0, .int .i64 0, .int .i64 0, .string (⟨#[]⟩ : ByteArray)] 23 (0, 0)) (by (with_reducible repeat (first | refine blk_drewN ?_ _ | refine blk_drew ?_ | refine blk_alloc ?_ _)); exact BK173.out)) : gb178 ≠ gb173))
                        clear BK173
                        clear HB
                        have BK173 := n0_
                        have HB := n1_
                        have BK178 := n2_
                        have GW178 := n3_
                        have GE178 := n4_
                        have NB173_178 := n5_
                        have NB178_173 := n6_
                        clear n0_ n1_ n2_ n3_ n4_ n5_ n6_
                        clear hb hbox hg
                        refine hK.out _ _ trivial (fun hHeld => ?_)
                        clear hK K
                        refine norm_ (a' := ?_) ?_ ?_
                        rotate_left
                        · show Act.put _ (some 6) _ = _
                          simp only [Act.put, List.setIfInBounds_toArray, List.set_cons_zero, List.set_cons_succ, i64_w, i32_w]
                          rfl
                        refine one_ (i := 2) (N := some 31) #[true, true, true, true, true, false, false, true, false] rfl rfl (one_of HT_.out (by kernel_rfl)) (by decide) (fun K hK => ?_)
                        refine goes_ Tryd.func27 (by kernel_rfl) rfl #[.string (t174.extract 0 6)] (by rfl) rfl rfl (by (try simp only [List.map_toArray, List.map_cons, List.map_nil]); first | done | rfl | (simp only [List.length_drop, List.length_take]; rfl)) ?_
                        with_reducible refine (frame_value.calls k (t174.extract 0 6) t176 _ A12.out).mono ?_
                        rintro e w25 ⟨rfl, hb⟩
                        refine ⟨_, rfl, ?_⟩
                        have n0_ := Aside0.mk (blk_below (g := gb173) (o := .cells #[.int .i64 0, .int .i64 0, .int .i64 0, .int .i64 0, .string (⟨#[]⟩ : ByteArray)] 23 (0, 0)) (by (with_reducible repeat (first | refine blk_drewN ?_ _ | refine blk_drew ?_ | refine blk_alloc ?_ _)); exact BK173.out) hb)
                        have n1_ := Aside0.mk (blk_below (g := gb178) (o := .cells #[.int .i64 0, .int .i64 0, .int .i64 0, .int .i64 0, .string (⟨#[]⟩ : ByteArray)] 23 (0, 0)) (by (with_reducible repeat (first | refine blk_drewN ?_ _ | refine blk_drew ?_ | refine blk_alloc ?_ _)); exact BK178.out) hb)
                        have n2_ := Aside0.mk (below_step (by repeat (first | (with_reducible first | exact HB.out | apply below_alloc | apply pw_below_drewN | apply below_drew1 | refine below_set ?_ GE173.out | refine below_set ?_ GE178.out) | exact HB.out)) hb)
                        clear BK173
                        clear BK178
                        clear HB
                        have BK173 := n0_
                        have BK178 := n1_
                        have HB := n2_
                        clear n0_ n1_ n2_
                        (try clear hb)
                        (try clear hb2)
                        (try clear hk)
                        (try clear hi)
                        refine hK.out _ _ trivial (fun hHeld => ?_)
                        clear hK K
                        refine norm_ (a' := ?_) ?_ ?_
                        rotate_left
                        · show Act.put _ (some 31) _ = _
                          simp only [Act.put, List.setIfInBounds_toArray, List.set_cons_zero, List.set_cons_succ, i64_w, i32_w]
                          rfl
                        refine one_ (i := 5) (N := some 34) #[true, true, true, true, true, true, false, true, false] rfl rfl (one_of HT_.out (by kernel_rfl)) (by decide) (fun K hK => ?_)
                        refine goes_ Tryd.func27 (by kernel_rfl) rfl #[.string (t174.extract 6 12)] (by rfl) rfl rfl (by (try simp only [List.map_toArray, List.map_cons, List.map_nil]); first | done | rfl | (simp only [List.length_drop, List.length_take]; rfl)) ?_
                        with_reducible refine (frame_value.calls k (t174.extract 6 12) t177 _ A15.out).mono ?_
                        rintro e w26 ⟨rfl, hb⟩
                        refine ⟨_, rfl, ?_⟩
                        have n0_ := Aside0.mk (blk_below (g := gb173) (o := .cells #[.int .i64 0, .int .i64 0, .int .i64 0, .int .i64 0, .string (⟨#[]⟩ : ByteArray)] 23 (0, 0)) (by (with_reducible repeat (first | refine blk_drewN ?_ _ | refine blk_drew ?_ | refine blk_alloc ?_ _)); exact BK173.out) hb)
                        have n1_ := Aside0.mk (blk_below (g := gb178) (o := .cells #[.int .i64 0, .int .i64 0, .int .i64 0, .int .i64 0, .string (⟨#[]⟩ : ByteArray)] 23 (0, 0)) (by (with_reducible repeat (first | refine blk_drewN ?_ _ | refine blk_drew ?_ | refine blk_alloc ?_ _)); exact BK178.out) hb)
                        have n2_ := Aside0.mk (below_step (by repeat (first | (with_reducible first | exact HB.out | apply below_alloc | apply pw_below_drewN | apply below_drew1 | refine below_set ?_ GE173.out | refine below_set ?_ GE178.out) | exact HB.out)) hb)
                        clear BK173
                        clear BK178
                        clear HB
                        have BK173 := n0_
                        have BK178 := n1_
                        have HB := n2_
                        clear n0_ n1_ n2_
                        (try clear hb)
                        (try clear hb2)
                        (try clear hk)
                        (try clear hi)
                        refine hK.out _ _ trivial (fun hHeld => ?_)
                        clear hK K
                        refine norm_ (a' := ?_) ?_ ?_
                        rotate_left
                        · show Act.put _ (some 34) _ = _
                          simp only [Act.put, List.setIfInBounds_toArray, List.set_cons_zero, List.set_cons_succ, i64_w, i32_w]
                          rfl
                        refine pure_ (i := 6) (N := some 35) (v := ?_) (a' := ?_) #[true, true, true, true, true, true, true, true, false] rfl rfl (any_of HT_.out (by kernel_rfl)) (fun _ _ _ h => h) (Or.inl ⟨by rfl, ?_⟩) ?_ ?_
                        rotate_left
                        · intro w'
                          go_simp
                          with_reducible rfl
                        rotate_left
                        · simp only [Act.put, List.setIfInBounds_toArray, List.set_cons_zero, List.set_cons_succ, i64_w, i32_w]
                          rfl
                        exact norm_ (by simp only [putAll, Act.put, List.setIfInBounds_toArray, List.set_cons_zero, List.set_cons_succ]) (hCont (gb178) _ ⟨(by (with_reducible repeat (first | refine blk_drewN ?_ _ | refine blk_drew ?_ | refine blk_alloc ?_ _)); exact BK173.out), (by (with_reducible repeat (first | refine blk_drewN ?_ _ | refine blk_drew ?_ | refine blk_alloc ?_ _)); exact BK178.out), GW178.out, GE178.out, NB173_178.out, NB178_173.out, (by repeat (first | (with_reducible first | exact HB.out | apply below_alloc | apply pw_below_drewN | apply below_drew1 | refine below_set ?_ GE173.out | refine below_set ?_ GE178.out) | exact HB.out))⟩)
                    rintro gb178 w27 ⟨h0_, h1_, h2_, h3_, h4_, h5_, h6_⟩
                    have n0_ : Aside0 (w27.heap[gb173]? = some (.cells #[.int .i64 0, .int .i64 0, .int .i64 0, .int .i64 0, .string (⟨#[]⟩ : ByteArray)] 23 (0, 0))) := ⟨h0_⟩
                    have n1_ : Aside0 (w27.heap[gb178]? = some (.cells #[.int .i64 0, .int .i64 0, .int .i64 0, .int .i64 0, .string (⟨#[]⟩ : ByteArray)] 23 (0, 0))) := ⟨h1_⟩
                    have n2_ : Aside0 (w.heap.size ≤ gb178) := ⟨h2_⟩
                    have n3_ : Aside0 (w.heap.size ≤ gb178) := ⟨h3_⟩
                    have n4_ : Aside0 (gb173 ≠ gb178) := ⟨h4_⟩
                    have n5_ : Aside0 (gb178 ≠ gb173) := ⟨h5_⟩
                    have n6_ : Aside0 (Below w.heap.size w w27) := ⟨h6_⟩
                    clear BK173
                    clear HB
                    clear h0_ h1_ h2_ h3_ h4_ h5_ h6_
                    have BK173 := n0_
                    have BK178 := n1_
                    have GW178 := n2_
                    have GE178 := n3_
                    have NB173_178 := n4_
                    have NB178_173 := n5_
                    have HB := n6_
                    clear n0_ n1_ n2_ n3_ n4_ n5_ n6_
                    have hHeld := trivial
                    refine norm_ (a' := ?_) ?_ ?_
                    rotate_left
                    · simp only [putAll, Act.put, List.setIfInBounds_toArray, List.set_cons_zero, List.set_cons_succ]
                      rfl
                    refine one_ (i := 8) (N := none) #[true, true, true, true, true, true, true, true, true] rfl rfl (one_of HT_.out (by kernel_rfl)) (by decide) (fun K hK => ?_)
                    have hs28 : w27.cell? ⟨gb178, 0, none⟩ = some (.int .i64 0) := (blk_cell BK178.out 0).trans rfl
                    have hfs28 := blk_frozen BK178.out 0
                    have hns28_0 := NB173_178.out
                    have hms28_0 := NB178_173.out
                    have hs29 : w27.cell? ⟨gb178, 1, none⟩ = some (.int .i64 0) := (blk_cell BK178.out 1).trans rfl
                    have hfs29 := blk_frozen BK178.out 1
                    have hns29_0 := NB173_178.out
                    have hms29_0 := NB178_173.out
                    have hs30 : w27.cell? ⟨gb178, 2, none⟩ = some (.int .i64 0) := (blk_cell BK178.out 2).trans rfl
                    have hfs30 := blk_frozen BK178.out 2
                    have hns30_0 := NB173_178.out
                    have hms30_0 := NB178_173.out
                    have hs31 : w27.cell? ⟨gb178, 3, none⟩ = some (.int .i64 0) := (blk_cell BK178.out 3).trans rfl
                    have hfs31 := blk_frozen BK178.out 3
                    have hns31_0 := NB173_178.out
                    have hms31_0 := NB178_173.out
                    have hs32 : w27.cell? ⟨gb178, 4, none⟩ = some (.string (⟨#[]⟩ : ByteArray)) := (blk_cell BK178.out 4).trans rfl
                    have hfs32 := blk_frozen BK178.out 4
                    have hns32_0 := NB173_178.out
                    have hms32_0 := NB178_173.out
                    refine skip_ (w1 := ?_) (by rfl) rfl ?_ ?_
                    rotate_left
                    · go_simp
                      rfl
                    refine hK.out _ _ trivial (fun hHeld => ?_)
                    clear hK K
                    refine done_ (done_of HT_.out (by kernel_rfl)) ?_
                    go_upto_if 41 with (first | ((with_reducible refine gate_callee (f := 27) rfl ?_); refine goesL_ (some 40) rfl rfl Tryd.func27 (by kernel_rfl) rfl #[.string ((t174.extract 12 t174.size).extract 0 2)] rfl (by (try simp only [List.map_toArray, List.map_cons, List.map_nil]); first | done | rfl | (simp only [List.length_drop, List.length_take]; rfl)) ?_; (with_reducible refine (frame_value.calls k ((t174.extract 12 t174.size).extract 0 2) t179 _ A19.out).mono ?_); rintro e w33 ⟨rfl, hb⟩; refine ⟨_, rfl, ?_⟩; have n0_ := Aside0.mk (blk_below (g := gb173) (o := .cells #[.int .i64 0, .int .i64 0, .int .i64 0, .int .i64 0, .string (⟨#[]⟩ : ByteArray)] 23 (0, 0)) (by (with_reducible repeat (first | refine blk_drewN ?_ _ | refine blk_drew ?_ | refine blk_alloc ?_ _)); refine blk_far ?_ NB173_178.out _; (with_reducible repeat (first | refine blk_drewN ?_ _ | refine blk_drew ?_ | refine blk_alloc ?_ _)); refine blk_far ?_ NB173_178.out _; (with_reducible repeat (first | refine blk_drewN ?_ _ | refine blk_drew ?_ | refine blk_alloc ?_ _)); refine blk_far ?_ NB173_178.out _; (with_reducible repeat (first | refine blk_drewN ?_ _ | refine blk_drew ?_ | refine blk_alloc ?_ _)); refine blk_far ?_ NB173_178.out _; (with_reducible repeat (first | refine blk_drewN ?_ _ | refine blk_drew ?_ | refine blk_alloc ?_ _)); refine blk_far ?_ NB173_178.out _; (with_reducible repeat (first | refine blk_drewN ?_ _ | refine blk_drew ?_ | refine blk_alloc ?_ _)); exact BK173.out) hb); have n1_ := Aside0.mk (blk_below (g := gb178) (o := .cells #[.int .i64 t176, .int .i64 t177, .int .i64 0, .int .i64 0, .string (⟨#[]⟩ : ByteArray)] 23 (0, 0)) (by (with_reducible repeat (first | refine blk_drewN ?_ _ | refine blk_drew ?_ | refine blk_alloc ?_ _)); refine blk_put (cs := #[.int .i64 t176, .int .i64 t177, .int .i64 0, .int .i64 0, .string (⟨#[]⟩ : ByteArray)]) ?_ 4 _ rfl; (with_reducible repeat (first | refine blk_drewN ?_ _ | refine blk_drew ?_ | refine blk_alloc ?_ _)); refine blk_put (cs := #[.int .i64 t176, .int .i64 t177, .int .i64 0, .int .i64 0, .string (⟨#[]⟩ : ByteArray)]) ?_ 3 _ rfl; (with_reducible repeat (first | refine blk_drewN ?_ _ | refine blk_drew ?_ | refine blk_alloc ?_ _)); refine blk_put (cs := #[.int .i64 t176, .int .i64 t177, .int .i64 0, .int .i64 0, .string (⟨#[]⟩ : ByteArray)]) ?_ 2 _ rfl; (with_reducible repeat (first | refine blk_drewN ?_ _ | refine blk_drew ?_ | refine blk_alloc ?_ _)); refine blk_put (cs := #[.int .i64 t176, .int .i64 0, .int .i64 0, .int .i64 0, .string (⟨#[]⟩ : ByteArray)]) ?_ 1 _ rfl; (with_reducible repeat (first | refine blk_drewN ?_ _ | refine blk_drew ?_ | refine blk_alloc ?_ _)); refine blk_put (cs := #[.int .i64 0, .int .i64 0, .int .i64 0, .int .i64 0, .string (⟨#[]⟩ : ByteArray)]) ?_ 0 _ rfl; (with_reducible repeat (first | refine blk_drewN ?_ _ | refine blk_drew ?_ | refine blk_alloc ?_ _)); exact BK178.out) hb); have n2_ := Aside0.mk (below_step (by repeat (first | (with_reducible first | exact HB.out | apply below_alloc | apply pw_below_drewN | apply below_drew1 | refine below_set ?_ GE173.out | refine below_set ?_ GE178.out) | exact HB.out)) hb); clear BK173; clear BK178; clear HB; have BK173 := n0_; have BK178 := n1_; have HB := n2_; clear n0_ n1_ n2_; (try clear hb); (try clear hb2); (try clear hk); (try clear hi)))
                    (try simp only [Act.put, List.setIfInBounds_toArray, List.set_cons_zero, List.set_cons_succ])
                    go_cut [4] (fun v4 wc => ∃ (kq : Nat) (x4_19 : ByteArray) (x179002_19 : Int), v4 = .string x4_19 ∧ Aside0 (frame_Decode.j0 kq a0 x4_19 t176 t177 x179002_19 0 (⟨#[]⟩ : ByteArray) = some (r1, r2, r3, r4, r5, r6)) ∧ Aside0 (kq ≤ k) ∧ Aside0 (wc.heap[gb173]? = some (.cells #[.int .i64 0, .int .i64 0, .int .i64 0, .int .i64 0, .string (⟨#[]⟩ : ByteArray)] 23 (0, 0))) ∧ Aside0 (wc.heap[gb178]? = some (.cells #[.int .i64 t176, .int .i64 t177, .int .i64 x179002_19, .int .i64 0, .string (⟨#[]⟩ : ByteArray)] 23 (0, 0))) ∧ Aside0 (Below w.heap.size w wc))
                    case first =>
                      have H := HC20.out
                      clear HC20
                      by_cases c34 : t179 = 33024
                      · rw [if_pos c34] at H
                        have c34b0 : (t179 == 33024) = true := beq_iff_eq.mpr c34
                        have c34b1 : (t179 != 33024) = false := bne_eq_false_iff_eq.mpr c34
                        clear c34
                        (first | rw [c34b0] | (simp only [i64_w, i32_w]; rw [c34b0]) | skip)
                        by_cases c35 : 2 ≤ 4
                        · rw [if_pos c35] at H
                          have c35b0 := eq_true c35
                          try (have c35b0q := c35b0; simp only [ByteArray.size_append, ByteArray.size_extract, Nat.min_self, Nat.sub_zero, Int.natCast_add] at c35b0q)
                          have c35b1 : decide (2 ≤ 4) = true := decide_eq_true c35
                          clear c35
                          by_cases c36 : 4 ≤ ((t174.extract 12 t174.size).size : Int)
                          · rw [if_pos c36] at H
                            have c36b0 := eq_true c36
                            try (have c36b0q := c36b0; simp only [ByteArray.size_append, ByteArray.size_extract, Nat.min_self, Nat.sub_zero, Int.natCast_add] at c36b0q)
                            have c36b1 : decide (4 ≤ ((t174.extract 12 t174.size).size : Int)) = true := decide_eq_true c36
                            try (have c36b1q := c36b1; simp only [ByteArray.size_append, ByteArray.size_extract, Nat.min_self, Nat.sub_zero, Int.natCast_add] at c36b1q)
                            clear c36
                            replace H := Option.bind_eq_some_iff.mp H
                            obtain ⟨t180, A370, H⟩ := H
                            replace H : (frame_Decode.j0 k a0 ((t174.extract 12 t174.size).extract 4 (t174.extract 12 t174.size).size) t176 t177 t180 0 (⟨#[]⟩ : ByteArray)) = some (r1, r2, r3, r4, r5, r6) := H
                            have A37 := Aside0.mk A370
                            clear A370
                            have c38b0 := eq_true (of_decide_eq_true (by first | (with_reducible assumption) | assumption) : 4 ≤ ((t174.extract 12 t174.size).size : Int))
                            try (have c38b0q := c38b0; simp only [ByteArray.size_append, ByteArray.size_extract, Nat.min_self, Nat.sub_zero, Int.natCast_add] at c38b0q)
                            have H' := Aside0.mk H
                            clear H
                            try go_wp2
                            have n0_ := Aside0.mk (blk_drew BK173.out)
                            have n1_ := Aside0.mk (blk_drew BK178.out)
                            have n2_ := Aside0.mk (below_drew1 HB.out)
                            clear BK173
                            clear BK178
                            clear HB
                            have BK173 := n0_
                            have BK178 := n1_
                            have HB := n2_
                            clear n0_ n1_ n2_
                            refine start_ (n := 8) (S := fun w' => True) (ds := []) #[false, false, false, false, false, false, false, false] (by kernel_rfl) rfl rfl trivial (fun hHeld => ?_); refine with_tabW frame_Decode.tab11 frame_Decode.bits11 (fun HT_ HW_ => ?_)
                            generalize w33.drew = w39 at BK173 BK178 HB hHeld ⊢
                            refine pure_ (i := 0) (N := some 42) (v := ?_) (a' := ?_) #[true, false, false, false, false, false, false, false] rfl rfl (any_of HT_.out (by kernel_rfl)) (fun _ _ _ h => h) (Or.inl ⟨by rfl, ?_⟩) ?_ ?_
                            rotate_left
                            · intro w'
                              go_simp
                              with_reducible rfl
                            rotate_left
                            · simp only [Act.put, List.setIfInBounds_toArray, List.set_cons_zero, List.set_cons_succ, i64_w, i32_w]
                              rfl
                            refine pure_ (i := 1) (N := some 43) (v := ?_) (a' := ?_) #[true, true, false, false, false, false, false, false] rfl rfl (any_of HT_.out (by kernel_rfl)) (fun _ _ _ h => h) (Or.inl ⟨by rfl, ?_⟩) ?_ ?_
                            rotate_left
                            · intro w'
                              go_simp
                              with_reducible rfl
                            rotate_left
                            · simp only [Act.put, List.setIfInBounds_toArray, List.set_cons_zero, List.set_cons_succ, i64_w, i32_w]
                              rfl
                            refine pure_ (i := 3) (N := some 45) (v := ?_) (a' := ?_) #[true, true, false, true, false, false, false, false] rfl rfl (any_of HT_.out (by kernel_rfl)) (fun _ _ _ h => h) (Or.inl ⟨by rfl, ?_⟩) ?_ ?_
                            rotate_left
                            · intro w'
                              go_simp
                              with_reducible rfl
                            rotate_left
                            · simp only [Act.put, List.setIfInBounds_toArray, List.set_cons_zero, List.set_cons_succ, i64_w, i32_w]
                              rfl
                            refine pure_ (i := 4) (N := some 46) (v := ?_) (a' := ?_) #[true, true, false, true, true, false, false, false] rfl rfl (any_of HT_.out (by kernel_rfl)) (fun _ _ _ h => h) (Or.inl ⟨by rfl, ?_⟩) ?_ ?_
                            rotate_left
                            · intro w'
                              go_simp
                              with_reducible rfl
                            rotate_left
                            · simp only [Act.put, List.setIfInBounds_toArray, List.set_cons_zero, List.set_cons_succ, i64_w, i32_w]
                              rfl
                            refine one_ (i := 2) (N := some 44) #[true, true, true, true, true, false, false, false] rfl rfl (one_of HT_.out (by kernel_rfl)) (by decide) (fun K hK => ?_)
                            refine goes_ Tryd.func27 (by kernel_rfl) rfl #[.string ((t174.extract 12 t174.size).extract 2 4)] (by rfl) rfl rfl (by (try simp only [List.map_toArray, List.map_cons, List.map_nil]); first | done | rfl | (simp only [List.length_drop, List.length_take]; rfl)) ?_
                            with_reducible refine (frame_value.calls k ((t174.extract 12 t174.size).extract 2 4) t180 _ A37.out).mono ?_
                            rintro e w40 ⟨rfl, hb⟩
                            refine ⟨_, rfl, ?_⟩
                            have n0_ := Aside0.mk (blk_below (g := gb173) (o := .cells #[.int .i64 0, .int .i64 0, .int .i64 0, .int .i64 0, .string (⟨#[]⟩ : ByteArray)] 23 (0, 0)) (by (with_reducible repeat (first | refine blk_drewN ?_ _ | refine blk_drew ?_ | refine blk_alloc ?_ _)); exact BK173.out) hb)
                            have n1_ := Aside0.mk (blk_below (g := gb178) (o := .cells #[.int .i64 t176, .int .i64 t177, .int .i64 0, .int .i64 0, .string (⟨#[]⟩ : ByteArray)] 23 (0, 0)) (by (with_reducible repeat (first | refine blk_drewN ?_ _ | refine blk_drew ?_ | refine blk_alloc ?_ _)); exact BK178.out) hb)
                            have n2_ := Aside0.mk (below_step (by repeat (first | (with_reducible first | exact HB.out | apply below_alloc | apply pw_below_drewN | apply below_drew1 | refine below_set ?_ GE173.out | refine below_set ?_ GE178.out) | exact HB.out)) hb)
                            clear BK173
                            clear BK178
                            clear HB
                            have BK173 := n0_
                            have BK178 := n1_
                            have HB := n2_
                            clear n0_ n1_ n2_
                            (try clear hb)
                            (try clear hb2)
                            (try clear hk)
                            (try clear hi)
                            refine hK.out _ _ trivial (fun hHeld => ?_)
                            clear hK K
                            refine norm_ (a' := ?_) ?_ ?_
                            rotate_left
                            · show Act.put _ (some 44) _ = _
                              simp only [Act.put, List.setIfInBounds_toArray, List.set_cons_zero, List.set_cons_succ, i64_w, i32_w]
                              rfl
                            refine pure_ (i := 5) (N := some 47) (v := ?_) (a' := ?_) #[true, true, true, true, true, true, false, false] rfl rfl (any_of HT_.out (by kernel_rfl)) (fun _ _ _ h => h) (Or.inl ⟨by rfl, ?_⟩) ?_ ?_
                            rotate_left
                            · intro w'
                              go_simp
                              with_reducible rfl
                            rotate_left
                            · simp only [Act.put, List.setIfInBounds_toArray, List.set_cons_zero, List.set_cons_succ, i64_w, i32_w]
                              rfl
                            refine one_ (i := 6) (N := none) #[true, true, true, true, true, true, true, false] rfl rfl (one_of HT_.out (by kernel_rfl)) (by decide) (fun K hK => ?_)
                            have hs41 : w40.cell? ⟨gb178, 2, none⟩ = some (.int .i64 0) := (blk_cell BK178.out 2).trans rfl
                            have hfs41 := blk_frozen BK178.out 2
                            have hns41_0 := NB173_178.out
                            have hms41_0 := NB178_173.out
                            refine skip_ (w1 := ?_) (by rfl) rfl ?_ ?_
                            rotate_left
                            · go_simp
                              rfl
                            refine hK.out _ _ trivial (fun hHeld => ?_)
                            clear hK K
                            refine pure_ (i := 7) (N := some 4) (v := ?_) (a' := ?_) #[true, true, true, true, true, true, true, true] rfl rfl (any_of HT_.out (by kernel_rfl)) (fun _ _ _ h => h) (Or.inl ⟨by rfl, ?_⟩) ?_ ?_
                            rotate_left
                            · intro w'
                              go_simp
                              with_reducible rfl
                            rotate_left
                            · simp only [Act.put, List.setIfInBounds_toArray, List.set_cons_zero, List.set_cons_succ, i64_w, i32_w]
                              rfl
                            refine done_ (done_of HT_.out (by kernel_rfl)) ?_
                            try go_wp2
                            go_meet
                            case rel => exact ⟨_, ((t174.extract 12 t174.size).extract 4 (t174.extract 12 t174.size).size), (t180), (by first | (with_reducible rfl) | (simp only [ByteArray.size_extract, Nat.min_self]; done) | (simp; done) | rfl | (simp [*]; done)), H', ⟨by first | omega | exact Nat.le_refl _⟩, ⟨by (with_reducible repeat (first | refine blk_drewN ?_ _ | refine blk_drew ?_ | refine blk_alloc ?_ _)); refine blk_far ?_ NB173_178.out _; (with_reducible repeat (first | refine blk_drewN ?_ _ | refine blk_drew ?_ | refine blk_alloc ?_ _)); exact BK173.out⟩, ⟨by (with_reducible repeat (first | refine blk_drewN ?_ _ | refine blk_drew ?_ | refine blk_alloc ?_ _)); refine blk_put (cs := #[.int .i64 t176, .int .i64 t177, .int .i64 0, .int .i64 0, .string (⟨#[]⟩ : ByteArray)]) ?_ 2 _ rfl; (with_reducible repeat (first | refine blk_drewN ?_ _ | refine blk_drew ?_ | refine blk_alloc ?_ _)); exact BK178.out⟩, ⟨by repeat (first | (with_reducible first | exact HB.out | apply below_alloc | apply pw_below_drewN | apply below_drew1 | refine below_set ?_ GE173.out | refine below_set ?_ GE178.out) | exact HB.out)⟩⟩
                          · rw [if_neg c36] at H
                            exact absurd H (by simp)
                        · rw [if_neg c35] at H
                          exact absurd H (by simp)
                      · rw [if_neg c34] at H
                        have c34b0 : (t179 == 33024) = false := beq_eq_false_iff_ne.mpr c34
                        have c34b1 : (t179 != 33024) = true := bne_iff_ne.mpr c34
                        (first | rw [c34b0] | (simp only [i64_w, i32_w]; rw [c34b0]) | skip)
                        have H' := Aside0.mk H
                        clear H
                        go_wp2
                        go_meet
                        case rel => exact ⟨_, (t174.extract 12 t174.size), (0), (by first | (with_reducible rfl) | (simp only [ByteArray.size_extract, Nat.min_self]; done) | (simp; done) | rfl | (simp [*]; done)), H', ⟨by first | omega | exact Nat.le_refl _⟩, ⟨by (with_reducible repeat (first | refine blk_drewN ?_ _ | refine blk_drew ?_ | refine blk_alloc ?_ _)); exact BK173.out⟩, ⟨by (with_reducible repeat (first | refine blk_drewN ?_ _ | refine blk_drew ?_ | refine blk_alloc ?_ _)); exact BK178.out⟩, ⟨by repeat (first | (with_reducible first | exact HB.out | apply below_alloc | apply pw_below_drewN | apply below_drew1 | refine below_set ?_ GE173.out | refine below_set ?_ GE178.out) | exact HB.out)⟩⟩
                    case rest =>
                      clear HC20
                      try clear c1
                      try clear c2
                      try clear c2b0
                      try clear c2b1
                      try clear p2
                      try clear c3
                      try clear c5
                      try clear c5b0
                      try clear c5b1
                      try clear c9
                      try clear c9b0
                      try clear c9b1
                      try clear c10
                      try clear c10b0
                      try clear c10b1
                      try clear c11
                      try clear c11b0
                      try clear c11b1
                      try clear c13
                      try clear c13b0
                      try clear c13b1
                      try clear c14
                      try clear c14b0
                      try clear c14b1
                      try clear c16
                      try clear c16b0
                      try clear c17
                      try clear c17b0
                      try clear c17b1
                      try clear c18
                      try clear c18b0
                      try clear c18b1
                      try clear c26
                      try clear c27
                      try clear c34
                      try clear c34b0
                      try clear c34b1
                      try clear c35
                      try clear c35b0
                      try clear c35b1
                      try clear c36
                      try clear c36b0
                      try clear c36b1
                      try clear c38
                      try clear c38b0
                      try clear hcz4_0
                      try clear hcz4_1
                      try clear hcz4_2
                      try clear hcz4_3
                      try clear hcz4_4
                      try clear hcz7_0
                      try clear hcz7_1
                      try clear hcz7_2
                      try clear hcz7_3
                      try clear hcz7_4
                      try clear hfz4_0
                      try clear hfz4_1
                      try clear hfz4_2
                      try clear hfz4_3
                      try clear hfz4_4
                      try clear hfz7_0
                      try clear hfz7_1
                      try clear hfz7_2
                      try clear hfz7_3
                      try clear hfz7_4
                      obtain ⟨kq, x4_19, x179002_19, rfl, HA, HJ19, BK173, BK178, HB⟩ := hcut
                      cases kq with
                      | zero => exact absurd HA.out (by simp [frame_Decode.j0])
                      | succ kj19 =>
                        have H := HA.out
                        clear HA
                        simp only [frame_Decode.j0] at H
                        by_cases c42 : 0 ≤ 2
                        · rw [if_pos c42] at H
                          have c42b0 := eq_true c42
                          try (have c42b0q := c42b0; simp only [ByteArray.size_append, ByteArray.size_extract, Nat.min_self, Nat.sub_zero, Int.natCast_add] at c42b0q)
                          have c42b1 : decide (0 ≤ 2) = true := decide_eq_true c42
                          clear c42
                          by_cases c43 : 2 ≤ (x4_19.size : Int)
                          · rw [if_pos c43] at H
                            have c43b0 := eq_true c43
                            try (have c43b0q := c43b0; simp only [ByteArray.size_append, ByteArray.size_extract, Nat.min_self, Nat.sub_zero, Int.natCast_add] at c43b0q)
                            have c43b1 : decide (2 ≤ (x4_19.size : Int)) = true := decide_eq_true c43
                            clear c43
                            replace H := Option.bind_eq_some_iff.mp H
                            obtain ⟨t181, A440, H⟩ := H
                            replace H : (if 2 ≤ 4 then (if 4 ≤ (x4_19.size : Int) then ((frame_value.f kj19 (x4_19.extract 2 4)).bind fun t182 => (if t182 > (wrap64 ((x4_19.size : Int) - 4)) then (some (0, 0, 0, 0, (⟨#[]⟩ : ByteArray), 3)) else (if 4 ≤ (wrap64 (4 + t182)) then (if (wrap64 (4 + t182)) ≤ (x4_19.size : Int) then ((frame_Encode.f kj19 t176 t177 x179002_19 t181 (x4_19.extract 4 ((wrap64 (4 + t182)) : Int).toNat)).bind fun bt183 => (if bt183.2 = 0 then (if bt183.1.toList = a0.toList then (some (t176, t177, x179002_19, t181, x4_19.extract 4 ((wrap64 (4 + t182)) : Int).toNat, 0)) else (some (0, 0, 0, 0, (⟨#[]⟩ : ByteArray), 3))) else (some (0, 0, 0, 0, (⟨#[]⟩ : ByteArray), 3)))) else (none)) else (none)))) else (none)) else (none)) = some (r1, r2, r3, r4, r5, r6) := H
                            have A44 := Aside0.mk A440
                            clear A440
                            by_cases c45 : 2 ≤ 4
                            · rw [if_pos c45] at H
                              have c45b0 := eq_true c45
                              try (have c45b0q := c45b0; simp only [ByteArray.size_append, ByteArray.size_extract, Nat.min_self, Nat.sub_zero, Int.natCast_add] at c45b0q)
                              have c45b1 : decide (2 ≤ 4) = true := decide_eq_true c45
                              clear c45
                              by_cases c46 : 4 ≤ (x4_19.size : Int)
                              · rw [if_pos c46] at H
                                have c46b0 := eq_true c46
                                try (have c46b0q := c46b0; simp only [ByteArray.size_append, ByteArray.size_extract, Nat.min_self, Nat.sub_zero, Int.natCast_add] at c46b0q)
                                have c46b1 : decide (4 ≤ (x4_19.size : Int)) = true := decide_eq_true c46
                                clear c46
                                replace H := Option.bind_eq_some_iff.mp H
                                obtain ⟨t182, A470, H⟩ := H
                                replace H : (if t182 > (wrap64 ((x4_19.size : Int) - 4)) then (some (0, 0, 0, 0, (⟨#[]⟩ : ByteArray), 3)) else (if 4 ≤ (wrap64 (4 + t182)) then (if (wrap64 (4 + t182)) ≤ (x4_19.size : Int) then ((frame_Encode.f kj19 t176 t177 x179002_19 t181 (x4_19.extract 4 ((wrap64 (4 + t182)) : Int).toNat)).bind fun bt183 => (if bt183.2 = 0 then (if bt183.1.toList = a0.toList then (some (t176, t177, x179002_19, t181, x4_19.extract 4 ((wrap64 (4 + t182)) : Int).toNat, 0)) else (some (0, 0, 0, 0, (⟨#[]⟩ : ByteArray), 3))) else (some (0, 0, 0, 0, (⟨#[]⟩ : ByteArray), 3)))) else (none)) else (none))) = some (r1, r2, r3, r4, r5, r6) := H
                                have A47 := Aside0.mk A470
                                clear A470
                                by_cases c48 : t182 > (wrap64 ((x4_19.size : Int) - 4))
                                · rw [if_pos c48] at H
                                  have c48b0 : decide ((wrap64 ((x4_19.size : Int) - 4)) < t182) = true := decide_eq_true c48
                                  clear c48
                                  simp only [Option.some.injEq, Prod.mk.injEq] at H
                                  obtain ⟨rfl, rfl, rfl, rfl, rfl, rfl⟩ := H
                                  go_wp2_with (first | ((with_reducible refine gate_callee (f := 27) rfl ?_); refine goesL_ (some 50) rfl rfl Tryd.func27 (by kernel_rfl) rfl #[.string (x4_19.extract 0 2)] rfl (by (try simp only [List.map_toArray, List.map_cons, List.map_nil]); first | done | rfl | (simp only [List.length_drop, List.length_take]; rfl)) ?_; (with_reducible refine (frame_value.calls kj19 (x4_19.extract 0 2) t181 _ A44.out).mono ?_); rintro e w49 ⟨rfl, hb⟩; refine ⟨_, rfl, ?_⟩; have n0_ := Aside0.mk (blk_below (g := gb173) (o := .cells #[.int .i64 0, .int .i64 0, .int .i64 0, .int .i64 0, .string (⟨#[]⟩ : ByteArray)] 23 (0, 0)) (by (with_reducible repeat (first | refine blk_drewN ?_ _ | refine blk_drew ?_ | refine blk_alloc ?_ _)); exact BK173.out) hb); have n1_ := Aside0.mk (blk_below (g := gb178) (o := .cells #[.int .i64 t176, .int .i64 t177, .int .i64 x179002_19, .int .i64 0, .string (⟨#[]⟩ : ByteArray)] 23 (0, 0)) (by (with_reducible repeat (first | refine blk_drewN ?_ _ | refine blk_drew ?_ | refine blk_alloc ?_ _)); exact BK178.out) hb); have n2_ := Aside0.mk (below_step (by repeat (first | (with_reducible first | exact HB.out | apply below_alloc | apply pw_below_drewN | apply below_drew1 | refine below_set ?_ GE173.out | refine below_set ?_ GE178.out) | exact HB.out)) hb); clear BK173; clear BK178; clear HB; have BK173 := n0_; have BK178 := n1_; have HB := n2_; clear n0_ n1_ n2_; (try clear hb); (try clear hb2); (try clear hk); (try clear hi); have hnb50 := NB178_173.out; have hnc50 := NB173_178.out; have hcz51_0 : w49.cell? ⟨gb178, 0, none⟩ = some (.int .i64 t176) := (blk_cell BK178.out 0).trans rfl; have hcz51_1 : w49.cell? ⟨gb178, 1, none⟩ = some (.int .i64 t177) := (blk_cell BK178.out 1).trans rfl; have hcz51_2 : w49.cell? ⟨gb178, 2, none⟩ = some (.int .i64 x179002_19) := (blk_cell BK178.out 2).trans rfl; have hcz51_3 : w49.cell? ⟨gb178, 3, none⟩ = some (.int .i64 0) := (blk_cell BK178.out 3).trans rfl; have hcz51_4 : w49.cell? ⟨gb178, 4, none⟩ = some (.string (⟨#[]⟩ : ByteArray)) := (blk_cell BK178.out 4).trans rfl; have hfz51_0 := blk_frozen BK178.out 0; have hfz51_1 := blk_frozen BK178.out 1; have hfz51_2 := blk_frozen BK178.out 2; have hfz51_3 := blk_frozen BK178.out 3; have hfz51_4 := blk_frozen BK178.out 4) | ((with_reducible refine gate_callee (f := 27) rfl ?_); refine goesL_ (some 54) rfl rfl Tryd.func27 (by kernel_rfl) rfl #[.string (x4_19.extract 2 4)] rfl (by (try simp only [List.map_toArray, List.map_cons, List.map_nil]); first | done | rfl | (simp only [List.length_drop, List.length_take]; rfl)) ?_; (with_reducible refine (frame_value.calls kj19 (x4_19.extract 2 4) t182 _ A47.out).mono ?_); rintro e w52 ⟨rfl, hb⟩; refine ⟨_, rfl, ?_⟩; have n0_ := Aside0.mk (blk_below (g := gb173) (o := .cells #[.int .i64 0, .int .i64 0, .int .i64 0, .int .i64 0, .string (⟨#[]⟩ : ByteArray)] 23 (0, 0)) (by (with_reducible repeat (first | refine blk_drewN ?_ _ | refine blk_drew ?_ | refine blk_alloc ?_ _)); refine blk_far ?_ NB173_178.out _; (with_reducible repeat (first | refine blk_drewN ?_ _ | refine blk_drew ?_ | refine blk_alloc ?_ _)); exact BK173.out) hb); have n1_ := Aside0.mk (blk_below (g := gb178) (o := .cells #[.int .i64 t176, .int .i64 t177, .int .i64 x179002_19, .int .i64 t181, .string (⟨#[]⟩ : ByteArray)] 23 (0, 0)) (by (with_reducible repeat (first | refine blk_drewN ?_ _ | refine blk_drew ?_ | refine blk_alloc ?_ _)); refine blk_put (cs := #[.int .i64 t176, .int .i64 t177, .int .i64 x179002_19, .int .i64 0, .string (⟨#[]⟩ : ByteArray)]) ?_ 3 _ rfl; (with_reducible repeat (first | refine blk_drewN ?_ _ | refine blk_drew ?_ | refine blk_alloc ?_ _)); exact BK178.out) hb); have n2_ := Aside0.mk (below_step (by repeat (first | (with_reducible first | exact HB.out | apply below_alloc | apply pw_below_drewN | apply below_drew1 | refine below_set ?_ GE173.out | refine below_set ?_ GE178.out) | exact HB.out)) hb); clear BK173; clear BK178; clear HB; have BK173 := n0_; have BK178 := n1_; have HB := n2_; clear n0_ n1_ n2_; (try clear hb); (try clear hb2); (try clear hk); (try clear hi); have hcz53_0 : w52.cell? ⟨gb173, 0, none⟩ = some (.int .i64 0) := (blk_cell BK173.out 0).trans rfl; have hcz53_1 : w52.cell? ⟨gb173, 1, none⟩ = some (.int .i64 0) := (blk_cell BK173.out 1).trans rfl; have hcz53_2 : w52.cell? ⟨gb173, 2, none⟩ = some (.int .i64 0) := (blk_cell BK173.out 2).trans rfl; have hcz53_3 : w52.cell? ⟨gb173, 3, none⟩ = some (.int .i64 0) := (blk_cell BK173.out 3).trans rfl; have hcz53_4 : w52.cell? ⟨gb173, 4, none⟩ = some (.string (⟨#[]⟩ : ByteArray)) := (blk_cell BK173.out 4).trans rfl; have hfz53_0 := blk_frozen BK173.out 0; have hfz53_1 := blk_frozen BK173.out 1; have hfz53_2 := blk_frozen BK173.out 2; have hfz53_3 := blk_frozen BK173.out 3; have hfz53_4 := blk_frozen BK173.out 4))
                                  refine bodyPost_ret (results_ct rfl _ _ gb173 23 #[.int .i64 0, .int .i64 0, .int .i64 0, .int .i64 0, .string (⟨#[]⟩ : ByteArray)] (0, 0) _ rfl (by (with_reducible repeat (first | refine blk_drewN ?_ _ | refine blk_drew ?_ | refine blk_alloc ?_ _)); refine blk_put (cs := #[.int .i64 0, .int .i64 0, .int .i64 0, .int .i64 0, .string (⟨#[]⟩ : ByteArray)]) ?_ 4 _ rfl; (with_reducible repeat (first | refine blk_drewN ?_ _ | refine blk_drew ?_ | refine blk_alloc ?_ _)); refine blk_put (cs := #[.int .i64 0, .int .i64 0, .int .i64 0, .int .i64 0, .string (⟨#[]⟩ : ByteArray)]) ?_ 3 _ rfl; (with_reducible repeat (first | refine blk_drewN ?_ _ | refine blk_drew ?_ | refine blk_alloc ?_ _)); refine blk_put (cs := #[.int .i64 0, .int .i64 0, .int .i64 0, .int .i64 0, .string (⟨#[]⟩ : ByteArray)]) ?_ 2 _ rfl; (with_reducible repeat (first | refine blk_drewN ?_ _ | refine blk_drew ?_ | refine blk_alloc ?_ _)); refine blk_put (cs := #[.int .i64 0, .int .i64 0, .int .i64 0, .int .i64 0, .string (⟨#[]⟩ : ByteArray)]) ?_ 1 _ rfl; (with_reducible repeat (first | refine blk_drewN ?_ _ | refine blk_drew ?_ | refine blk_alloc ?_ _)); refine blk_put (cs := #[.int .i64 0, .int .i64 0, .int .i64 0, .int .i64 0, .string (⟨#[]⟩ : ByteArray)]) ?_ 0 _ rfl; (with_reducible repeat (first | refine blk_drewN ?_ _ | refine blk_drew ?_ | refine blk_alloc ?_ _)); exact BK173.out) Tryd.underlying23 rfl (by kernel_rfl)) rfl ?_
                                  exact ⟨by first | rfl | (simp [errW_none, errW_some] <;> rfl) | (simp [*, errW_none, errW_some] <;> rfl), by repeat (first | (with_reducible first | exact HB.out | apply below_alloc | apply pw_below_drewN | apply below_drew1 | refine below_set ?_ GE173.out | refine below_set ?_ GE178.out) | exact HB.out)⟩
                                · rw [if_neg c48] at H
                                  have c48b0 : decide ((wrap64 ((x4_19.size : Int) - 4)) < t182) = false := decide_eq_false c48
                                  clear c48
                                  by_cases c54 : 4 ≤ (wrap64 (4 + t182))
                                  · rw [if_pos c54] at H
                                    have c54b0 := eq_true c54
                                    try (have c54b0q := c54b0; simp only [ByteArray.size_append, ByteArray.size_extract, Nat.min_self, Nat.sub_zero, Int.natCast_add] at c54b0q)
                                    have c54b1 : decide (4 ≤ (wrap64 (4 + t182))) = true := decide_eq_true c54
                                    by_cases c55 : (wrap64 (4 + t182)) ≤ (x4_19.size : Int)
                                    · rw [if_pos c55] at H
                                      have c55b0 := eq_true c55
                                      try (have c55b0q := c55b0; simp only [ByteArray.size_append, ByteArray.size_extract, Nat.min_self, Nat.sub_zero, Int.natCast_add] at c55b0q)
                                      have c55b1 : decide ((wrap64 (4 + t182)) ≤ (x4_19.size : Int)) = true := decide_eq_true c55
                                      replace H := Option.bind_eq_some_iff.mp H
                                      obtain ⟨⟨t183, t184⟩, A560, H⟩ := H
                                      replace H : (if t184 = 0 then (if t183.toList = a0.toList then (some (t176, t177, x179002_19, t181, x4_19.extract 4 ((wrap64 (4 + t182)) : Int).toNat, 0)) else (some (0, 0, 0, 0, (⟨#[]⟩ : ByteArray), 3))) else (some (0, 0, 0, 0, (⟨#[]⟩ : ByteArray), 3))) = some (r1, r2, r3, r4, r5, r6) := H
                                      have A56 := Aside0.mk A560
                                      clear A560
                                      by_cases c57 : t184 = 0
                                      · rw [if_pos c57] at H
                                        have c57b0 : (t184 == 0) = true := beq_iff_eq.mpr c57
                                        have c57b1 : (t184 != 0) = false := bne_eq_false_iff_eq.mpr c57
                                        clear c57
                                        by_cases c58 : t183.toList = a0.toList
                                        · rw [if_pos c58] at H
                                          have c58b0 : (t183.toList == a0.toList) = true := beq_iff_eq.mpr c58
                                          have c58b1 : (t183.toList != a0.toList) = false := bne_eq_false_iff_eq.mpr c58
                                          clear c58
                                          simp only [Option.some.injEq, Prod.mk.injEq] at H
                                          obtain ⟨rfl, rfl, rfl, rfl, rfl, rfl⟩ := H
                                          go_wp2_with (first | ((with_reducible refine gate_callee (f := 27) rfl ?_); refine goesL_ (some 50) rfl rfl Tryd.func27 (by kernel_rfl) rfl #[.string (x4_19.extract 0 2)] rfl (by (try simp only [List.map_toArray, List.map_cons, List.map_nil]); first | done | rfl | (simp only [List.length_drop, List.length_take]; rfl)) ?_; (with_reducible refine (frame_value.calls kj19 (x4_19.extract 0 2) t181 _ A44.out).mono ?_); rintro e w59 ⟨rfl, hb⟩; refine ⟨_, rfl, ?_⟩; have n0_ := Aside0.mk (blk_below (g := gb173) (o := .cells #[.int .i64 0, .int .i64 0, .int .i64 0, .int .i64 0, .string (⟨#[]⟩ : ByteArray)] 23 (0, 0)) (by (with_reducible repeat (first | refine blk_drewN ?_ _ | refine blk_drew ?_ | refine blk_alloc ?_ _)); exact BK173.out) hb); have n1_ := Aside0.mk (blk_below (g := gb178) (o := .cells #[.int .i64 t176, .int .i64 t177, .int .i64 x179002_19, .int .i64 0, .string (⟨#[]⟩ : ByteArray)] 23 (0, 0)) (by (with_reducible repeat (first | refine blk_drewN ?_ _ | refine blk_drew ?_ | refine blk_alloc ?_ _)); exact BK178.out) hb); have n2_ := Aside0.mk (below_step (by repeat (first | (with_reducible first | exact HB.out | apply below_alloc | apply pw_below_drewN | apply below_drew1 | refine below_set ?_ GE173.out | refine below_set ?_ GE178.out) | exact HB.out)) hb); clear BK173; clear BK178; clear HB; have BK173 := n0_; have BK178 := n1_; have HB := n2_; clear n0_ n1_ n2_; (try clear hb); (try clear hb2); (try clear hk); (try clear hi); have hnb60 := NB178_173.out; have hnc60 := NB173_178.out; have hcz61_0 : w59.cell? ⟨gb178, 0, none⟩ = some (.int .i64 t176) := (blk_cell BK178.out 0).trans rfl; have hcz61_1 : w59.cell? ⟨gb178, 1, none⟩ = some (.int .i64 t177) := (blk_cell BK178.out 1).trans rfl; have hcz61_2 : w59.cell? ⟨gb178, 2, none⟩ = some (.int .i64 x179002_19) := (blk_cell BK178.out 2).trans rfl; have hcz61_3 : w59.cell? ⟨gb178, 3, none⟩ = some (.int .i64 0) := (blk_cell BK178.out 3).trans rfl; have hcz61_4 : w59.cell? ⟨gb178, 4, none⟩ = some (.string (⟨#[]⟩ : ByteArray)) := (blk_cell BK178.out 4).trans rfl; have hfz61_0 := blk_frozen BK178.out 0; have hfz61_1 := blk_frozen BK178.out 1; have hfz61_2 := blk_frozen BK178.out 2; have hfz61_3 := blk_frozen BK178.out 3; have hfz61_4 := blk_frozen BK178.out 4) | ((with_reducible refine gate_callee (f := 27) rfl ?_); refine goesL_ (some 54) rfl rfl Tryd.func27 (by kernel_rfl) rfl #[.string (x4_19.extract 2 4)] rfl (by (try simp only [List.map_toArray, List.map_cons, List.map_nil]); first | done | rfl | (simp only [List.length_drop, List.length_take]; rfl)) ?_; (with_reducible refine (frame_value.calls kj19 (x4_19.extract 2 4) t182 _ A47.out).mono ?_); rintro e w62 ⟨rfl, hb⟩; refine ⟨_, rfl, ?_⟩; have n0_ := Aside0.mk (blk_below (g := gb173) (o := .cells #[.int .i64 0, .int .i64 0, .int .i64 0, .int .i64 0, .string (⟨#[]⟩ : ByteArray)] 23 (0, 0)) (by (with_reducible repeat (first | refine blk_drewN ?_ _ | refine blk_drew ?_ | refine blk_alloc ?_ _)); refine blk_far ?_ NB173_178.out _; (with_reducible repeat (first | refine blk_drewN ?_ _ | refine blk_drew ?_ | refine blk_alloc ?_ _)); exact BK173.out) hb); have n1_ := Aside0.mk (blk_below (g := gb178) (o := .cells #[.int .i64 t176, .int .i64 t177, .int .i64 x179002_19, .int .i64 t181, .string (⟨#[]⟩ : ByteArray)] 23 (0, 0)) (by (with_reducible repeat (first | refine blk_drewN ?_ _ | refine blk_drew ?_ | refine blk_alloc ?_ _)); refine blk_put (cs := #[.int .i64 t176, .int .i64 t177, .int .i64 x179002_19, .int .i64 0, .string (⟨#[]⟩ : ByteArray)]) ?_ 3 _ rfl; (with_reducible repeat (first | refine blk_drewN ?_ _ | refine blk_drew ?_ | refine blk_alloc ?_ _)); exact BK178.out) hb); have n2_ := Aside0.mk (below_step (by repeat (first | (with_reducible first | exact HB.out | apply below_alloc | apply pw_below_drewN | apply below_drew1 | refine below_set ?_ GE173.out | refine below_set ?_ GE178.out) | exact HB.out)) hb); clear BK173; clear BK178; clear HB; have BK173 := n0_; have BK178 := n1_; have HB := n2_; clear n0_ n1_ n2_; (try clear hb); (try clear hb2); (try clear hk); (try clear hi); have hcz63_0 : w62.cell? ⟨gb178, 0, none⟩ = some (.int .i64 t176) := (blk_cell BK178.out 0).trans rfl; have hcz63_1 : w62.cell? ⟨gb178, 1, none⟩ = some (.int .i64 t177) := (blk_cell BK178.out 1).trans rfl; have hcz63_2 : w62.cell? ⟨gb178, 2, none⟩ = some (.int .i64 x179002_19) := (blk_cell BK178.out 2).trans rfl; have hcz63_3 : w62.cell? ⟨gb178, 3, none⟩ = some (.int .i64 t181) := (blk_cell BK178.out 3).trans rfl; have hcz63_4 : w62.cell? ⟨gb178, 4, none⟩ = some (.string (⟨#[]⟩ : ByteArray)) := (blk_cell BK178.out 4).trans rfl; have hfz63_0 := blk_frozen BK178.out 0; have hfz63_1 := blk_frozen BK178.out 1; have hfz63_2 := blk_frozen BK178.out 2; have hfz63_3 := blk_frozen BK178.out 3; have hfz63_4 := blk_frozen BK178.out 4) | ((with_reducible refine gate_callee (f := 7) rfl ?_); refine goesL_ (some 68) rfl rfl Tryd.func7 (by kernel_rfl) rfl #[.agg #[.int .i64 t176, .int .i64 t177, .int .i64 x179002_19, .int .i64 t181, .string (x4_19.extract 4 ((wrap64 (4 + t182)) : Int).toNat)]] rfl (by (try simp only [List.map_toArray, List.map_cons, List.map_nil]); first | done | rfl | (simp only [List.length_drop, List.length_take]; rfl)) ?_; (with_reducible refine (frame_Encode.calls kj19 t176 t177 x179002_19 t181 (x4_19.extract 4 ((wrap64 (4 + t182)) : Int).toNat) t183 t184 _ A56.out).mono ?_); rintro e w64 ⟨rfl, hb⟩; refine ⟨_, rfl, ?_⟩; have n0_ := Aside0.mk (blk_below (g := gb173) (o := .cells #[.int .i64 0, .int .i64 0, .int .i64 0, .int .i64 0, .string (⟨#[]⟩ : ByteArray)] 23 (0, 0)) (by (with_reducible repeat (first | refine blk_drewN ?_ _ | refine blk_drew ?_ | refine blk_alloc ?_ _)); refine blk_far ?_ NB173_178.out _; (with_reducible repeat (first | refine blk_drewN ?_ _ | refine blk_drew ?_ | refine blk_alloc ?_ _)); exact BK173.out) hb); have n1_ := Aside0.mk (blk_below (g := gb178) (o := .cells #[.int .i64 t176, .int .i64 t177, .int .i64 x179002_19, .int .i64 t181, .string (x4_19.extract 4 ((wrap64 (4 + t182)) : Int).toNat)] 23 (0, 0)) (by (with_reducible repeat (first | refine blk_drewN ?_ _ | refine blk_drew ?_ | refine blk_alloc ?_ _)); refine blk_put (cs := #[.int .i64 t176, .int .i64 t177, .int .i64 x179002_19, .int .i64 t181, .string (⟨#[]⟩ : ByteArray)]) ?_ 4 _ rfl; (with_reducible repeat (first | refine blk_drewN ?_ _ | refine blk_drew ?_ | refine blk_alloc ?_ _)); exact BK178.out) hb); have n2_ := Aside0.mk (below_step (by repeat (first | (with_reducible first | exact HB.out | apply below_alloc | apply pw_below_drewN | apply below_drew1 | refine below_set ?_ GE173.out | refine below_set ?_ GE178.out) | exact HB.out)) hb); clear BK173; clear BK178; clear HB; have BK173 := n0_; have BK178 := n1_; have HB := n2_; clear n0_ n1_ n2_; (try clear hb); (try clear hb2); (try clear hk); (try clear hi); have hcz65_0 : w64.cell? ⟨gb178, 0, none⟩ = some (.int .i64 t176) := (blk_cell BK178.out 0).trans rfl; have hcz65_1 : w64.cell? ⟨gb178, 1, none⟩ = some (.int .i64 t177) := (blk_cell BK178.out 1).trans rfl; have hcz65_2 : w64.cell? ⟨gb178, 2, none⟩ = some (.int .i64 x179002_19) := (blk_cell BK178.out 2).trans rfl; have hcz65_3 : w64.cell? ⟨gb178, 3, none⟩ = some (.int .i64 t181) := (blk_cell BK178.out 3).trans rfl; have hcz65_4 : w64.cell? ⟨gb178, 4, none⟩ = some (.string (x4_19.extract 4 ((wrap64 (4 + t182)) : Int).toNat)) := (blk_cell BK178.out 4).trans rfl; have hfz65_0 := blk_frozen BK178.out 0; have hfz65_1 := blk_frozen BK178.out 1; have hfz65_2 := blk_frozen BK178.out 2; have hfz65_3 := blk_frozen BK178.out 3; have hfz65_4 := blk_frozen BK178.out 4; have hcz66_0 : w64.cell? ⟨gb173, 0, none⟩ = some (.int .i64 0) := (blk_cell BK173.out 0).trans rfl; have hcz66_1 : w64.cell? ⟨gb173, 1, none⟩ = some (.int .i64 0) := (blk_cell BK173.out 1).trans rfl; have hcz66_2 : w64.cell? ⟨gb173, 2, none⟩ = some (.int .i64 0) := (blk_cell BK173.out 2).trans rfl; have hcz66_3 : w64.cell? ⟨gb173, 3, none⟩ = some (.int .i64 0) := (blk_cell BK173.out 3).trans rfl; have hcz66_4 : w64.cell? ⟨gb173, 4, none⟩ = some (.string (⟨#[]⟩ : ByteArray)) := (blk_cell BK173.out 4).trans rfl; have hfz66_0 := blk_frozen BK173.out 0; have hfz66_1 := blk_frozen BK173.out 1; have hfz66_2 := blk_frozen BK173.out 2; have hfz66_3 := blk_frozen BK173.out 3; have hfz66_4 := blk_frozen BK173.out 4))
                                          refine bodyPost_ret (results_ct rfl _ _ gb173 23 #[.int .i64 t176, .int .i64 t177, .int .i64 x179002_19, .int .i64 t181, .string (x4_19.extract 4 ((wrap64 (4 + t182)) : Int).toNat)] (0, 0) _ rfl (by (with_reducible repeat (first | refine blk_drewN ?_ _ | refine blk_drew ?_ | refine blk_alloc ?_ _)); refine blk_put (cs := #[.int .i64 t176, .int .i64 t177, .int .i64 x179002_19, .int .i64 t181, .string (⟨#[]⟩ : ByteArray)]) ?_ 4 _ rfl; (with_reducible repeat (first | refine blk_drewN ?_ _ | refine blk_drew ?_ | refine blk_alloc ?_ _)); refine blk_put (cs := #[.int .i64 t176, .int .i64 t177, .int .i64 x179002_19, .int .i64 0, .string (⟨#[]⟩ : ByteArray)]) ?_ 3 _ rfl; (with_reducible repeat (first | refine blk_drewN ?_ _ | refine blk_drew ?_ | refine blk_alloc ?_ _)); refine blk_put (cs := #[.int .i64 t176, .int .i64 t177, .int .i64 0, .int .i64 0, .string (⟨#[]⟩ : ByteArray)]) ?_ 2 _ rfl; (with_reducible repeat (first | refine blk_drewN ?_ _ | refine blk_drew ?_ | refine blk_alloc ?_ _)); refine blk_put (cs := #[.int .i64 t176, .int .i64 0, .int .i64 0, .int .i64 0, .string (⟨#[]⟩ : ByteArray)]) ?_ 1 _ rfl; (with_reducible repeat (first | refine blk_drewN ?_ _ | refine blk_drew ?_ | refine blk_alloc ?_ _)); refine blk_put (cs := #[.int .i64 0, .int .i64 0, .int .i64 0, .int .i64 0, .string (⟨#[]⟩ : ByteArray)]) ?_ 0 _ rfl; (with_reducible repeat (first | refine blk_drewN ?_ _ | refine blk_drew ?_ | refine blk_alloc ?_ _)); exact BK173.out) Tryd.underlying23 rfl (by kernel_rfl)) rfl ?_
                                          exact ⟨by first | rfl | (simp [errW_none, errW_some] <;> rfl) | (simp [*, errW_none, errW_some] <;> rfl), by repeat (first | (with_reducible first | exact HB.out | apply below_alloc | apply pw_below_drewN | apply below_drew1 | refine below_set ?_ GE173.out | refine below_set ?_ GE178.out) | exact HB.out)⟩
                                        · rw [if_neg c58] at H
                                          have c58b0 : (t183.toList == a0.toList) = false := beq_eq_false_iff_ne.mpr c58
                                          have c58b1 : (t183.toList != a0.toList) = true := bne_iff_ne.mpr c58
                                          simp only [Option.some.injEq, Prod.mk.injEq] at H
                                          obtain ⟨rfl, rfl, rfl, rfl, rfl, rfl⟩ := H
                                          go_wp2_with (first | ((with_reducible refine gate_callee (f := 27) rfl ?_); refine goesL_ (some 50) rfl rfl Tryd.func27 (by kernel_rfl) rfl #[.string (x4_19.extract 0 2)] rfl (by (try simp only [List.map_toArray, List.map_cons, List.map_nil]); first | done | rfl | (simp only [List.length_drop, List.length_take]; rfl)) ?_; (with_reducible refine (frame_value.calls kj19 (x4_19.extract 0 2) t181 _ A44.out).mono ?_); rintro e w67 ⟨rfl, hb⟩; refine ⟨_, rfl, ?_⟩; have n0_ := Aside0.mk (blk_below (g := gb173) (o := .cells #[.int .i64 0, .int .i64 0, .int .i64 0, .int .i64 0, .string (⟨#[]⟩ : ByteArray)] 23 (0, 0)) (by (with_reducible repeat (first | refine blk_drewN ?_ _ | refine blk_drew ?_ | refine blk_alloc ?_ _)); exact BK173.out) hb); have n1_ := Aside0.mk (blk_below (g := gb178) (o := .cells #[.int .i64 t176, .int .i64 t177, .int .i64 x179002_19, .int .i64 0, .string (⟨#[]⟩ : ByteArray)] 23 (0, 0)) (by (with_reducible repeat (first | refine blk_drewN ?_ _ | refine blk_drew ?_ | refine blk_alloc ?_ _)); exact BK178.out) hb); have n2_ := Aside0.mk (below_step (by repeat (first | (with_reducible first | exact HB.out | apply below_alloc | apply pw_below_drewN | apply below_drew1 | refine below_set ?_ GE173.out | refine below_set ?_ GE178.out) | exact HB.out)) hb); clear BK173; clear BK178; clear HB; have BK173 := n0_; have BK178 := n1_; have HB := n2_; clear n0_ n1_ n2_; (try clear hb); (try clear hb2); (try clear hk); (try clear hi); have hnb68 := NB178_173.out; have hnc68 := NB173_178.out; have hcz69_0 : w67.cell? ⟨gb178, 0, none⟩ = some (.int .i64 t176) := (blk_cell BK178.out 0).trans rfl; have hcz69_1 : w67.cell? ⟨gb178, 1, none⟩ = some (.int .i64 t177) := (blk_cell BK178.out 1).trans rfl; have hcz69_2 : w67.cell? ⟨gb178, 2, none⟩ = some (.int .i64 x179002_19) := (blk_cell BK178.out 2).trans rfl; have hcz69_3 : w67.cell? ⟨gb178, 3, none⟩ = some (.int .i64 0) := (blk_cell BK178.out 3).trans rfl; have hcz69_4 : w67.cell? ⟨gb178, 4, none⟩ = some (.string (⟨#[]⟩ : ByteArray)) := (blk_cell BK178.out 4).trans rfl; have hfz69_0 := blk_frozen BK178.out 0; have hfz69_1 := blk_frozen BK178.out 1; have hfz69_2 := blk_frozen BK178.out 2; have hfz69_3 := blk_frozen BK178.out 3; have hfz69_4 := blk_frozen BK178.out 4) | ((with_reducible refine gate_callee (f := 27) rfl ?_); refine goesL_ (some 54) rfl rfl Tryd.func27 (by kernel_rfl) rfl #[.string (x4_19.extract 2 4)] rfl (by (try simp only [List.map_toArray, List.map_cons, List.map_nil]); first | done | rfl | (simp only [List.length_drop, List.length_take]; rfl)) ?_; (with_reducible refine (frame_value.calls kj19 (x4_19.extract 2 4) t182 _ A47.out).mono ?_); rintro e w70 ⟨rfl, hb⟩; refine ⟨_, rfl, ?_⟩; have n0_ := Aside0.mk (blk_below (g := gb173) (o := .cells #[.int .i64 0, .int .i64 0, .int .i64 0, .int .i64 0, .string (⟨#[]⟩ : ByteArray)] 23 (0, 0)) (by (with_reducible repeat (first | refine blk_drewN ?_ _ | refine blk_drew ?_ | refine blk_alloc ?_ _)); refine blk_far ?_ NB173_178.out _; (with_reducible repeat (first | refine blk_drewN ?_ _ | refine blk_drew ?_ | refine blk_alloc ?_ _)); exact BK173.out) hb); have n1_ := Aside0.mk (blk_below (g := gb178) (o := .cells #[.int .i64 t176, .int .i64 t177, .int .i64 x179002_19, .int .i64 t181, .string (⟨#[]⟩ : ByteArray)] 23 (0, 0)) (by (with_reducible repeat (first | refine blk_drewN ?_ _ | refine blk_drew ?_ | refine blk_alloc ?_ _)); refine blk_put (cs := #[.int .i64 t176, .int .i64 t177, .int .i64 x179002_19, .int .i64 0, .string (⟨#[]⟩ : ByteArray)]) ?_ 3 _ rfl; (with_reducible repeat (first | refine blk_drewN ?_ _ | refine blk_drew ?_ | refine blk_alloc ?_ _)); exact BK178.out) hb); have n2_ := Aside0.mk (below_step (by repeat (first | (with_reducible first | exact HB.out | apply below_alloc | apply pw_below_drewN | apply below_drew1 | refine below_set ?_ GE173.out | refine below_set ?_ GE178.out) | exact HB.out)) hb); clear BK173; clear BK178; clear HB; have BK173 := n0_; have BK178 := n1_; have HB := n2_; clear n0_ n1_ n2_; (try clear hb); (try clear hb2); (try clear hk); (try clear hi); have hcz71_0 : w70.cell? ⟨gb178, 0, none⟩ = some (.int .i64 t176) := (blk_cell BK178.out 0).trans rfl; have hcz71_1 : w70.cell? ⟨gb178, 1, none⟩ = some (.int .i64 t177) := (blk_cell BK178.out 1).trans rfl; have hcz71_2 : w70.cell? ⟨gb178, 2, none⟩ = some (.int .i64 x179002_19) := (blk_cell BK178.out 2).trans rfl; have hcz71_3 : w70.cell? ⟨gb178, 3, none⟩ = some (.int .i64 t181) := (blk_cell BK178.out 3).trans rfl; have hcz71_4 : w70.cell? ⟨gb178, 4, none⟩ = some (.string (⟨#[]⟩ : ByteArray)) := (blk_cell BK178.out 4).trans rfl; have hfz71_0 := blk_frozen BK178.out 0; have hfz71_1 := blk_frozen BK178.out 1; have hfz71_2 := blk_frozen BK178.out 2; have hfz71_3 := blk_frozen BK178.out 3; have hfz71_4 := blk_frozen BK178.out 4) | ((with_reducible refine gate_callee (f := 7) rfl ?_); refine goesL_ (some 68) rfl rfl Tryd.func7 (by kernel_rfl) rfl #[.agg #[.int .i64 t176, .int .i64 t177, .int .i64 x179002_19, .int .i64 t181, .string (x4_19.extract 4 ((wrap64 (4 + t182)) : Int).toNat)]] rfl (by (try simp only [List.map_toArray, List.map_cons, List.map_nil]); first | done | rfl | (simp only [List.length_drop, List.length_take]; rfl)) ?_; (with_reducible refine (frame_Encode.calls kj19 t176 t177 x179002_19 t181 (x4_19.extract 4 ((wrap64 (4 + t182)) : Int).toNat) t183 t184 _ A56.out).mono ?_); rintro e w72 ⟨rfl, hb⟩; refine ⟨_, rfl, ?_⟩; have n0_ := Aside0.mk (blk_below (g := gb173) (o := .cells #[.int .i64 0, .int .i64 0, .int .i64 0, .int .i64 0, .string (⟨#[]⟩ : ByteArray)] 23 (0, 0)) (by (with_reducible repeat (first | refine blk_drewN ?_ _ | refine blk_drew ?_ | refine blk_alloc ?_ _)); refine blk_far ?_ NB173_178.out _; (with_reducible repeat (first | refine blk_drewN ?_ _ | refine blk_drew ?_ | refine blk_alloc ?_ _)); exact BK173.out) hb); have n1_ := Aside0.mk (blk_below (g := gb178) (o := .cells #[.int .i64 t176, .int .i64 t177, .int .i64 x179002_19, .int .i64 t181, .string (x4_19.extract 4 ((wrap64 (4 + t182)) : Int).toNat)] 23 (0, 0)) (by (with_reducible repeat (first | refine blk_drewN ?_ _ | refine blk_drew ?_ | refine blk_alloc ?_ _)); refine blk_put (cs := #[.int .i64 t176, .int .i64 t177, .int .i64 x179002_19, .int .i64 t181, .string (⟨#[]⟩ : ByteArray)]) ?_ 4 _ rfl; (with_reducible repeat (first | refine blk_drewN ?_ _ | refine blk_drew ?_ | refine blk_alloc ?_ _)); exact BK178.out) hb); have n2_ := Aside0.mk (below_step (by repeat (first | (with_reducible first | exact HB.out | apply below_alloc | apply pw_below_drewN | apply below_drew1 | refine below_set ?_ GE173.out | refine below_set ?_ GE178.out) | exact HB.out)) hb); clear BK173; clear BK178; clear HB; have BK173 := n0_; have BK178 := n1_; have HB := n2_; clear n0_ n1_ n2_; (try clear hb); (try clear hb2); (try clear hk); (try clear hi); have hcz73_0 : w72.cell? ⟨gb173, 0, none⟩ = some (.int .i64 0) := (blk_cell BK173.out 0).trans rfl; have hcz73_1 : w72.cell? ⟨gb173, 1, none⟩ = some (.int .i64 0) := (blk_cell BK173.out 1).trans rfl; have hcz73_2 : w72.cell? ⟨gb173, 2, none⟩ = some (.int .i64 0) := (blk_cell BK173.out 2).trans rfl; have hcz73_3 : w72.cell? ⟨gb173, 3, none⟩ = some (.int .i64 0) := (blk_cell BK173.out 3).trans rfl; have hcz73_4 : w72.cell? ⟨gb173, 4, none⟩ = some (.string (⟨#[]⟩ : ByteArray)) := (blk_cell BK173.out 4).trans rfl; have hfz73_0 := blk_frozen BK173.out 0; have hfz73_1 := blk_frozen BK173.out 1; have hfz73_2 := blk_frozen BK173.out 2; have hfz73_3 := blk_frozen BK173.out 3; have hfz73_4 := blk_frozen BK173.out 4))
                                          refine bodyPost_ret (results_ct rfl _ _ gb173 23 #[.int .i64 0, .int .i64 0, .int .i64 0, .int .i64 0, .string (⟨#[]⟩ : ByteArray)] (0, 0) _ rfl (by (with_reducible repeat (first | refine blk_drewN ?_ _ | refine blk_drew ?_ | refine blk_alloc ?_ _)); refine blk_put (cs := #[.int .i64 0, .int .i64 0, .int .i64 0, .int .i64 0, .string (⟨#[]⟩ : ByteArray)]) ?_ 4 _ rfl; (with_reducible repeat (first | refine blk_drewN ?_ _ | refine blk_drew ?_ | refine blk_alloc ?_ _)); refine blk_put (cs := #[.int .i64 0, .int .i64 0, .int .i64 0, .int .i64 0, .string (⟨#[]⟩ : ByteArray)]) ?_ 3 _ rfl; (with_reducible repeat (first | refine blk_drewN ?_ _ | refine blk_drew ?_ | refine blk_alloc ?_ _)); refine blk_put (cs := #[.int .i64 0, .int .i64 0, .int .i64 0, .int .i64 0, .string (⟨#[]⟩ : ByteArray)]) ?_ 2 _ rfl; (with_reducible repeat (first | refine blk_drewN ?_ _ | refine blk_drew ?_ | refine blk_alloc ?_ _)); refine blk_put (cs := #[.int .i64 0, .int .i64 0, .int .i64 0, .int .i64 0, .string (⟨#[]⟩ : ByteArray)]) ?_ 1 _ rfl; (with_reducible repeat (first | refine blk_drewN ?_ _ | refine blk_drew ?_ | refine blk_alloc ?_ _)); refine blk_put (cs := #[.int .i64 0, .int .i64 0, .int .i64 0, .int .i64 0, .string (⟨#[]⟩ : ByteArray)]) ?_ 0 _ rfl; (with_reducible repeat (first | refine blk_drewN ?_ _ | refine blk_drew ?_ | refine blk_alloc ?_ _)); exact BK173.out) Tryd.underlying23 rfl (by kernel_rfl)) rfl ?_
                                          exact ⟨by first | rfl | (simp [errW_none, errW_some] <;> rfl) | (simp [*, errW_none, errW_some] <;> rfl), by repeat (first | (with_reducible first | exact HB.out | apply below_alloc | apply pw_below_drewN | apply below_drew1 | refine below_set ?_ GE173.out | refine below_set ?_ GE178.out) | exact HB.out)⟩
                                      · rw [if_neg c57] at H
                                        have c57b0 : (t184 == 0) = false := beq_eq_false_iff_ne.mpr c57
                                        have c57b1 : (t184 != 0) = true := bne_iff_ne.mpr c57
                                        simp only [Option.some.injEq, Prod.mk.injEq] at H
                                        obtain ⟨rfl, rfl, rfl, rfl, rfl, rfl⟩ := H
                                        go_wp2_with (first | ((with_reducible refine gate_callee (f := 27) rfl ?_); refine goesL_ (some 50) rfl rfl Tryd.func27 (by kernel_rfl) rfl #[.string (x4_19.extract 0 2)] rfl (by (try simp only [List.map_toArray, List.map_cons, List.map_nil]); first | done | rfl | (simp only [List.length_drop, List.length_take]; rfl)) ?_; (with_reducible refine (frame_value.calls kj19 (x4_19.extract 0 2) t181 _ A44.out).mono ?_); rintro e w74 ⟨rfl, hb⟩; refine ⟨_, rfl, ?_⟩; have n0_ := Aside0.mk (blk_below (g := gb173) (o := .cells #[.int .i64 0, .int .i64 0, .int .i64 0, .int .i64 0, .string (⟨#[]⟩ : ByteArray)] 23 (0, 0)) (by (with_reducible repeat (first | refine blk_drewN ?_ _ | refine blk_drew ?_ | refine blk_alloc ?_ _)); exact BK173.out) hb); have n1_ := Aside0.mk (blk_below (g := gb178) (o := .cells #[.int .i64 t176, .int .i64 t177, .int .i64 x179002_19, .int .i64 0, .string (⟨#[]⟩ : ByteArray)] 23 (0, 0)) (by (with_reducible repeat (first | refine blk_drewN ?_ _ | refine blk_drew ?_ | refine blk_alloc ?_ _)); exact BK178.out) hb); have n2_ := Aside0.mk (below_step (by repeat (first | (with_reducible first | exact HB.out | apply below_alloc | apply pw_below_drewN | apply below_drew1 | refine below_set ?_ GE173.out | refine below_set ?_ GE178.out) | exact HB.out)) hb); clear BK173; clear BK178; clear HB; have BK173 := n0_; have BK178 := n1_; have HB := n2_; clear n0_ n1_ n2_; (try clear hb); (try clear hb2); (try clear hk); (try clear hi); have hnb75 := NB178_173.out; have hnc75 := NB173_178.out; have hcz76_0 : w74.cell? ⟨gb178, 0, none⟩ = some (.int .i64 t176) := (blk_cell BK178.out 0).trans rfl; have hcz76_1 : w74.cell? ⟨gb178, 1, none⟩ = some (.int .i64 t177) := (blk_cell BK178.out 1).trans rfl; have hcz76_2 : w74.cell? ⟨gb178, 2, none⟩ = some (.int .i64 x179002_19) := (blk_cell BK178.out 2).trans rfl; have hcz76_3 : w74.cell? ⟨gb178, 3, none⟩ = some (.int .i64 0) := (blk_cell BK178.out 3).trans rfl; have hcz76_4 : w74.cell? ⟨gb178, 4, none⟩ = some (.string (⟨#[]⟩ : ByteArray)) := (blk_cell BK178.out 4).trans rfl; have hfz76_0 := blk_frozen BK178.out 0; have hfz76_1 := blk_frozen BK178.out 1; have hfz76_2 := blk_frozen BK178.out 2; have hfz76_3 := blk_frozen BK178.out 3; have hfz76_4 := blk_frozen BK178.out 4) | ((with_reducible refine gate_callee (f := 27) rfl ?_); refine goesL_ (some 54) rfl rfl Tryd.func27 (by kernel_rfl) rfl #[.string (x4_19.extract 2 4)] rfl (by (try simp only [List.map_toArray, List.map_cons, List.map_nil]); first | done | rfl | (simp only [List.length_drop, List.length_take]; rfl)) ?_; (with_reducible refine (frame_value.calls kj19 (x4_19.extract 2 4) t182 _ A47.out).mono ?_); rintro e w77 ⟨rfl, hb⟩; refine ⟨_, rfl, ?_⟩; have n0_ := Aside0.mk (blk_below (g := gb173) (o := .cells #[.int .i64 0, .int .i64 0, .int .i64 0, .int .i64 0, .string (⟨#[]⟩ : ByteArray)] 23 (0, 0)) (by (with_reducible repeat (first | refine blk_drewN ?_ _ | refine blk_drew ?_ | refine blk_alloc ?_ _)); refine blk_far ?_ NB173_178.out _; (with_reducible repeat (first | refine blk_drewN ?_ _ | refine blk_drew ?_ | refine blk_alloc ?_ _)); exact BK173.out) hb); have n1_ := Aside0.mk (blk_below (g := gb178) (o := .cells #[.int .i64 t176, .int .i64 t177, .int .i64 x179002_19, .int .i64 t181, .string (⟨#[]⟩ : ByteArray)] 23 (0, 0)) (by (with_reducible repeat (first | refine blk_drewN ?_ _ | refine blk_drew ?_ | refine blk_alloc ?_ _)); refine blk_put (cs := #[.int .i64 t176, .int .i64 t177, .int .i64 x179002_19, .int .i64 0, .string (⟨#[]⟩ : ByteArray)]) ?_ 3 _ rfl; (with_reducible repeat (first | refine blk_drewN ?_ _ | refine blk_drew ?_ | refine blk_alloc ?_ _)); exact BK178.out) hb); have n2_ := Aside0.mk (below_step (by repeat (first | (with_reducible first | exact HB.out | apply below_alloc | apply pw_below_drewN | apply below_drew1 | refine below_set ?_ GE173.out | refine below_set ?_ GE178.out) | exact HB.out)) hb); clear BK173; clear BK178; clear HB; have BK173 := n0_; have BK178 := n1_; have HB := n2_; clear n0_ n1_ n2_; (try clear hb); (try clear hb2); (try clear hk); (try clear hi); have hcz78_0 : w77.cell? ⟨gb178, 0, none⟩ = some (.int .i64 t176) := (blk_cell BK178.out 0).trans rfl; have hcz78_1 : w77.cell? ⟨gb178, 1, none⟩ = some (.int .i64 t177) := (blk_cell BK178.out 1).trans rfl; have hcz78_2 : w77.cell? ⟨gb178, 2, none⟩ = some (.int .i64 x179002_19) := (blk_cell BK178.out 2).trans rfl; have hcz78_3 : w77.cell? ⟨gb178, 3, none⟩ = some (.int .i64 t181) := (blk_cell BK178.out 3).trans rfl; have hcz78_4 : w77.cell? ⟨gb178, 4, none⟩ = some (.string (⟨#[]⟩ : ByteArray)) := (blk_cell BK178.out 4).trans rfl; have hfz78_0 := blk_frozen BK178.out 0; have hfz78_1 := blk_frozen BK178.out 1; have hfz78_2 := blk_frozen BK178.out 2; have hfz78_3 := blk_frozen BK178.out 3; have hfz78_4 := blk_frozen BK178.out 4) | ((with_reducible refine gate_callee (f := 7) rfl ?_); refine goesL_ (some 68) rfl rfl Tryd.func7 (by kernel_rfl) rfl #[.agg #[.int .i64 t176, .int .i64 t177, .int .i64 x179002_19, .int .i64 t181, .string (x4_19.extract 4 ((wrap64 (4 + t182)) : Int).toNat)]] rfl (by (try simp only [List.map_toArray, List.map_cons, List.map_nil]); first | done | rfl | (simp only [List.length_drop, List.length_take]; rfl)) ?_; (with_reducible refine (frame_Encode.calls kj19 t176 t177 x179002_19 t181 (x4_19.extract 4 ((wrap64 (4 + t182)) : Int).toNat) t183 t184 _ A56.out).mono ?_); rintro e w79 ⟨rfl, hb⟩; refine ⟨_, rfl, ?_⟩; have n0_ := Aside0.mk (blk_below (g := gb173) (o := .cells #[.int .i64 0, .int .i64 0, .int .i64 0, .int .i64 0, .string (⟨#[]⟩ : ByteArray)] 23 (0, 0)) (by (with_reducible repeat (first | refine blk_drewN ?_ _ | refine blk_drew ?_ | refine blk_alloc ?_ _)); refine blk_far ?_ NB173_178.out _; (with_reducible repeat (first | refine blk_drewN ?_ _ | refine blk_drew ?_ | refine blk_alloc ?_ _)); exact BK173.out) hb); have n1_ := Aside0.mk (blk_below (g := gb178) (o := .cells #[.int .i64 t176, .int .i64 t177, .int .i64 x179002_19, .int .i64 t181, .string (x4_19.extract 4 ((wrap64 (4 + t182)) : Int).toNat)] 23 (0, 0)) (by (with_reducible repeat (first | refine blk_drewN ?_ _ | refine blk_drew ?_ | refine blk_alloc ?_ _)); refine blk_put (cs := #[.int .i64 t176, .int .i64 t177, .int .i64 x179002_19, .int .i64 t181, .string (⟨#[]⟩ : ByteArray)]) ?_ 4 _ rfl; (with_reducible repeat (first | refine blk_drewN ?_ _ | refine blk_drew ?_ | refine blk_alloc ?_ _)); exact BK178.out) hb); have n2_ := Aside0.mk (below_step (by repeat (first | (with_reducible first | exact HB.out | apply below_alloc | apply pw_below_drewN | apply below_drew1 | refine below_set ?_ GE173.out | refine below_set ?_ GE178.out) | exact HB.out)) hb); clear BK173; clear BK178; clear HB; have BK173 := n0_; have BK178 := n1_; have HB := n2_; clear n0_ n1_ n2_; (try clear hb); (try clear hb2); (try clear hk); (try clear hi); have hcz80_0 : w79.cell? ⟨gb173, 0, none⟩ = some (.int .i64 0) := (blk_cell BK173.out 0).trans rfl; have hcz80_1 : w79.cell? ⟨gb173, 1, none⟩ = some (.int .i64 0) := (blk_cell BK173.out 1).trans rfl; have hcz80_2 : w79.cell? ⟨gb173, 2, none⟩ = some (.int .i64 0) := (blk_cell BK173.out 2).trans rfl; have hcz80_3 : w79.cell? ⟨gb173, 3, none⟩ = some (.int .i64 0) := (blk_cell BK173.out 3).trans rfl; have hcz80_4 : w79.cell? ⟨gb173, 4, none⟩ = some (.string (⟨#[]⟩ : ByteArray)) := (blk_cell BK173.out 4).trans rfl; have hfz80_0 := blk_frozen BK173.out 0; have hfz80_1 := blk_frozen BK173.out 1; have hfz80_2 := blk_frozen BK173.out 2; have hfz80_3 := blk_frozen BK173.out 3; have hfz80_4 := blk_frozen BK173.out 4))
                                        refine bodyPost_ret (results_ct rfl _ _ gb173 23 #[.int .i64 0, .int .i64 0, .int .i64 0, .int .i64 0, .string (⟨#[]⟩ : ByteArray)] (0, 0) _ rfl (by (with_reducible repeat (first | refine blk_drewN ?_ _ | refine blk_drew ?_ | refine blk_alloc ?_ _)); refine blk_put (cs := #[.int .i64 0, .int .i64 0, .int .i64 0, .int .i64 0, .string (⟨#[]⟩ : ByteArray)]) ?_ 4 _ rfl; (with_reducible repeat (first | refine blk_drewN ?_ _ | refine blk_drew ?_ | refine blk_alloc ?_ _)); refine blk_put (cs := #[.int .i64 0, .int .i64 0, .int .i64 0, .int .i64 0, .string (⟨#[]⟩ : ByteArray)]) ?_ 3 _ rfl; (with_reducible repeat (first | refine blk_drewN ?_ _ | refine blk_drew ?_ | refine blk_alloc ?_ _)); refine blk_put (cs := #[.int .i64 0, .int .i64 0, .int .i64 0, .int .i64 0, .string (⟨#[]⟩ : ByteArray)]) ?_ 2 _ rfl; (with_reducible repeat (first | refine blk_drewN ?_ _ | refine blk_drew ?_ | refine blk_alloc ?_ _)); refine blk_put (cs := #[.int .i64 0, .int .i64 0, .int .i64 0, .int .i64 0, .string (⟨#[]⟩ : ByteArray)]) ?_ 1 _ rfl; (with_reducible repeat (first | refine blk_drewN ?_ _ | refine blk_drew ?_ | refine blk_alloc ?_ _)); refine blk_put (cs := #[.int .i64 0, .int .i64 0, .int .i64 0, .int .i64 0, .string (⟨#[]⟩ : ByteArray)]) ?_ 0 _ rfl; (with_reducible repeat (first | refine blk_drewN ?_ _ | refine blk_drew ?_ | refine blk_alloc ?_ _)); exact BK173.out) Tryd.underlying23 rfl (by kernel_rfl)) rfl ?_
                                        exact ⟨by first | rfl | (simp [errW_none, errW_some] <;> rfl) | (simp [*, errW_none, errW_some] <;> rfl), by repeat (first | (with_reducible first | exact HB.out | apply below_alloc | apply pw_below_drewN | apply below_drew1 | refine below_set ?_ GE173.out | refine below_set ?_ GE178.out) | exact HB.out)⟩
                                    · rw [if_neg c55] at H
                                      exact absurd H (by simp)
                                  · rw [if_neg c54] at H
                                    exact absurd H (by simp)
                              · rw [if_neg c46] at H
                                exact absurd H (by simp)
                            · rw [if_neg c45] at H
                              exact absurd H (by simp)
                          · rw [if_neg c43] at H
                            exact absurd H (by simp)
                        · rw [if_neg c42] at H
                          exact absurd H (by simp)
                  · rw [if_neg c18] at H
                    exact absurd H (by simp)
                · rw [if_neg c17] at H
                  exact absurd H (by simp)
              · rw [if_neg c14] at H
                exact absurd H (by simp)
            · rw [if_neg c13] at H
              exact absurd H (by simp)
          · rw [if_neg c11] at H
            exact absurd H (by simp)
        · rw [if_neg c10] at H
          exact absurd H (by simp)
      · rw [if_neg c9] at H
        have c9b0 : (t175 == 0) = false := beq_eq_false_iff_ne.mpr c9
        have c9b1 : (t175 != 0) = true := bne_iff_ne.mpr c9
        simp only [Option.some.injEq, Prod.mk.injEq] at H
        obtain ⟨rfl, rfl, rfl, rfl, rfl, rfl⟩ := H
        go_enter Tryd.func13, Tryd.ntmps13
        go_wp2_with (first | ((with_reducible refine gate_dst (N := 2) rfl ?_); refine box_event ?hg (N := 2) ?hd (cs := #[.int .i64 0, .int .i64 0, .int .i64 0, .int .i64 0, .string (⟨#[]⟩ : ByteArray)]) (t := 23) ?hr ?_; (case hd => rfl); (case hg => rfl); (case hr => first | (go_simp; done) | (go_simp; rfl)); intro gb173 hg w81 hbox hb; have n0_ := Aside0.mk (below_step (by repeat (first | (with_reducible first | exact HB.out | apply below_alloc | apply pw_below_drewN | apply below_drew1) | exact HB.out)) hb); have n1_ := Aside0.mk (hbox); have n2_ := Aside0.mk ((by rw [hg]; exact (below_size (by repeat (first | (with_reducible first | exact HB.out | apply below_alloc | apply pw_below_drewN | apply below_drew1) | exact HB.out))) : w.heap.size ≤ gb173)); have n3_ := Aside0.mk ((by rw [hg]; exact (below_size (by repeat (first | (with_reducible first | exact HB.out | apply below_alloc | apply pw_below_drewN | apply below_drew1) | exact HB.out))) : w.heap.size ≤ gb173)); clear HB; have HB := n0_; have BK173 := n1_; have GW173 := n2_; have GE173 := n3_; clear n0_ n1_ n2_ n3_; clear hb hbox hg) | ((with_reducible refine gate_callee (f := 26) rfl ?_); refine goesL_ (some 22) rfl rfl Tryd.func26 (by kernel_rfl) rfl #[.string a0] rfl (by (try simp only [List.map_toArray, List.map_cons, List.map_nil]); first | done | rfl | (simp only [List.length_drop, List.length_take]; rfl)) ?_; (with_reducible refine (crc_Open.calls a0 t174 t175 _ A8.out).mono ?_); rintro e w82 ⟨rfl, hb⟩; refine ⟨_, rfl, ?_⟩; have n0_ := Aside0.mk (blk_below (g := gb173) (o := .cells #[.int .i64 0, .int .i64 0, .int .i64 0, .int .i64 0, .string (⟨#[]⟩ : ByteArray)] 23 (0, 0)) (by (with_reducible repeat (first | refine blk_drewN ?_ _ | refine blk_drew ?_ | refine blk_alloc ?_ _)); exact BK173.out) hb); have n1_ := Aside0.mk (below_step (by repeat (first | (with_reducible first | exact HB.out | apply below_alloc | apply pw_below_drewN | apply below_drew1 | refine below_set ?_ GE173.out) | exact HB.out)) hb); clear BK173; clear HB; have BK173 := n0_; have HB := n1_; clear n0_ n1_; (try clear hb); (try clear hb2); (try clear hk); (try clear hi); have hcz83_0 : w82.cell? ⟨gb173, 0, none⟩ = some (.int .i64 0) := (blk_cell BK173.out 0).trans rfl; have hcz83_1 : w82.cell? ⟨gb173, 1, none⟩ = some (.int .i64 0) := (blk_cell BK173.out 1).trans rfl; have hcz83_2 : w82.cell? ⟨gb173, 2, none⟩ = some (.int .i64 0) := (blk_cell BK173.out 2).trans rfl; have hcz83_3 : w82.cell? ⟨gb173, 3, none⟩ = some (.int .i64 0) := (blk_cell BK173.out 3).trans rfl; have hcz83_4 : w82.cell? ⟨gb173, 4, none⟩ = some (.string (⟨#[]⟩ : ByteArray)) := (blk_cell BK173.out 4).trans rfl; have hfz83_0 := blk_frozen BK173.out 0; have hfz83_1 := blk_frozen BK173.out 1; have hfz83_2 := blk_frozen BK173.out 2; have hfz83_3 := blk_frozen BK173.out 3; have hfz83_4 := blk_frozen BK173.out 4))
        refine bodyPost_ret (results_ct rfl _ _ gb173 23 #[.int .i64 0, .int .i64 0, .int .i64 0, .int .i64 0, .string (⟨#[]⟩ : ByteArray)] (0, 0) _ rfl (by (with_reducible repeat (first | refine blk_drewN ?_ _ | refine blk_drew ?_ | refine blk_alloc ?_ _)); refine blk_put (cs := #[.int .i64 0, .int .i64 0, .int .i64 0, .int .i64 0, .string (⟨#[]⟩ : ByteArray)]) ?_ 4 _ rfl; (with_reducible repeat (first | refine blk_drewN ?_ _ | refine blk_drew ?_ | refine blk_alloc ?_ _)); refine blk_put (cs := #[.int .i64 0, .int .i64 0, .int .i64 0, .int .i64 0, .string (⟨#[]⟩ : ByteArray)]) ?_ 3 _ rfl; (with_reducible repeat (first | refine blk_drewN ?_ _ | refine blk_drew ?_ | refine blk_alloc ?_ _)); refine blk_put (cs := #[.int .i64 0, .int .i64 0, .int .i64 0, .int .i64 0, .string (⟨#[]⟩ : ByteArray)]) ?_ 2 _ rfl; (with_reducible repeat (first | refine blk_drewN ?_ _ | refine blk_drew ?_ | refine blk_alloc ?_ _)); refine blk_put (cs := #[.int .i64 0, .int .i64 0, .int .i64 0, .int .i64 0, .string (⟨#[]⟩ : ByteArray)]) ?_ 1 _ rfl; (with_reducible repeat (first | refine blk_drewN ?_ _ | refine blk_drew ?_ | refine blk_alloc ?_ _)); refine blk_put (cs := #[.int .i64 0, .int .i64 0, .int .i64 0, .int .i64 0, .string (⟨#[]⟩ : ByteArray)]) ?_ 0 _ rfl; (with_reducible repeat (first | refine blk_drewN ?_ _ | refine blk_drew ?_ | refine blk_alloc ?_ _)); exact BK173.out) Tryd.underlying23 rfl (by kernel_rfl)) rfl ?_
        exact ⟨by first | rfl | (simp [errW_none, errW_some] <;> rfl) | (simp [*, errW_none, errW_some] <;> rfl), by repeat (first | (with_reducible first | exact HB.out | apply below_alloc | apply pw_below_drewN | apply below_drew1 | refine below_set ?_ GE173.out) | exact HB.out)⟩

end Go.Proofs.YtkdncfbbhbmaaaaDoor.Q
namespace Go.Proofs.YtkdncfbbhbmaaaaDoor.K
/-- The k bytes of a number, the most significant one first. -/
def be : Nat → Nat → List UInt8
  | 0, _ => []
  | k + 1, n => UInt8.ofNat (n / 256 ^ k % 256) :: be k n
/-- The number that bytes contain. -/
def val (l : List UInt8) : Nat := l.foldl (fun a b => a * 256 + b.toNat) 0
theorem be_length (k n : Nat) : (be k n).length = k := by
  induction k with
  | zero => rfl
  | succ k ih => simp [be, ih]
theorem val_acc (l : List UInt8) : ∀ a, l.foldl (fun a b => a * 256 + b.toNat) a = a * 256 ^ l.length + val l := by
  unfold val
  induction l with
  | nil => intro a; simp
  | cons b l ih =>
    intro a
    simp only [List.foldl_cons, List.length_cons]
    rw [ih (a * 256 + b.toNat), ih (0 * 256 + b.toNat), Nat.pow_succ, Nat.zero_mul, Nat.zero_add, Nat.add_mul, Nat.mul_assoc, Nat.mul_comm 256 (256 ^ l.length), Nat.add_assoc]
theorem val_cons (b : UInt8) (l : List UInt8) : val (b :: l) = b.toNat * 256 ^ l.length + val l := by
  show (b :: l).foldl _ 0 = _
  rw [List.foldl_cons, val_acc]
  simp
theorem val_snoc (l : List UInt8) (b : UInt8) : val (l ++ [b]) = val l * 256 + b.toNat := by simp [val]
theorem val_lt (l : List UInt8) : val l < 256 ^ l.length := by
  induction l with
  | nil => decide
  | cons b l ih =>
    rw [val_cons, List.length_cons, Nat.pow_succ]
    have h1 : b.toNat < 256 := UInt8.toNat_lt b
    have h2 : b.toNat * 256 ^ l.length + 256 ^ l.length ≤ 256 * 256 ^ l.length := by
      rw [← Nat.succ_mul]
      exact Nat.mul_le_mul_right _ h1
    omega
theorem val_be (k : Nat) : ∀ n, val (be k n) = n % 256 ^ k := by
  induction k with
  | zero => intro n; simp [be, val, Nat.mod_one]
  | succ k ih =>
    intro n
    rw [be, val_cons, be_length, ih n]
    have h1 : (UInt8.ofNat (n / 256 ^ k % 256)).toNat = n / 256 ^ k % 256 := by
      rw [UInt8.toNat_ofNat']
      exact Nat.mod_eq_of_lt (Nat.mod_lt _ (by decide))
    rw [h1, Nat.pow_succ, Nat.mod_mul]
    rw [Nat.mul_comm (n / 256 ^ k % 256), Nat.add_comm]
theorem val_be_lt (k n : Nat) (h : n < 256 ^ k) : val (be k n) = n := by rw [val_be, Nat.mod_eq_of_lt h]
theorem be_inj (k m n : Nat) (hm : m < 256 ^ k) (hn : n < 256 ^ k) (h : be k m = be k n) : m = n := by
  rw [← val_be_lt k m hm, ← val_be_lt k n hn, h]
/-- A frame's fields. -/
structure Fr where
  d : Nat
  s : Nat
  t : Nat
  y : Nat
  b : List UInt8
/-- The bytes of a frame, without filling and checksum. -/
def encBody (f : Fr) : List UInt8 := be 6 f.d ++ (be 6 f.s ++ ((if 0 < f.t then be 2 33024 ++ be 2 f.t else []) ++ (be 2 f.y ++ (be 2 f.b.length ++ f.b))))
def pad60 (l : List UInt8) : List UInt8 := l ++ List.replicate (60 - l.length) 0
def sealL (l : List UInt8) : List UInt8 := l ++ be 4 (crcOf l)
def encL (f : Fr) : List UInt8 := sealL (pad60 (encBody f))
def Fr.ok (f : Fr) : Prop := f.d < 281474976710656 ∧ f.s < 281474976710656 ∧ f.t ≤ 4094 ∧ f.y ≤ 65535 ∧ f.y ≠ 33024 ∧ f.b.length ≤ 1500
/-- The rest of a frame behind the addresses and the tag, if there is one: the tag and the rest. -/
def tagOf (r : List UInt8) : Nat × List UInt8 := if val (r.take 2) = 33024 then (val ((r.drop 2).take 2), r.drop 4) else (0, r)
def decL (u : List UInt8) : Fr :=
  ⟨val (u.take 6), val ((u.drop 6).take 6), (tagOf (u.drop 12)).1, val ((tagOf (u.drop 12)).2.take 2), ((tagOf (u.drop 12)).2.drop 4).take (val (((tagOf (u.drop 12)).2.drop 2).take 2))⟩
theorem take_app {α : Type} (k : Nat) (a b : List α) (h : a.length = k) : (a ++ b).take k = a := by rw [← h]; exact List.take_left
theorem drop_app {α : Type} (k : Nat) (a b : List α) (h : a.length = k) : (a ++ b).drop k = b := by rw [← h]; exact List.drop_left
theorem be2 (n : Nat) (h : n ≤ 65535) : val (be 2 n) = n := val_be_lt 2 n (by omega)
theorem tagOf_enc (t y : Nat) (r : List UInt8) (ht : t ≤ 4094) (hy : y ≤ 65535) (hm : y ≠ 33024) : tagOf ((if 0 < t then be 2 33024 ++ be 2 t else []) ++ (be 2 y ++ r)) = (t, be 2 y ++ r) := by
  unfold tagOf
  by_cases h : 0 < t
  · rw [if_pos h, List.append_assoc, take_app 2 _ _ (be_length 2 _), drop_app 2 _ _ (be_length 2 _), take_app 2 _ _ (be_length 2 _), be2 33024 (by omega), if_pos rfl, be2 t (by omega), ← List.append_assoc, drop_app 4 _ _ (by simp [be_length])]
  · rw [if_neg h, List.nil_append, take_app 2 _ _ (be_length 2 _), be2 y hy, if_neg hm]
    obtain rfl : t = 0 := by omega
    rfl
theorem dec_enc (f : Fr) (h : f.ok) : decL (pad60 (encBody f)) = f := by
  obtain ⟨h1, h2, h3, h4, h5, h6⟩ := h
  obtain ⟨d, s, t, y, b⟩ := f
  have h6' : b.length ≤ 1500 := h6
  have e : pad60 (encBody ⟨d, s, t, y, b⟩) = be 6 d ++ (be 6 s ++ ((if 0 < t then be 2 33024 ++ be 2 t else []) ++ (be 2 y ++ (be 2 b.length ++ (b ++ List.replicate (60 - (encBody ⟨d, s, t, y, b⟩).length) 0))))) := by
    unfold pad60
    simp only [encBody, List.append_assoc]
  have e12 : (pad60 (encBody ⟨d, s, t, y, b⟩)).drop 12 = (if 0 < t then be 2 33024 ++ be 2 t else []) ++ (be 2 y ++ (be 2 b.length ++ (b ++ List.replicate (60 - (encBody ⟨d, s, t, y, b⟩).length) 0))) := by
    rw [e, ← List.append_assoc, drop_app 12 _ _ (by simp [be_length])]
  have et := tagOf_enc t y (be 2 b.length ++ (b ++ List.replicate (60 - (encBody ⟨d, s, t, y, b⟩).length) 0)) h3 h4 h5
  unfold decL
  rw [e12, et, e]
  simp only
  rw [take_app 6 _ _ (be_length 6 _), drop_app 6 _ _ (be_length 6 _), take_app 6 _ _ (be_length 6 _), take_app 2 _ _ (be_length 2 _), drop_app 2 _ _ (be_length 2 _), take_app 2 _ _ (be_length 2 _), ← List.append_assoc (be 2 y), drop_app 4 _ _ (by simp [be_length]), be2 y h4, be2 b.length (by omega), take_app b.length _ _ rfl, val_be_lt 6 d (by simpa using h1), val_be_lt 6 s (by simpa using h2)]
theorem pad60_length (l : List UInt8) : (pad60 l).length = max 60 l.length := by unfold pad60; simp; omega
theorem sealL_length (l : List UInt8) : (sealL l).length = l.length + 4 := by unfold sealL; simp [be_length]
theorem encBody_length (f : Fr) : (encBody f).length = 16 + (if 0 < f.t then 4 else 0) + f.b.length := by
  unfold encBody
  split <;> simp [be_length] <;> omega
theorem encL_length (f : Fr) : (encL f).length = max 60 (16 + (if 0 < f.t then 4 else 0) + f.b.length) + 4 := by unfold encL; rw [sealL_length, pad60_length, encBody_length]
theorem sealL_take (l : List UInt8) : (sealL l).take ((sealL l).length - 4) = l := by
  rw [sealL_length]
  exact take_app _ _ _ (by omega)
theorem sealL_inj (a b : List UInt8) (h : sealL a = sealL b) : a = b := by rw [← sealL_take a, ← sealL_take b, h]
theorem encL_inj (f g : Fr) (hf : f.ok) (hg : g.ok) (h : encL f = encL g) : f = g := by
  rw [← dec_enc f hf, ← dec_enc g hg, sealL_inj _ _ h]
end Go.Proofs.YtkdncfbbhbmaaaaDoor.K
namespace Go.Proofs.YtkdncfbbhbmaaaaDoor.Br
open Go.RowKit Go.Proofs.YtkdncfbbhbmaaaaDoor.Q Go.Proofs.YtkdncfbbhbmaaaaDoorW.PrintWords Go.Proofs.YtkdncfbbhbmaaaaDoorW.PrintLast Go.Proofs.YtkdncfbbhbmaaaaDoorW.PrintMore
/-- What frame.Check answers. -/
def chk (d s t y : Int) (n : Nat) : Int := if d < 0 ∨ d ≥ 281474976710656 ∨ s < 0 ∨ s ≥ 281474976710656 ∨ s / 1099511627776 % 2 = 1 then 1 else if t < 0 ∨ t > 4094 ∨ y < 0 ∨ y > 65535 ∨ y = 33024 then 10 else if (n : Int) > 1500 then 2 else 0
theorem group_f (a : Int) (h0 : 0 ≤ a) (h1 : a < 281474976710656) : frame_Group.f a = some (decide (a / 1099511627776 % 2 = 1)) := by
  obtain ⟨n, rfl⟩ := Int.eq_ofNat_of_zero_le h0
  unfold frame_Group.f
  rw [if_pos h0, show (n : Int) / 1099511627776 = ((n / 1099511627776 : Nat) : Int) by omega, show ((1 : Int)) = 2 ^ 1 - 1 from rfl, bits_mask .i64 62 (by decide) (fun n h0 h1 => by rw [IntKind.wrap_i64]; omega) 1 (by decide) _ (by omega) (by omega)]
  congr 1
theorem check_j1 (K : Nat) (b : Bool) (d s t y : Int) (x : ByteArray) : frame_Check.j1 (K + 1) b d s t y x = some (if b = true then 10 else if (x.size : Int) > 1500 then 2 else 0) := by
  simp only [frame_Check.j1]
  cases b
  · simp only [Bool.false_eq_true, if_false]
    split <;> rfl
  · rfl
theorem check_j0 (K : Nat) (b : Bool) (d s t y : Int) (x : ByteArray) : frame_Check.j0 (K + 2) b d s t y x = some (if b = true then 1 else if t < 0 ∨ t > 4094 ∨ y < 0 ∨ y > 65535 ∨ y = 33024 then 10 else if (x.size : Int) > 1500 then 2 else 0) := by
  simp only [frame_Check.j0, check_j1]
  cases b
  · simp only [Bool.false_eq_true, if_false, if_true]
    by_cases h1 : t < 0
    · simp [h1]
    · by_cases h2 : t > 4094
      · simp [h1, h2]
      · by_cases h3 : y < 0
        · simp [h1, h2, h3]
        · by_cases h4 : y > 65535
          · simp [h1, h2, h3, h4]
          · simp [h1, h2, h3, h4]
  · rfl
theorem check_f (K : Nat) (d s t y : Int) (x : ByteArray) : frame_Check.f (K + 2) d s t y x = some (chk d s t y x.size) := by
  unfold frame_Check.f chk
  simp only [check_j0]
  by_cases h1 : d < 0
  · simp [h1]
  · by_cases h2 : d ≥ 281474976710656
    · simp [h1, h2]
    · by_cases h3 : s < 0
      · simp [h1, h2, h3]
      · by_cases h4 : s ≥ 281474976710656
        · simp [h1, h2, h3, h4]
        · rw [group_f s (by omega) (by omega)]
          simp [h1, h2, h3, h4]
theorem chk_tag (d s t t' y : Int) (n : Nat) (h : chk d s t y n = 0) (h0 : 0 ≤ t') (h1 : t' ≤ 4094) : chk d s t' y n = 0 := by
  unfold chk at h ⊢
  by_cases c1 : d < 0 ∨ d ≥ 281474976710656 ∨ s < 0 ∨ s ≥ 281474976710656 ∨ s / 1099511627776 % 2 = 1
  · rw [if_pos c1] at h; cases h
  · rw [if_neg c1] at h ⊢
    by_cases c2 : t < 0 ∨ t > 4094 ∨ y < 0 ∨ y > 65535 ∨ y = 33024
    · rw [if_pos c2] at h; cases h
    · rw [if_neg c2] at h
      rw [if_neg (by omega)]
      exact h
theorem chk_range (d s t y : Int) (n : Nat) (h : chk d s t y n = 0) : 0 ≤ t ∧ t ≤ 4094 := by
  unfold chk at h
  by_cases c1 : d < 0 ∨ d ≥ 281474976710656 ∨ s < 0 ∨ s ≥ 281474976710656 ∨ s / 1099511627776 % 2 = 1
  · rw [if_pos c1] at h; cases h
  · rw [if_neg c1] at h
    by_cases c2 : t < 0 ∨ t > 4094 ∨ y < 0 ∨ y > 65535 ∨ y = 33024
    · rw [if_pos c2] at h; cases h
    · omega
end Go.Proofs.YtkdncfbbhbmaaaaDoor.Br
namespace Go.Proofs.YtkdncfbbhbmaaaaDoor.Br
open Go.RowKit Go.Proofs.YtkdncfbbhbmaaaaDoor.Q Go.Proofs.YtkdncfbbhbmaaaaDoorW.PrintWords Go.Proofs.YtkdncfbbhbmaaaaDoorW.PrintLast Go.Proofs.YtkdncfbbhbmaaaaDoorW.PrintMore Go.Proofs.YtkdncfbbhbmaaaaDoor.K
/-- A string as a list of bytes, and back. -/
def lst (x : ByteArray) : List UInt8 := x.data.toList
def mkB (l : List UInt8) : ByteArray := ⟨l.toArray⟩
theorem lst_mk (l : List UInt8) : lst (mkB l) = l := rfl
theorem mk_lst (x : ByteArray) : mkB (lst x) = x := rfl
theorem lst_inj {x y : ByteArray} (h : lst x = lst y) : x = y := by rw [← mk_lst x, h, mk_lst]
theorem lst_size (x : ByteArray) : x.size = (lst x).length := by simp [lst]
theorem lst_append (x y : ByteArray) : lst (x ++ y) = lst x ++ lst y := by simp [lst, ByteArray.data_append]
theorem lst_extract (x : ByteArray) (i j : Nat) : lst (x.extract i j) = ((lst x).take j).drop i := by
  simp [lst, ByteArray.data_extract, List.drop_take]
theorem toList_lst (x : ByteArray) : x.toList = lst x := ByteArray.toList_eq x
theorem beq_toList (x y : ByteArray) : (x.toList == y.toList) = decide (x = y) := by
  rw [toList_lst, toList_lst, Bool.eq_iff_iff, beq_iff_eq, decide_eq_true_iff]
  exact ⟨lst_inj, fun h => by rw [h]⟩
theorem eq_toList (x y : ByteArray) : (x.toList = y.toList) ↔ x = y := by
  rw [toList_lst, toList_lst]
  exact ⟨lst_inj, fun h => by rw [h]⟩
theorem bt_lst (x : ByteArray) (i : Nat) (h : i < x.size) : bt x (i : Int) = ((((lst x)[i]'(by rw [← lst_size]; exact h)).toNat : Nat) : Int) := by
  unfold bt
  rw [Int.toNat_natCast, dif_pos h]
  rfl
theorem lst_strOfNums (l : List Int) : lst (strOfNums l) = l.map fun n => UInt8.ofNat n.toNat := by simp [lst, strOfNums]
theorem byteInt (n : Nat) : UInt8.ofNat (((n : Int) % 256).toNat) = UInt8.ofNat (n % 256) := by
  congr 1
theorem shr_nat (n j : Nat) (h : j ≤ 64) : shr .i64 (n : Int) (j : Int) = ((n / 2 ^ j : Nat) : Int) := by
  unfold shr
  rw [Int.toNat_natCast, show min j IntKind.i64.bits = j by show min j 64 = j; omega]
  push_cast
  rfl
theorem number_two (n K : Nat) : frame_number.f (K + 3) (n : Int) 2 = some (mkB (be 2 n)) := by
  have h : frame_number.f (K + 3) (n : Int) 2 = some (strOfNums [shr .i64 n 8 % 256, shr .i64 n 0 % 256]) := by
    simp [frame_number.f, frame_number.l0, wrap64, List.replicate]
  rw [h, show (8 : Int) = ((8 : Nat) : Int) from rfl, show (0 : Int) = ((0 : Nat) : Int) from rfl, shr_nat _ _ (by decide), shr_nat _ _ (by decide)]
  congr 1
theorem number_six (n K : Nat) : frame_number.f (K + 7) (n : Int) 6 = some (mkB (be 6 n)) := by
  have h : frame_number.f (K + 7) (n : Int) 6 = some (strOfNums [shr .i64 n 40 % 256, shr .i64 n 32 % 256, shr .i64 n 24 % 256, shr .i64 n 16 % 256, shr .i64 n 8 % 256, shr .i64 n 0 % 256]) := by
    simp [frame_number.f, frame_number.l0, wrap64, List.replicate]
  rw [h, show (40 : Int) = ((40 : Nat) : Int) from rfl, show (32 : Int) = ((32 : Nat) : Int) from rfl, show (24 : Int) = ((24 : Nat) : Int) from rfl, show (16 : Int) = ((16 : Nat) : Int) from rfl, show (8 : Int) = ((8 : Nat) : Int) from rfl, show (0 : Int) = ((0 : Nat) : Int) from rfl, shr_nat _ _ (by decide), shr_nat _ _ (by decide), shr_nat _ _ (by decide), shr_nat _ _ (by decide), shr_nat _ _ (by decide), shr_nat _ _ (by decide)]
  congr 1
theorem or_byte (x b : Nat) (hx : x < 281474976710656) (hb : b < 256) : Go.bits .or .i64 (wrap64 ((x : Int) * 256)) (wrap64 (b : Int)) = ((x * 256 + b : Nat) : Int) := by
  have h1 : wrap64 ((x : Int) * 256) = (x : Int) * 256 := by unfold wrap64; omega
  have h2 : wrap64 (b : Int) = (b : Int) := by unfold wrap64; omega
  rw [h1, h2, bits_join .i64 62 (by decide) (fun n h0 h1 => by rw [IntKind.wrap_i64]; omega) 8 _ _ (by omega) (by omega) (by omega) (by omega) (by omega) (by omega)]
  omega
theorem value_l0 (s : ByteArray) (h6 : s.size ≤ 6) (m : Nat) : ∀ k i, i + m = s.size → m < k → frame_value.l0 k s ((val ((lst s).take i) : Nat) : Int) (s.size : Int) (i : Int) = some ((val (lst s) : Nat) : Int) := by
  induction m with
  | zero =>
    intro k i hi hk
    obtain ⟨k, rfl⟩ : ∃ m, k = m + 1 := ⟨k - 1, by omega⟩
    simp only [frame_value.l0]
    rw [if_neg (by omega), List.take_of_length_le (by rw [← lst_size]; omega)]
  | succ m ih =>
    intro k i hi hk
    obtain ⟨k, rfl⟩ : ∃ m, k = m + 1 := ⟨k - 1, by omega⟩
    simp only [frame_value.l0]
    have hlt : i < (lst s).length := by rw [← lst_size]; omega
    have hv := val_lt ((lst s).take i)
    rw [List.length_take, Nat.min_eq_left (by omega)] at hv
    have hp : 256 ^ i ≤ 256 ^ 5 := Nat.pow_le_pow_right (by decide) (by omega)
    have hx : val ((lst s).take i) < 281474976710656 := Nat.lt_of_lt_of_le hv (Nat.le_trans hp (by decide))
    rw [if_pos (by omega), if_pos (by omega), if_pos (by omega), bt_lst s i (by omega), or_byte _ _ hx (UInt8.toNat_lt _), show wrap64 ((i : Int) + 1) = ((i + 1 : Nat) : Int) by unfold wrap64; omega]
    have ht : val ((lst s).take i) * 256 + ((lst s)[i]).toNat = val ((lst s).take (i + 1)) := by rw [List.take_succ_eq_append_getElem hlt, val_snoc]
    rw [ht]
    exact ih k (i + 1) (by omega) (by omega)
theorem value_f (s : ByteArray) (h6 : s.size ≤ 6) (K : Nat) : frame_value.f (K + 7) s = some ((val (lst s) : Nat) : Int) := by
  unfold frame_value.f
  exact value_l0 s h6 s.size (K + 7) 0 (by omega) (by omega)
theorem be4 (c : Nat) : [((c : Int) / 16777216) % 256, ((c : Int) / 65536) % 256, ((c : Int) / 256) % 256, (c : Int) % 256].map (fun n => UInt8.ofNat n.toNat) = be 4 c := by
  simp only [List.map_cons, List.map_nil, be]
  rw [show (c : Int) / 16777216 = ((c / 16777216 : Nat) : Int) by omega, show (c : Int) / 65536 = ((c / 65536 : Nat) : Int) by omega, show (c : Int) / 256 = ((c / 256 : Nat) : Int) by omega]
  simp only [byteInt]
  simp
theorem seal_f (x : ByteArray) (h : x.size ≤ 9223372036854775803) : crc_Seal.f x = some (mkB (sealL (lst x))) := by
  unfold crc_Seal.f Ext.crc_Sum.f
  rw [if_pos (by omega)]
  simp only [Option.bind_some]
  have e : lst (strOfNums [((crcOf x.data.toList : Nat) : Int) / 16777216 % 256, ((crcOf x.data.toList : Nat) : Int) / 65536 % 256, ((crcOf x.data.toList : Nat) : Int) / 256 % 256, ((crcOf x.data.toList : Nat) : Int) % 256]) = be 4 (crcOf (lst x)) := by
    rw [lst_strOfNums, be4]
    rfl
  have hs : (strOfNums [((crcOf x.data.toList : Nat) : Int) / 16777216 % 256, ((crcOf x.data.toList : Nat) : Int) / 65536 % 256, ((crcOf x.data.toList : Nat) : Int) / 256 % 256, ((crcOf x.data.toList : Nat) : Int) % 256]).size = 4 := by
    rw [lst_size, e, be_length]
  rw [hs, if_pos (by omega)]
  congr 1
  apply lst_inj
  rw [lst_append, e, lst_mk]
  rfl
theorem open_f (x : ByteArray) (h4 : 4 ≤ x.size) (h : x.size ≤ 9223372036854775803) : crc_Open.f x = some (if sealL ((lst x).take (x.size - 4)) = lst x then (mkB ((lst x).take (x.size - 4)), 0) else (⟨#[]⟩, 8)) := by
  unfold crc_Open.f
  have hw : wrap64 ((x.size : Int) - 4) = ((x.size - 4 : Nat) : Int) := by unfold wrap64; omega
  have he : x.extract 0 (x.size - 4) = mkB ((lst x).take (x.size - 4)) := by
    apply lst_inj
    rw [lst_extract, lst_mk, List.drop_zero]
  have hs : (mkB ((lst x).take (x.size - 4))).size ≤ 9223372036854775803 := by rw [lst_size, lst_mk, List.length_take]; omega
  rw [hw, if_neg (by omega), if_pos (by omega), if_pos (by omega), Int.toNat_natCast, he, seal_f _ hs, lst_mk]
  simp only [Option.bind_some, eq_toList]
  by_cases hq : sealL ((lst x).take (x.size - 4)) = lst x
  · rw [if_pos hq, if_pos (by rw [hq, mk_lst])]
  · rw [if_neg hq, if_neg (fun z => hq (by rw [← lst_mk (sealL _), z]))]
theorem mk_append (a b : List UInt8) : mkB a ++ mkB b = mkB (a ++ b) := by
  apply lst_inj
  rw [lst_append]
  rfl
theorem mk_size (l : List UInt8) : (mkB l).size = l.length := by rw [lst_size, lst_mk]
theorem zeros_mk (n : Nat) : strOfNums (List.replicate n 0) = mkB (List.replicate n 0) := by
  apply lst_inj
  rw [lst_strOfNums, lst_mk, List.map_replicate]
  rfl
theorem encode_j0 (K : Nat) (p : List UInt8) (d s t : Int) (y : Nat) (b : List UInt8) (hp : p.length ≤ 16) (hb : b.length ≤ 1500) :
    frame_Encode.j0 (K + 4) (mkB p) d s t (y : Int) (mkB b) = some (mkB (sealL (pad60 (p ++ (be 2 y ++ (be 2 b.length ++ b))))), 0) := by
  simp only [frame_Encode.j0]
  rw [mk_size, number_two, number_two]
  simp only [Option.bind_some]
  rw [mk_append, mk_append, mk_append]
  simp only [mk_size, List.length_append, be_length]
  rw [if_pos (by omega), if_pos (by omega), if_pos (by omega)]
  have hw : wrap64 (60 - ((p.length + (2 + 2 + b.length) : Nat) : Int)) = 60 - ((p.length + (2 + 2 + b.length) : Nat) : Int) := by unfold wrap64; omega
  rw [hw]
  have hl : (p ++ (be 2 y ++ be 2 b.length ++ b)).length = p.length + (2 + 2 + b.length) := by simp [be_length]; omega
  by_cases h : 60 - ((p.length + (2 + 2 + b.length) : Nat) : Int) > 0
  · rw [if_pos h, if_pos (by omega), if_pos (by omega)]
    have ht : (60 - ((p.length + (2 + 2 + b.length) : Nat) : Int)).toNat = 60 - (p.length + (2 + 2 + b.length)) := by omega
    rw [ht, zeros_mk]
    simp only [mk_size, List.length_replicate]
    rw [if_pos (by omega), mk_append, seal_f _ (by rw [mk_size, List.length_append, hl, List.length_replicate]; omega)]
    simp only [Option.bind_some]
    rw [lst_mk]
    unfold pad60
    rw [← List.append_assoc (be 2 y), hl]
  · rw [if_neg h, seal_f _ (by rw [mk_size, hl]; omega)]
    simp only [Option.bind_some]
    rw [lst_mk]
    unfold pad60
    rw [← List.append_assoc (be 2 y), hl, show 60 - (p.length + (2 + 2 + b.length)) = 0 by omega, List.replicate_zero, List.append_nil]
/-- A frame that frame.Check lets by. -/
def Fr.good (f : Fr) : Prop := f.ok ∧ f.s / 1099511627776 % 2 ≠ 1
theorem chk_good (f : Fr) (h : Fr.good f) : chk f.d f.s f.t f.y f.b.length = 0 := by
  obtain ⟨⟨h1, h2, h3, h4, h5, h6⟩, h7⟩ := h
  unfold chk
  rw [if_neg (by omega), if_neg (by omega), if_neg (by omega)]
theorem good_chk (d s t y : Int) (x : ByteArray) (h : chk d s t y x.size = 0) : ∃ f : Fr, Fr.good f ∧ d = f.d ∧ s = f.s ∧ t = f.t ∧ y = f.y ∧ x = mkB f.b := by
  unfold chk at h
  by_cases h1 : d < 0 ∨ d ≥ 281474976710656 ∨ s < 0 ∨ s ≥ 281474976710656 ∨ s / 1099511627776 % 2 = 1
  · rw [if_pos h1] at h; cases h
  · rw [if_neg h1] at h
    by_cases h2 : t < 0 ∨ t > 4094 ∨ y < 0 ∨ y > 65535 ∨ y = 33024
    · rw [if_pos h2] at h; cases h
    · rw [if_neg h2] at h
      by_cases h3 : (x.size : Int) > 1500
      · rw [if_pos h3] at h; cases h
      · have hl := lst_size x
        refine ⟨⟨d.toNat, s.toNat, t.toNat, y.toNat, lst x⟩, ⟨⟨?_, ?_, ?_, ?_, ?_, ?_⟩, ?_⟩, ?_, ?_, ?_, ?_, (mk_lst x).symm⟩ <;> (try simp only []) <;> omega
theorem encode_bad (K : Nat) (d s t y : Int) (x : ByteArray) (h : chk d s t y x.size ≠ 0) : frame_Encode.f (K + 10) d s t y x = some (⟨#[]⟩, chk d s t y x.size) := by
  unfold frame_Encode.f
  rw [show K + 10 = (K + 8) + 2 from rfl, check_f]
  simp only [Option.bind_some]
  rw [if_neg h]
theorem encode_ok (K : Nat) (f : Fr) (h : Fr.good f) : frame_Encode.f (K + 10) f.d f.s f.t f.y (mkB f.b) = some (mkB (encL f), 0) := by
  unfold frame_Encode.f
  have hc := chk_good f h
  obtain ⟨⟨h1, h2, h3, h4, h5, h6⟩, h7⟩ := h
  have ec := check_f (K + 8) f.d f.s f.t f.y (mkB f.b)
  rw [mk_size, hc] at ec
  rw [ec, number_six f.d (K + 3), number_six f.s (K + 3)]
  simp only [Option.bind_some, if_true]
  have e2 : frame_number.f (K + 10) 33024 2 = some (mkB (be 2 33024)) := number_two 33024 (K + 7)
  rw [e2, number_two f.t (K + 7)]
  simp only [Option.bind_some, mk_append, mk_size, List.length_append, be_length]
  by_cases ht : (f.t : Int) > 0
  · rw [if_pos (by decide), if_pos ht, if_pos (by decide), if_pos (by decide), encode_j0 (K + 6) _ _ _ _ _ _ (by simp [be_length]) h6]
    unfold encL encBody
    rw [if_pos (by omega)]
    simp only [List.append_assoc]
  · rw [if_pos (by decide), if_neg ht, encode_j0 (K + 6) _ _ _ _ _ _ (by simp [be_length]) h6]
    unfold encL encBody
    rw [if_neg (by omega)]
    simp only [List.append_assoc, List.nil_append]
end Go.Proofs.YtkdncfbbhbmaaaaDoor.Br
namespace Go.Proofs.YtkdncfbbhbmaaaaDoor.Br
open Go.RowKit Go.Proofs.YtkdncfbbhbmaaaaDoor.Q Go.Proofs.YtkdncfbbhbmaaaaDoorW.PrintWords Go.Proofs.YtkdncfbbhbmaaaaDoorW.PrintLast Go.Proofs.YtkdncfbbhbmaaaaDoorW.PrintMore Go.Proofs.YtkdncfbbhbmaaaaDoor.K
theorem extract_mk (l : List UInt8) (i j : Nat) : (mkB l).extract i j = mkB ((l.take j).drop i) := by
  apply lst_inj
  rw [lst_extract, lst_mk, lst_mk]
theorem value_mk (l : List UInt8) (h : l.length ≤ 6) (K : Nat) : frame_value.f (K + 7) (mkB l) = some ((val l : Nat) : Int) := by
  rw [value_f _ (by rw [mk_size]; exact h)]
  rfl
def no (e : Int) : Option (Int × Int × Int × Int × ByteArray × Int) := some (0, 0, 0, 0, (⟨#[]⟩ : ByteArray), e)
/-- The end of frame.Decode: the fields that were read are encoded again. -/
def again (K : Nat) (a : ByteArray) (d s t : Nat) (r : List UInt8) : Option (Int × Int × Int × Int × ByteArray × Int) :=
  if val ((r.drop 2).take 2) > r.length - 4 then no 3
  else (frame_Encode.f (K + 10) d s t ((val (r.take 2) : Nat) : Int) (mkB ((r.drop 4).take (val ((r.drop 2).take 2))))).bind fun q => if q.2 = 0 then (if q.1 = a then some (d, s, t, ((val (r.take 2) : Nat) : Int), mkB ((r.drop 4).take (val ((r.drop 2).take 2))), 0) else no 3) else no 3
theorem decode_j0 (K : Nat) (a : ByteArray) (d s t : Nat) (r : List UInt8) (h4 : 4 ≤ r.length) (hm : r.length ≤ 70000) : frame_Decode.j0 (K + 11) a (mkB r) d s t 0 (⟨#[]⟩ : ByteArray) = again K a d s t r := by
  simp only [frame_Decode.j0, mk_size, extract_mk, List.drop_zero]
  rw [if_pos (by decide), if_pos (by omega)]
  have e1 := value_mk (r.take 2) (by rw [List.length_take]; omega) (K + 3)
  have e2 := value_mk ((r.take 4).drop 2) (by rw [List.length_drop, List.length_take]; omega) (K + 3)
  have e3 : (r.take 4).drop 2 = (r.drop 2).take 2 := by rw [List.drop_take]
  rw [e3] at e2
  rw [e1, e3, e2]
  simp only [Option.bind_some]
  rw [if_pos (by decide), if_pos (by omega)]
  have hv := val_lt ((r.drop 2).take 2)
  have hl : ((r.drop 2).take 2).length = 2 := by rw [List.length_take, List.length_drop]; omega
  rw [hl] at hv
  have hw : wrap64 ((r.length : Int) - 4) = ((r.length - 4 : Nat) : Int) := by unfold wrap64; omega
  have hw2 : wrap64 (4 + ((val ((r.drop 2).take 2) : Nat) : Int)) = ((4 + val ((r.drop 2).take 2) : Nat) : Int) := by unfold wrap64; omega
  rw [hw, hw2]
  unfold again no
  by_cases h : val ((r.drop 2).take 2) > r.length - 4
  · rw [if_pos h, if_pos (by omega)]
  · rw [if_neg h, if_neg (by omega), if_pos (by omega), if_pos (by omega), Int.toNat_natCast, List.drop_take, Nat.add_sub_cancel_left]
    simp only [eq_toList]
theorem decode_f (K : Nat) (a : ByteArray) (u : List UInt8) (h1 : 64 ≤ a.size) (h2 : a.size ≤ 1524) (hu : sealL u = lst a) :
    frame_Decode.f (K + 11) a = again K a (decL u).d (decL u).s (decL u).t (tagOf (u.drop 12)).2 := by
  have hl : u.length + 4 = a.size := by rw [lst_size, ← hu, sealL_length]
  have ht : (lst a).take (a.size - 4) = u := by rw [← hu, ← hl, Nat.add_sub_cancel]; exact take_app _ _ _ rfl
  unfold frame_Decode.f
  rw [if_neg (by omega), if_neg (by omega), open_f a (by omega) (by omega), ht, if_pos hu]
  simp only [Option.bind_some, if_true, mk_size, extract_mk, List.drop_zero]
  rw [if_pos (by decide), if_pos (by omega)]
  have e1 := value_mk (u.take 6) (by rw [List.length_take]; omega) (K + 4)
  have e2 := value_mk ((u.take 12).drop 6) (by rw [List.length_drop, List.length_take]; omega) (K + 4)
  have e3 : (u.take 12).drop 6 = (u.drop 6).take 6 := by rw [List.drop_take]
  rw [e3] at e2
  rw [e1, e3, e2]
  simp only [Option.bind_some]
  rw [if_pos (by decide), if_pos (by omega), if_pos (by decide), List.take_of_length_le (Nat.le_refl u.length)]
  have e4 := value_mk ((u.drop 12).take 2) (by rw [List.length_take]; omega) (K + 4)
  have e5 := value_mk (((u.drop 12).take 4).drop 2) (by rw [List.length_drop, List.length_take]; omega) (K + 4)
  have e6 : ((u.drop 12).take 4).drop 2 = ((u.drop 12).drop 2).take 2 := by rw [List.drop_take]
  rw [e6] at e5
  have hd : (u.drop 12).length = u.length - 12 := List.length_drop
  rw [if_pos (by omega), e4, e6, e5]
  simp only [Option.bind_some]
  unfold decL tagOf
  by_cases hm : val ((u.drop 12).take 2) = 33024
  · rw [if_pos (by omega), if_pos (by decide), if_pos (by omega), List.take_of_length_le (Nat.le_refl _), if_pos hm]
    simp only
    exact decode_j0 K a _ _ _ ((u.drop 12).drop 4) (by rw [List.length_drop]; omega) (by rw [List.length_drop]; omega)
  · rw [if_neg (by omega), if_neg hm]
    simp only
    exact decode_j0 K a _ _ 0 (u.drop 12) (by omega) (by omega)
theorem decode_short (K : Nat) (a : ByteArray) (h : a.size < 64) : frame_Decode.f K a = no 9 := by
  unfold frame_Decode.f
  rw [if_pos (by omega)]
  rfl
theorem decode_long (K : Nat) (a : ByteArray) (h : 1524 < a.size) : frame_Decode.f K a = no 2 := by
  unfold frame_Decode.f
  rw [if_neg (by omega), if_pos (by omega)]
  rfl
theorem decode_sum (K : Nat) (a : ByteArray) (h1 : 64 ≤ a.size) (h2 : a.size ≤ 1524) (hs : sealL ((lst a).take (a.size - 4)) ≠ lst a) : frame_Decode.f K a = no 8 := by
  unfold frame_Decode.f
  rw [if_neg (by omega), if_neg (by omega), open_f a (by omega) (by omega), if_neg hs]
  rfl
/-- frame.Decode inverts frame.Encode. -/
theorem decode_enc (K : Nat) (f : Fr) (h : Fr.good f) : frame_Decode.f (K + 11) (mkB (encL f)) = some ((f.d : Int), (f.s : Int), (f.t : Int), (f.y : Int), mkB f.b, 0) := by
  have hl := encL_length f
  have hb := h.1.2.2.2.2.2
  have h1 : 64 ≤ (mkB (encL f)).size := by rw [mk_size, hl]; omega
  have h2 : (mkB (encL f)).size ≤ 1524 := by rw [mk_size, hl]; split <;> omega
  rw [decode_f K _ (pad60 (encBody f)) h1 h2 rfl]
  have hd := dec_enc f h.1
  unfold again
  have p4 : (decL (pad60 (encBody f))).y = f.y := by rw [hd]
  have p5 : (decL (pad60 (encBody f))).b = f.b := by rw [hd]
  unfold decL at p4 p5
  simp only at p4 p5
  have hlen : f.b.length = min (val (((tagOf ((pad60 (encBody f)).drop 12)).2.drop 2).take 2)) ((tagOf ((pad60 (encBody f)).drop 12)).2.length - 4) := by
    rw [← p5, List.length_take, List.length_drop]
  have hn : val (((tagOf ((pad60 (encBody f)).drop 12)).2.drop 2).take 2) = f.b.length := by
    have e : (tagOf ((pad60 (encBody f)).drop 12)).2 = be 2 f.y ++ (be 2 f.b.length ++ (f.b ++ List.replicate (60 - (encBody f).length) 0)) := by
      obtain ⟨_, _, h3, h4, h5, h6⟩ := h.1
      have e12 : (pad60 (encBody f)).drop 12 = (if 0 < f.t then be 2 33024 ++ be 2 f.t else []) ++ (be 2 f.y ++ (be 2 f.b.length ++ (f.b ++ List.replicate (60 - (encBody f).length) 0))) := by
        unfold pad60
        generalize 60 - (encBody f).length = z
        simp only [encBody, List.append_assoc]
        rw [← List.append_assoc, drop_app 12 _ _ (by simp [be_length])]
      rw [e12, tagOf_enc f.t f.y _ h3 h4 h5]
    rw [e, drop_app 2 _ _ (be_length 2 _), take_app 2 _ _ (be_length 2 _), be2 _ (by omega)]
  rw [if_neg (by omega), p5, p4, hd, encode_ok K f h]
  simp only [Option.bind_some, if_true]
/-- Whatever is decoded without an error is the encoding of the result; an error gives the zero frame. -/
theorem decode_any (K : Nat) (a : ByteArray) : (∃ e, e ≠ 0 ∧ frame_Decode.f (K + 11) a = no e) ∨ ∃ f : Fr, Fr.good f ∧ a = mkB (encL f) ∧ frame_Decode.f (K + 11) a = some ((f.d : Int), (f.s : Int), (f.t : Int), (f.y : Int), mkB f.b, 0) := by
  by_cases h1 : a.size < 64
  · exact .inl ⟨9, by decide, decode_short _ a h1⟩
  · by_cases h2 : 1524 < a.size
    · exact .inl ⟨2, by decide, decode_long _ a h2⟩
    · by_cases hs : sealL ((lst a).take (a.size - 4)) = lst a
      · rw [decode_f K a _ (by omega) (by omega) hs]
        unfold again
        by_cases h3 : val (((tagOf (((lst a).take (a.size - 4)).drop 12)).2.drop 2).take 2) > (tagOf (((lst a).take (a.size - 4)).drop 12)).2.length - 4
        · rw [if_pos h3]
          exact .inl ⟨3, by decide, rfl⟩
        · rw [if_neg h3]
          generalize decL ((lst a).take (a.size - 4)) = f
          generalize val ((tagOf (((lst a).take (a.size - 4)).drop 12)).2.take 2) = y
          generalize (((tagOf (((lst a).take (a.size - 4)).drop 12)).2.drop 4).take (val (((tagOf (((lst a).take (a.size - 4)).drop 12)).2.drop 2).take 2))) = b
          by_cases hc : chk f.d f.s f.t y (mkB b).size = 0
          · obtain ⟨g, hg, e1, e2, e3, e4, e5⟩ := good_chk _ _ _ _ _ hc
            rw [e1, e2, e3, e4, e5, encode_ok K g hg]
            simp only [Option.bind_some, if_true]
            by_cases he : mkB (encL g) = a
            · rw [if_pos he]
              exact .inr ⟨g, hg, he.symm, rfl⟩
            · rw [if_neg he]
              exact .inl ⟨3, by decide, rfl⟩
          · rw [encode_bad K _ _ _ _ _ hc]
            simp only [Option.bind_some]
            rw [if_neg hc]
            exact .inl ⟨3, by decide, rfl⟩
      · exact .inl ⟨8, by decide, decode_sum _ a (by omega) (by omega) hs⟩
end Go.Proofs.YtkdncfbbhbmaaaaDoor.Br
namespace Go.Proofs.YtkdncfbbhbmaaaaDoor.St
set_option linter.unusedVariables false
set_option linter.unusedSimpArgs false
open Go.Lib
/-- The stuffed bits, behind n ones. -/
def stf : List UInt8 → Nat → List UInt8
  | [], _ => []
  | c :: l, n => if c = 48 then c :: stf l 0 else if n = 4 then c :: 48 :: stf l 0 else c :: stf l (n + 1)
/-- The bits without the added ones. -/
def unst : List UInt8 → Nat → Option (List UInt8)
  | [], n => if n = 5 then none else some []
  | c :: l, n => if n = 5 then (if c = 49 then none else unst l 0) else (unst l (if c = 48 then 0 else n + 1)).map (c :: ·)
def BinL (l : List UInt8) : Prop := ∀ c ∈ l, c = 48 ∨ c = 49
theorem BinL.tail {c : UInt8} {l : List UInt8} (h : BinL (c :: l)) : BinL l := fun x hx => h x (List.mem_cons_of_mem _ hx)
theorem unst_stf (l : List UInt8) : ∀ n, n ≤ 4 → BinL l → unst (stf l n) n = some l := by
  induction l with
  | nil => intro n hn _; simp only [stf, unst]; rw [if_neg (by omega)]
  | cons c l ih =>
    intro n hn hb
    have ht := hb.tail
    rw [stf]
    by_cases h0 : c = 48
    · rw [if_pos h0, unst, if_neg (by omega), if_pos h0, ih 0 (by omega) ht]
      rfl
    · rw [if_neg h0]
      by_cases h4 : n = 4
      · rw [if_pos h4, unst, if_neg (by omega), if_neg h0, unst, if_pos (by omega), if_neg (by decide), ih 0 (by omega) ht]
        rfl
      · rw [if_neg h4, unst, if_neg (by omega), if_neg h0, ih (n + 1) (by omega) ht]
        rfl
theorem stf_length (l : List UInt8) : ∀ n, l.length ≤ (stf l n).length ∧ (stf l n).length ≤ 2 * l.length := by
  induction l with
  | nil => intro n; simp [stf]
  | cons c l ih =>
    intro n
    rw [stf]
    have h0 := ih 0
    have h1 := ih (n + 1)
    split
    · simp; omega
    · split
      · simp; omega
      · simp; omega
theorem stf_bin (l : List UInt8) : ∀ n, BinL l → BinL (stf l n) := by
  induction l with
  | nil => intro n _ c hc; simp [stf] at hc
  | cons a l ih =>
    intro n hb c hc
    have ha := hb a (by simp)
    have h0 := ih 0 hb.tail c
    have h1 := ih (n + 1) hb.tail c
    rw [stf] at hc
    split at hc
    · rcases List.mem_cons.1 hc with z | z
      · rw [z]; exact ha
      · exact h0 z
    · split at hc
      · rcases List.mem_cons.1 hc with z | z
        · rw [z]; exact ha
        · rcases List.mem_cons.1 z with y | y
          · exact .inl y
          · exact h0 y
      · rcases List.mem_cons.1 hc with z | z
        · rw [z]; exact ha
        · exact h1 z
/-- Behind n ones never six in a row. -/
def okRun : List UInt8 → Nat → Prop
  | [], _ => True
  | c :: l, n => if c = 49 then n + 1 ≤ 5 ∧ okRun l (n + 1) else okRun l 0
theorem okRun_mono (l : List UInt8) : ∀ n m, m ≤ n → okRun l n → okRun l m := by
  induction l with
  | nil => intro n m _ _; trivial
  | cons c l ih =>
    intro n m hm h
    rw [okRun] at h ⊢
    by_cases z : c = 49
    · rw [if_pos z] at h ⊢
      exact ⟨by omega, ih (n + 1) (m + 1) (by omega) h.2⟩
    · rw [if_neg z] at h ⊢
      exact h
theorem okRun_drop (l : List UInt8) : ∀ i n, okRun l n → okRun (l.drop i) 0 := by
  induction l with
  | nil => intro i n _; simp; trivial
  | cons c l ih =>
    intro i n h
    cases i with
    | zero => exact okRun_mono (c :: l) n 0 (by omega) h
    | succ i =>
      rw [List.drop_succ_cons]
      rw [okRun] at h
      by_cases z : c = 49
      · rw [if_pos z] at h; exact ih i _ h.2
      · rw [if_neg z] at h; exact ih i _ h
theorem stf_okRun (l : List UInt8) : ∀ n, n ≤ 4 → BinL l → okRun (stf l n) n := by
  induction l with
  | nil => intro n _ _; trivial
  | cons c l ih =>
    intro n hn hb
    rw [stf]
    by_cases h0 : c = 48
    · rw [if_pos h0, okRun, if_neg (by rw [h0]; decide)]
      exact ih 0 (by omega) hb.tail
    · have h1 : c = 49 := (hb c (by simp)).resolve_left h0
      rw [if_neg h0]
      by_cases h4 : n = 4
      · rw [if_pos h4, okRun, if_pos h1, okRun, if_neg (by decide)]
        exact ⟨by omega, ih 0 (by omega) hb.tail⟩
      · rw [if_neg h4, okRun, if_pos h1]
        exact ⟨by omega, ih (n + 1) (by omega) hb.tail⟩
theorem no_six (l : List UInt8) (h : okRun l 0) (i : Nat) (h6 : ∀ t, t < 6 → l[i + t]? = some 49) : False := by
  have hd := okRun_drop l i 0 h
  have hg : ∀ t, t < 6 → (l.drop i)[t]? = some 49 := fun t ht => by rw [List.getElem?_drop]; exact h6 t ht
  generalize l.drop i = m at hd hg
  match m, hd, hg with
  | [], _, hg => have := hg 0 (by omega); simp at this
  | [_], _, hg => have := hg 1 (by omega); simp at this
  | [_, _], _, hg => have := hg 2 (by omega); simp at this
  | [_, _, _], _, hg => have := hg 3 (by omega); simp at this
  | [_, _, _, _], _, hg => have := hg 4 (by omega); simp at this
  | [_, _, _, _, _], _, hg => have := hg 5 (by omega); simp at this
  | a :: b :: c :: d :: e :: f :: m, hd, hg =>
    have h0 := hg 0 (by omega)
    have h1 := hg 1 (by omega)
    have h2 := hg 2 (by omega)
    have h3 := hg 3 (by omega)
    have h4 := hg 4 (by omega)
    have h5 := hg 5 (by omega)
    simp at h0 h1 h2 h3 h4 h5
    subst h0 h1 h2 h3 h4 h5
    simp [okRun] at hd
def flagL : List UInt8 := [48, 49, 49, 49, 49, 49, 49, 48]
theorem occ_get (s : List UInt8) (i : Nat) (h : occAt s flagL i = true) : ∀ t, t < 8 → s[i + t]? = flagL[t]? := by
  unfold occAt at h
  rw [List.isPrefixOf_iff_prefix] at h
  obtain ⟨r, hr⟩ := h
  intro t ht
  rw [← List.getElem?_drop, ← hr, List.getElem?_append_left (by simpa [flagL] using ht)]
theorem no_occ (s : List UInt8) (hs : okRun s 0) : ∀ j, j < s.length → occAt (s ++ flagL) flagL j = false := by
  intro j hj
  cases hq : occAt (s ++ flagL) flagL j with
  | false => rfl
  | true =>
    exfalso
    have hg := occ_get _ j hq
    by_cases h6 : j + 6 < s.length
    · refine no_six s hs (j + 1) fun t ht => ?_
      have := hg (t + 1) (by omega)
      rw [List.getElem?_append_left (by omega)] at this
      rw [show j + 1 + t = j + (t + 1) by omega, this]
      match t, ht with
      | 0, _ => rfl
      | 1, _ => rfl
      | 2, _ => rfl
      | 3, _ => rfl
      | 4, _ => rfl
      | 5, _ => rfl
    · obtain ⟨t, ht, hjt⟩ : ∃ t, t ≤ 6 ∧ j + t = s.length := ⟨s.length - j, by omega, by omega⟩
      have h1 : 1 ≤ t := by omega
      have := hg t (by omega)
      rw [hjt, List.getElem?_append_right (Nat.le_refl _), Nat.sub_self] at this
      match t, h1, ht with
      | 1, _, _ => exact absurd this (by decide)
      | 2, _, _ => exact absurd this (by decide)
      | 3, _, _ => exact absurd this (by decide)
      | 4, _, _ => exact absurd this (by decide)
      | 5, _, _ => exact absurd this (by decide)
      | 6, _, _ => exact absurd this (by decide)
theorem index_tail (s : List UInt8) (hs : okRun s 0) : index (s ++ flagL) flagL = (s.length : Nat) := by
  refine index_hit (i := s.length) (fun j hj => no_occ s hs j hj) (by simp) ?_
  unfold occAt
  rw [List.drop_append_of_le_length (Nat.le_refl _), List.drop_length, List.nil_append]
  decide
theorem index_head (s : List UInt8) : index (flagL ++ s) flagL = ((0 : Nat) : Int) := by
  refine index_hit (i := 0) (fun j hj => by omega) (by simp) ?_
  unfold occAt
  rw [List.drop_zero, List.isPrefixOf_iff_prefix]
  exact ⟨s, rfl⟩
def flagB : ByteArray := ⟨flagL.toArray⟩
/-- A text out of bytes. -/
def bs (l : List UInt8) : ByteArray := ⟨l.toArray⟩
theorem bs_size (l : List UInt8) : (bs l).size = l.length := by simp [bs, ByteArray.size]
theorem bs_extract (l : List UInt8) (a b : Nat) : (bs l).extract a b = bs ((l.take b).drop a) := by
  apply ByteArray.ext
  apply Array.ext'
  simp [bs, ByteArray.data_extract, List.drop_take, List.extract_eq_take_drop]
theorem flag_size : flagB.size = 8 := rfl
/-- A wrapped text. -/
def wrapL (s : List UInt8) : List UInt8 := flagL ++ s ++ flagL
theorem split_wrap (s : List UInt8) (hs : okRun s 0) : countB (bs (wrapL s)) flagB = 2 ∧ splitB flagB 0 2 (bs (wrapL s)) = [bs [], bs s, bs []] := by
  have e1 : indexB (bs (wrapL s)) flagB = ((0 : Nat) : Int) := by
    show index (bs (wrapL s)).data.toList flagB.data.toList = _
    show index (wrapL s) flagL = _
    unfold wrapL
    rw [List.append_assoc]
    exact index_head _
  have x1 : (bs (wrapL s)).extract (0 + flagB.size) (bs (wrapL s)).size = bs (s ++ flagL) := by
    rw [bs_extract, bs_size, List.take_of_length_le (Nat.le_refl _)]
    unfold wrapL
    rw [List.append_assoc]
    rfl
  have e2 : indexB (bs (s ++ flagL)) flagB = (s.length : Nat) := index_tail s hs
  have x2 : (bs (s ++ flagL)).extract (s.length + flagB.size) (bs (s ++ flagL)).size = bs [] := by
    rw [bs_extract, bs_size, List.take_of_length_le (Nat.le_refl _), List.drop_eq_nil_of_le (by simp [flag_size, flagL])]
  have e3 : indexB (bs []) flagB = -1 := by decide
  refine ⟨?_, ?_⟩
  · rw [countB_hit _ _ 0 (by decide) e1, x1, countB_hit _ _ s.length (by decide) e2, x2, countB_miss _ _ e3]
  · rw [splitB_hit _ _ _ _ 0 e1, x1, splitB_hit _ _ _ _ s.length e2, x2, splitB_zero, bs_extract, bs_extract]
    congr 1
    rw [List.take_append_of_le_length (by omega), List.take_of_length_le (by omega)]
    rfl
end Go.Proofs.YtkdncfbbhbmaaaaDoor.St
namespace Go.Proofs.YtkdncfbbhbmaaaaDoor.Q
open Go.RowKit Go.Proofs.YtkdncfbbhbmaaaaDoorW.PrintWords Go.Proofs.YtkdncfbbhbmaaaaDoorW.PrintLast Go.Proofs.YtkdncfbbhbmaaaaDoorW.PrintMore
attribute [local go_sem] max2_int min2_int max_two min_two max_three min_three max_four min_four   -- for this text's walks alone
set_option linter.unusedVariables false
set_option linter.unusedSimpArgs false

/-! ### patchbaytop_aCut: function 15 -/
def patchbaytop_aCut.f (a0 : ByteArray) (a1 : Int) : Option (ByteArray) := if 0 ≤ (mn (a0.size : Int) a1) then (if (mn (a0.size : Int) a1) ≤ (a0.size : Int) then (some (a0.extract 0 ((mn (a0.size : Int) a1) : Int).toNat)) else (none)) else (none)
set_option maxHeartbeats 8000000 in
set_option maxRecDepth 100000 in
theorem patchbaytop_aCut.calls (a0 : ByteArray) (a1 : Int) (r : ByteArray) (w : World) (h : patchbaytop_aCut.f a0 a1 = some r) :
    Calls Tryd.prog 15 #[.string a0, .int .i64 a1] w fun e w' => e = .returned (.string r) ∧ Below w.heap.size w w' := by
  have HB := Aside0.mk (Below.refl w.heap.size w)
  have H : (if 0 ≤ (mn (a0.size : Int) a1) then (if (mn (a0.size : Int) a1) ≤ (a0.size : Int) then (some (a0.extract 0 ((mn (a0.size : Int) a1) : Int).toNat)) else (none)) else (none)) = some r := h
  clear h
  obtain ⟨ji3, hji3⟩ : ∃ j_ : Int, (mn (a0.size : Int) a1) = j_ := ⟨_, rfl⟩
  replace H : (if 0 ≤ (ji3) then (if (ji3) ≤ (a0.size : Int) then (some (a0.extract 0 ((ji3) : Int).toNat)) else (none)) else (none)) = some r := by first | (rw [hji3] at H; exact H) | (simp only [hji3] at H ⊢; exact H)
  have hji3_ : (if a1 < (a0.size : Int) then a1 else (a0.size : Int)) = ji3 := hji3
  by_cases c4 : 0 ≤ (ji3)
  · rw [if_pos c4] at H
    have c4b0 := eq_true c4
    try (have c4b0q := c4b0; simp only [ByteArray.size_append, ByteArray.size_extract, Nat.min_self, Nat.sub_zero, Int.natCast_add] at c4b0q)
    have c4b1 : decide (0 ≤ (ji3)) = true := decide_eq_true c4
    clear c4
    by_cases c5 : (ji3) ≤ (a0.size : Int)
    · rw [if_pos c5] at H
      have c5b0 := eq_true c5
      try (have c5b0q := c5b0; simp only [ByteArray.size_append, ByteArray.size_extract, Nat.min_self, Nat.sub_zero, Int.natCast_add] at c5b0q)
      have c5b1 : decide ((ji3) ≤ (a0.size : Int)) = true := decide_eq_true c5
      clear c5
      obtain rfl := Option.some.inj H
      go_enter Tryd.func15, Tryd.ntmps15
      go_wp2
      go_ret
      exact ⟨by first | rfl | (simp [errW_none, errW_some] <;> rfl) | (simp only [← hji3]; first | rfl | (simp [errW_none, errW_some] <;> rfl)) | (simp [*, errW_none, errW_some] <;> rfl), by repeat (first | (with_reducible first | exact HB.out | apply below_alloc | apply pw_below_drewN | apply below_drew1) | exact HB.out)⟩
    · rw [if_neg c5] at H
      exact absurd H (by simp)
  · rw [if_neg c4] at H
    exact absurd H (by simp)

end Go.Proofs.YtkdncfbbhbmaaaaDoor.Q
