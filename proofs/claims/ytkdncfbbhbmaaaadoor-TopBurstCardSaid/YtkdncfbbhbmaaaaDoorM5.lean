/- Texts of this session and of its printer, one behind the other (wip/merge.py): functions of the program as Lean functions, walks and plain lemmas for the law of this claim. -/
import Derived.Test.YtkdncfbbhbmaaaaDoorM1
import Derived.Test.YtkdncfbbhbmaaaaDoorM4
import Derived.Test.YtkdncfbbhbmaaaaDoorM2
import Derived.Shelf.Strings.Builder1
import Derived.Shelf.Strings.BuilderF
import Derived.Shelf.Strings.BuilderK
import Derived.Shelf.Utf8.RuneCount
import Derived.Shelf.Strings.Search1
import Derived.Shelf.Strings.Search2
import Derived.Shelf.Strings.Search3
import Derived.Shelf.Strings.Count
import Derived.Shelf.LaysM
import Derived.Shelf.Strings.Shaped
import Derived.Shelf.Strings.Split
import Derived.Shelf.Strings.SplitShaped
import Derived.Shelf.Unicode.Decode
import Derived.Shelf.Strings.RuneCount
import Derived.Shelf.Strings.Explode
import Derived.Shelf.Unicode.DecodeSlow
import Derived.Shelf.Unicode.DecodeAny
import Derived.Test.YtkdncfbbhbmaaaaDoorProg
import Derived.Lib.Hide
import Derived.Lib.JoinLaws
import Derived.Deep.Slices
import Derived.Deep.Fields
import Derived.ChangeSame
import Derived.Lib.SmallJoins
import Derived.OpenShut
import Derived.Carry
namespace Go.Proofs.YtkdncfbbhbmaaaaDoor.Q
open Go.RowKit Go.Proofs.YtkdncfbbhbmaaaaDoorW.PrintWords Go.Proofs.YtkdncfbbhbmaaaaDoorW.PrintLast Go.Proofs.YtkdncfbbhbmaaaaDoorW.PrintMore
attribute [local go_sem] max2_int min2_int max_two min_two max_three min_three max_four min_four   -- for this text's walks alone
set_option linter.unusedVariables false
set_option linter.unusedSimpArgs false

/-! ### patchbaytop_aFrame: function 5 -/
def patchbaytop_aFrame.f (a0_0 : Int) (a0_1 : Int) (a0_2 : Int) (a0_3 : Int) (a0_4 : ByteArray) : Option (Int × Int × Int × Int × ByteArray) := (patchbaytop_aWithin.f a0_0 281474976710656).bind fun t132 => ((patchbaytop_aWithin.f a0_1 1099511627776).bind fun t133 => ((patchbaytop_aWithin.f a0_2 4095).bind fun t134 => ((patchbaytop_aWithin.f a0_3 32768).bind fun t135 => ((patchbaytop_aCut.f a0_4 60).bind fun t136 => (some (t132, t133, t134, t135, t136))))))
def patchbaytop_aFrame.T1 : Bool × List (List Nat × List Nat) := (true, [([], []), ([0], [0]), ([1], [1]), ([], []), ([3], [3]), ([4, 2], [4]), ([], []), ([6], [6]), ([7, 5], [7]), ([], []), ([9], [9]), ([10, 8], [10]), ([], []), ([12], [12]), ([13, 11], [13]), ([2, 5, 8, 11, 14], [2, 5, 8, 11, 14]), ([15, 14, 0, 1, 2, 3, 4, 5, 6, 7, 8, 9, 10, 11, 12, 13, 14, 15], [15])])
def patchbaytop_aFrame.B1 : List Nat := [0, 1, 3, 0, 8, 31, 0, 64, 255, 0, 512, 2047, 0, 4096, 16383, 32767, 65535]
theorem patchbaytop_aFrame.tab1 : rtab .any (opsOf Tryd.f5 1) = patchbaytop_aFrame.T1 := by kernel_rfl
theorem patchbaytop_aFrame.bits1 : waitsOk patchbaytop_aFrame.T1.2 patchbaytop_aFrame.B1 = true := by kernel_rfl
set_option maxHeartbeats 8000000 in
set_option maxRecDepth 100000 in
theorem patchbaytop_aFrame.calls (a0_0 : Int) (a0_1 : Int) (a0_2 : Int) (a0_3 : Int) (a0_4 : ByteArray) (r1 : Int) (r2 : Int) (r3 : Int) (r4 : Int) (r5 : ByteArray) (w : World) (h : patchbaytop_aFrame.f a0_0 a0_1 a0_2 a0_3 a0_4 = some (r1, r2, r3, r4, r5)) :
    Calls Tryd.prog 5 #[.agg #[.int .i64 a0_0, .int .i64 a0_1, .int .i64 a0_2, .int .i64 a0_3, .string a0_4]] w fun e w' => e = .returned (.agg #[.int .i64 r1, .int .i64 r2, .int .i64 r3, .int .i64 r4, .string r5]) ∧ Below w.heap.size w w' := by
  have hu23 := Tryd.underlying23
  have HB := Aside0.mk (Below.refl w.heap.size w)
  have H : ((patchbaytop_aWithin.f a0_0 281474976710656).bind fun t132 => ((patchbaytop_aWithin.f a0_1 1099511627776).bind fun t133 => ((patchbaytop_aWithin.f a0_2 4095).bind fun t134 => ((patchbaytop_aWithin.f a0_3 32768).bind fun t135 => ((patchbaytop_aCut.f a0_4 60).bind fun t136 => (some (t132, t133, t134, t135, t136))))))) = some (r1, r2, r3, r4, r5) := h
  clear h
  replace H := Option.bind_eq_some_iff.mp H
  obtain ⟨t132, A20, H⟩ := H
  replace H : ((patchbaytop_aWithin.f a0_1 1099511627776).bind fun t133 => ((patchbaytop_aWithin.f a0_2 4095).bind fun t134 => ((patchbaytop_aWithin.f a0_3 32768).bind fun t135 => ((patchbaytop_aCut.f a0_4 60).bind fun t136 => (some (t132, t133, t134, t135, t136)))))) = some (r1, r2, r3, r4, r5) := H
  have A2 := Aside0.mk A20
  clear A20
  replace H := Option.bind_eq_some_iff.mp H
  obtain ⟨t133, A30, H⟩ := H
  replace H : ((patchbaytop_aWithin.f a0_2 4095).bind fun t134 => ((patchbaytop_aWithin.f a0_3 32768).bind fun t135 => ((patchbaytop_aCut.f a0_4 60).bind fun t136 => (some (t132, t133, t134, t135, t136))))) = some (r1, r2, r3, r4, r5) := H
  have A3 := Aside0.mk A30
  clear A30
  replace H := Option.bind_eq_some_iff.mp H
  obtain ⟨t134, A40, H⟩ := H
  replace H : ((patchbaytop_aWithin.f a0_3 32768).bind fun t135 => ((patchbaytop_aCut.f a0_4 60).bind fun t136 => (some (t132, t133, t134, t135, t136)))) = some (r1, r2, r3, r4, r5) := H
  have A4 := Aside0.mk A40
  clear A40
  replace H := Option.bind_eq_some_iff.mp H
  obtain ⟨t135, A50, H⟩ := H
  replace H : ((patchbaytop_aCut.f a0_4 60).bind fun t136 => (some (t132, t133, t134, t135, t136))) = some (r1, r2, r3, r4, r5) := H
  have A5 := Aside0.mk A50
  clear A50
  replace H := Option.bind_eq_some_iff.mp H
  obtain ⟨t136, A60, H⟩ := H
  replace H : (some (t132, t133, t134, t135, t136)) = some (r1, r2, r3, r4, r5) := H
  have A6 := Aside0.mk A60
  clear A60
  simp only [Option.some.injEq, Prod.mk.injEq] at H
  obtain ⟨rfl, rfl, rfl, rfl, rfl⟩ := H
  go_enter Tryd.func5, Tryd.ntmps5
  try go_wp2_with (first | ((with_reducible refine gate_dst (N := 1) rfl ?_); refine box_event ?hg (N := 1) ?hd (cs := #[.int .i64 a0_0, .int .i64 a0_1, .int .i64 a0_2, .int .i64 a0_3, .string a0_4]) (t := 23) ?hr ?_; (case hd => rfl); (case hg => rfl); (case hr => first | (go_simp; done) | (go_simp; rfl)); intro gb130 hg w7 hbox hb; have n0_ := Aside0.mk (below_step (by repeat (first | (with_reducible first | exact HB.out | apply below_alloc | apply pw_below_drewN | apply below_drew1) | exact HB.out)) hb); have n1_ := Aside0.mk (hbox); have n2_ := Aside0.mk ((by rw [hg]; exact (below_size (by repeat (first | (with_reducible first | exact HB.out | apply below_alloc | apply pw_below_drewN | apply below_drew1) | exact HB.out))) : w.heap.size ≤ gb130)); have n3_ := Aside0.mk ((by rw [hg]; exact (below_size (by repeat (first | (with_reducible first | exact HB.out | apply below_alloc | apply pw_below_drewN | apply below_drew1) | exact HB.out))) : w.heap.size ≤ gb130)); clear HB; have HB := n0_; have BK130 := n1_; have GW130 := n2_; have GE130 := n3_; clear n0_ n1_ n2_ n3_; clear hb hbox hg) | ((with_reducible refine gate_dst (N := 2) rfl ?_); refine box_event ?hg (N := 2) ?hd (cs := #[.int .i64 0, .int .i64 0, .int .i64 0, .int .i64 0, .string (⟨#[]⟩ : ByteArray)]) (t := 23) ?hr ?_; (case hd => rfl); (case hg => rfl); (case hr => first | (go_simp; done) | (go_simp; rfl)); intro gb131 hg w8 hbox hb; have n0_ := Aside0.mk (blk_below (g := gb130) (o := .cells #[.int .i64 a0_0, .int .i64 a0_1, .int .i64 a0_2, .int .i64 a0_3, .string a0_4] 23 (0, 0)) (by (with_reducible repeat (first | refine blk_drewN ?_ _ | refine blk_drew ?_ | refine blk_alloc ?_ _)); exact BK130.out) hb); have n1_ := Aside0.mk (below_step (by repeat (first | (with_reducible first | exact HB.out | apply below_alloc | apply pw_below_drewN | apply below_drew1 | refine below_set ?_ GE130.out) | exact HB.out)) hb); have n2_ := Aside0.mk (hbox); have n3_ := Aside0.mk ((by rw [hg]; exact (below_size (by repeat (first | (with_reducible first | exact HB.out | apply below_alloc | apply pw_below_drewN | apply below_drew1 | refine below_set ?_ GE130.out) | exact HB.out))) : w.heap.size ≤ gb131)); have n4_ := Aside0.mk ((by rw [hg]; exact (below_size (by repeat (first | (with_reducible first | exact HB.out | apply below_alloc | apply pw_below_drewN | apply below_drew1 | refine below_set ?_ GE130.out) | exact HB.out))) : w.heap.size ≤ gb131)); have n5_ := Aside0.mk ((by rw [hg]; exact Nat.ne_of_lt (blk_lt (g := gb130) (o := .cells #[.int .i64 a0_0, .int .i64 a0_1, .int .i64 a0_2, .int .i64 a0_3, .string a0_4] 23 (0, 0)) (by (with_reducible repeat (first | refine blk_drewN ?_ _ | refine blk_drew ?_ | refine blk_alloc ?_ _)); exact BK130.out)) : gb130 ≠ gb131)); have n6_ := Aside0.mk ((by rw [hg]; exact Nat.ne_of_gt (blk_lt (g := gb130) (o := .cells #[.int .i64 a0_0, .int .i64 a0_1, .int .i64 a0_2, .int .i64 a0_3, .string a0_4] 23 (0, 0)) (by (with_reducible repeat (first | refine blk_drewN ?_ _ | refine blk_drew ?_ | refine blk_alloc ?_ _)); exact BK130.out)) : gb131 ≠ gb130)); clear BK130; clear HB; have BK130 := n0_; have HB := n1_; have BK131 := n2_; have GW131 := n3_; have GE131 := n4_; have NB130_131 := n5_; have NB131_130 := n6_; clear n0_ n1_ n2_ n3_ n4_ n5_ n6_; clear hb hbox hg))
  have n0_ := Aside0.mk (blk_drew BK130.out)
  have n1_ := Aside0.mk (blk_drew BK131.out)
  have n2_ := Aside0.mk (below_drew1 HB.out)
  clear BK130
  clear BK131
  clear HB
  have BK130 := n0_
  have BK131 := n1_
  have HB := n2_
  clear n0_ n1_ n2_
  refine start_ (n := 17) (S := fun w' => w'.cell? ⟨gb130, 0, none⟩ = some (.int .i64 a0_0) ∧ w'.cell? ⟨gb130, 1, none⟩ = some (.int .i64 a0_1) ∧ w'.cell? ⟨gb130, 2, none⟩ = some (.int .i64 a0_2) ∧ w'.cell? ⟨gb130, 3, none⟩ = some (.int .i64 a0_3) ∧ w'.cell? ⟨gb130, 4, none⟩ = some (.string a0_4)) (ds := []) #[false, false, false, false, false, false, false, false, false, false, false, false, false, false, false, false, false] (by kernel_rfl) rfl rfl ⟨(blk_cell BK130.out 0).trans rfl, (blk_cell BK130.out 1).trans rfl, (blk_cell BK130.out 2).trans rfl, (blk_cell BK130.out 3).trans rfl, (blk_cell BK130.out 4).trans rfl⟩ (fun hHeld => ?_); refine with_tabW patchbaytop_aFrame.tab1 patchbaytop_aFrame.bits1 (fun HT_ HW_ => ?_)
  generalize w8.drew = w9 at BK130 BK131 HB hHeld ⊢
  refine pure_ (i := 0) (N := some 3) (v := ?_) (a' := ?_) #[true, false, false, false, false, false, false, false, false, false, false, false, false, false, false, false, false] rfl rfl (any_of HT_.out (by kernel_rfl)) (fun _ _ _ h => h) (Or.inl ⟨by rfl, ?_⟩) ?_ ?_
  rotate_left
  · intro w'
    go_simp
    with_reducible rfl
  rotate_left
  · simp only [Act.put, List.setIfInBounds_toArray, List.set_cons_zero, List.set_cons_succ, i64_w, i32_w]
    rfl
  refine pure_ (i := 3) (N := some 6) (v := ?_) (a' := ?_) #[true, false, false, true, false, false, false, false, false, false, false, false, false, false, false, false, false] rfl rfl (any_of HT_.out (by kernel_rfl)) (fun _ _ _ h => h) (Or.inl ⟨by rfl, ?_⟩) ?_ ?_
  rotate_left
  · intro w'
    go_simp
    with_reducible rfl
  rotate_left
  · simp only [Act.put, List.setIfInBounds_toArray, List.set_cons_zero, List.set_cons_succ, i64_w, i32_w]
    rfl
  refine pure_ (i := 6) (N := some 9) (v := ?_) (a' := ?_) #[true, false, false, true, false, false, true, false, false, false, false, false, false, false, false, false, false] rfl rfl (any_of HT_.out (by kernel_rfl)) (fun _ _ _ h => h) (Or.inl ⟨by rfl, ?_⟩) ?_ ?_
  rotate_left
  · intro w'
    go_simp
    with_reducible rfl
  rotate_left
  · simp only [Act.put, List.setIfInBounds_toArray, List.set_cons_zero, List.set_cons_succ, i64_w, i32_w]
    rfl
  refine pure_ (i := 9) (N := some 12) (v := ?_) (a' := ?_) #[true, false, false, true, false, false, true, false, false, true, false, false, false, false, false, false, false] rfl rfl (any_of HT_.out (by kernel_rfl)) (fun _ _ _ h => h) (Or.inl ⟨by rfl, ?_⟩) ?_ ?_
  rotate_left
  · intro w'
    go_simp
    with_reducible rfl
  rotate_left
  · simp only [Act.put, List.setIfInBounds_toArray, List.set_cons_zero, List.set_cons_succ, i64_w, i32_w]
    rfl
  refine pure_ (i := 12) (N := some 15) (v := ?_) (a' := ?_) #[true, false, false, true, false, false, true, false, false, true, false, false, true, false, false, false, false] rfl rfl (any_of HT_.out (by kernel_rfl)) (fun _ _ _ h => h) (Or.inl ⟨by rfl, ?_⟩) ?_ ?_
  rotate_left
  · intro w'
    go_simp
    with_reducible rfl
  rotate_left
  · simp only [Act.put, List.setIfInBounds_toArray, List.set_cons_zero, List.set_cons_succ, i64_w, i32_w]
    rfl
  refine take_ (i := 1) (N := some 4) (v := ?_) (a' := ?_) #[true, true, false, true, false, false, true, false, false, true, false, false, true, false, false, false, false] rfl rfl (take_ofW HT_.out HW_.out (by kernel_rfl)) (fun _ _ _ h => h) (Or.inl ⟨by rfl, ?_⟩) hHeld ?_ ?_
  rotate_left
  · rintro w' ⟨s0, s1, s2, s3, s4⟩
    go_simp
    with_reducible rfl
  rotate_left
  · simp only [Act.put, List.setIfInBounds_toArray, List.set_cons_zero, List.set_cons_succ, i64_w, i32_w]
    rfl
  refine take_ (i := 4) (N := some 7) (v := ?_) (a' := ?_) #[true, true, false, true, true, false, true, false, false, true, false, false, true, false, false, false, false] rfl rfl (take_ofW HT_.out HW_.out (by kernel_rfl)) (fun _ _ _ h => h) (Or.inl ⟨by rfl, ?_⟩) hHeld ?_ ?_
  rotate_left
  · rintro w' ⟨s0, s1, s2, s3, s4⟩
    go_simp
    with_reducible rfl
  rotate_left
  · simp only [Act.put, List.setIfInBounds_toArray, List.set_cons_zero, List.set_cons_succ, i64_w, i32_w]
    rfl
  refine take_ (i := 7) (N := some 10) (v := ?_) (a' := ?_) #[true, true, false, true, true, false, true, true, false, true, false, false, true, false, false, false, false] rfl rfl (take_ofW HT_.out HW_.out (by kernel_rfl)) (fun _ _ _ h => h) (Or.inl ⟨by rfl, ?_⟩) hHeld ?_ ?_
  rotate_left
  · rintro w' ⟨s0, s1, s2, s3, s4⟩
    go_simp
    with_reducible rfl
  rotate_left
  · simp only [Act.put, List.setIfInBounds_toArray, List.set_cons_zero, List.set_cons_succ, i64_w, i32_w]
    rfl
  refine take_ (i := 10) (N := some 13) (v := ?_) (a' := ?_) #[true, true, false, true, true, false, true, true, false, true, true, false, true, false, false, false, false] rfl rfl (take_ofW HT_.out HW_.out (by kernel_rfl)) (fun _ _ _ h => h) (Or.inl ⟨by rfl, ?_⟩) hHeld ?_ ?_
  rotate_left
  · rintro w' ⟨s0, s1, s2, s3, s4⟩
    go_simp
    with_reducible rfl
  rotate_left
  · simp only [Act.put, List.setIfInBounds_toArray, List.set_cons_zero, List.set_cons_succ, i64_w, i32_w]
    rfl
  refine take_ (i := 13) (N := some 16) (v := ?_) (a' := ?_) #[true, true, false, true, true, false, true, true, false, true, true, false, true, true, false, false, false] rfl rfl (take_ofW HT_.out HW_.out (by kernel_rfl)) (fun _ _ _ h => h) (Or.inl ⟨by rfl, ?_⟩) hHeld ?_ ?_
  rotate_left
  · rintro w' ⟨s0, s1, s2, s3, s4⟩
    go_simp
    with_reducible rfl
  rotate_left
  · simp only [Act.put, List.setIfInBounds_toArray, List.set_cons_zero, List.set_cons_succ, i64_w, i32_w]
    rfl
  refine one_ (i := 2) (N := some 5) #[true, true, true, true, true, false, true, true, false, true, true, false, true, true, false, false, false] rfl rfl (one_of HT_.out (by kernel_rfl)) (by decide) (fun K hK => ?_)
  refine goes_ Tryd.func6 (by kernel_rfl) rfl #[.int .i64 a0_0, .int .i64 281474976710656] (by rfl) rfl rfl (by (try simp only [List.map_toArray, List.map_cons, List.map_nil]); first | done | rfl | (simp only [List.length_drop, List.length_take]; rfl)) ?_
  with_reducible refine (patchbaytop_aWithin.calls a0_0 281474976710656 t132 _ A2.out).mono ?_
  rintro e w' ⟨rfl, ⟨nd, rfl⟩⟩
  refine ⟨_, rfl, ?_⟩
  refine hK.out _ _ ⟨(blk_cell BK130.out 0).trans rfl, (blk_cell BK130.out 1).trans rfl, (blk_cell BK130.out 2).trans rfl, (blk_cell BK130.out 3).trans rfl, (blk_cell BK130.out 4).trans rfl⟩ (fun hHeld => ?_)
  clear hK K
  refine norm_ (a' := ?_) ?_ ?_
  rotate_left
  · show Act.put _ (some 5) _ = _
    simp only [Act.put, List.setIfInBounds_toArray, List.set_cons_zero, List.set_cons_succ, i64_w, i32_w]
    rfl
  refine one_ (i := 5) (N := some 8) #[true, true, true, true, true, true, true, true, false, true, true, false, true, true, false, false, false] rfl rfl (one_of HT_.out (by kernel_rfl)) (by decide) (fun K hK => ?_)
  refine goes_ Tryd.func6 (by kernel_rfl) rfl #[.int .i64 a0_1, .int .i64 1099511627776] (by rfl) rfl rfl (by (try simp only [List.map_toArray, List.map_cons, List.map_nil]); first | done | rfl | (simp only [List.length_drop, List.length_take]; rfl)) ?_
  with_reducible refine (patchbaytop_aWithin.calls a0_1 1099511627776 t133 _ A3.out).mono ?_
  rintro e w' ⟨rfl, ⟨nd, rfl⟩⟩
  refine ⟨_, rfl, ?_⟩
  refine hK.out _ _ ⟨(blk_cell BK130.out 0).trans rfl, (blk_cell BK130.out 1).trans rfl, (blk_cell BK130.out 2).trans rfl, (blk_cell BK130.out 3).trans rfl, (blk_cell BK130.out 4).trans rfl⟩ (fun hHeld => ?_)
  clear hK K
  refine norm_ (a' := ?_) ?_ ?_
  rotate_left
  · show Act.put _ (some 8) _ = _
    simp only [Act.put, List.setIfInBounds_toArray, List.set_cons_zero, List.set_cons_succ, i64_w, i32_w]
    rfl
  refine one_ (i := 8) (N := some 11) #[true, true, true, true, true, true, true, true, true, true, true, false, true, true, false, false, false] rfl rfl (one_of HT_.out (by kernel_rfl)) (by decide) (fun K hK => ?_)
  refine goes_ Tryd.func6 (by kernel_rfl) rfl #[.int .i64 a0_2, .int .i64 4095] (by rfl) rfl rfl (by (try simp only [List.map_toArray, List.map_cons, List.map_nil]); first | done | rfl | (simp only [List.length_drop, List.length_take]; rfl)) ?_
  with_reducible refine (patchbaytop_aWithin.calls a0_2 4095 t134 _ A4.out).mono ?_
  rintro e w' ⟨rfl, ⟨nd, rfl⟩⟩
  refine ⟨_, rfl, ?_⟩
  refine hK.out _ _ ⟨(blk_cell BK130.out 0).trans rfl, (blk_cell BK130.out 1).trans rfl, (blk_cell BK130.out 2).trans rfl, (blk_cell BK130.out 3).trans rfl, (blk_cell BK130.out 4).trans rfl⟩ (fun hHeld => ?_)
  clear hK K
  refine norm_ (a' := ?_) ?_ ?_
  rotate_left
  · show Act.put _ (some 11) _ = _
    simp only [Act.put, List.setIfInBounds_toArray, List.set_cons_zero, List.set_cons_succ, i64_w, i32_w]
    rfl
  refine one_ (i := 11) (N := some 14) #[true, true, true, true, true, true, true, true, true, true, true, true, true, true, false, false, false] rfl rfl (one_of HT_.out (by kernel_rfl)) (by decide) (fun K hK => ?_)
  refine goes_ Tryd.func6 (by kernel_rfl) rfl #[.int .i64 a0_3, .int .i64 32768] (by rfl) rfl rfl (by (try simp only [List.map_toArray, List.map_cons, List.map_nil]); first | done | rfl | (simp only [List.length_drop, List.length_take]; rfl)) ?_
  with_reducible refine (patchbaytop_aWithin.calls a0_3 32768 t135 _ A5.out).mono ?_
  rintro e w' ⟨rfl, ⟨nd, rfl⟩⟩
  refine ⟨_, rfl, ?_⟩
  refine hK.out _ _ ⟨(blk_cell BK130.out 0).trans rfl, (blk_cell BK130.out 1).trans rfl, (blk_cell BK130.out 2).trans rfl, (blk_cell BK130.out 3).trans rfl, (blk_cell BK130.out 4).trans rfl⟩ (fun hHeld => ?_)
  clear hK K
  refine norm_ (a' := ?_) ?_ ?_
  rotate_left
  · show Act.put _ (some 14) _ = _
    simp only [Act.put, List.setIfInBounds_toArray, List.set_cons_zero, List.set_cons_succ, i64_w, i32_w]
    rfl
  refine one_ (i := 14) (N := some 17) #[true, true, true, true, true, true, true, true, true, true, true, true, true, true, true, false, false] rfl rfl (one_of HT_.out (by kernel_rfl)) (by decide) (fun K hK => ?_)
  refine goes_ Tryd.func15 (by kernel_rfl) rfl #[.string a0_4, .int .i64 60] (by rfl) rfl rfl (by (try simp only [List.map_toArray, List.map_cons, List.map_nil]); first | done | rfl | (simp only [List.length_drop, List.length_take]; rfl)) ?_
  with_reducible refine (patchbaytop_aCut.calls a0_4 60 t136 _ A6.out).mono ?_
  rintro e w10 ⟨rfl, hb⟩
  refine ⟨_, rfl, ?_⟩
  have n0_ := Aside0.mk (blk_below (g := gb130) (o := .cells #[.int .i64 a0_0, .int .i64 a0_1, .int .i64 a0_2, .int .i64 a0_3, .string a0_4] 23 (0, 0)) (by (with_reducible repeat (first | refine blk_drewN ?_ _ | refine blk_drew ?_ | refine blk_alloc ?_ _)); exact BK130.out) hb)
  have n1_ := Aside0.mk (blk_below (g := gb131) (o := .cells #[.int .i64 0, .int .i64 0, .int .i64 0, .int .i64 0, .string (⟨#[]⟩ : ByteArray)] 23 (0, 0)) (by (with_reducible repeat (first | refine blk_drewN ?_ _ | refine blk_drew ?_ | refine blk_alloc ?_ _)); exact BK131.out) hb)
  have n2_ := Aside0.mk (below_step (by repeat (first | (with_reducible first | exact HB.out | apply below_alloc | apply pw_below_drewN | apply below_drew1 | refine below_set ?_ GE130.out | refine below_set ?_ GE131.out) | exact HB.out)) hb)
  clear BK130
  clear BK131
  clear HB
  have BK130 := n0_
  have BK131 := n1_
  have HB := n2_
  clear n0_ n1_ n2_
  (try clear hb)
  (try clear hb2)
  (try clear hk)
  (try clear hi)
  refine hK.out _ _ ⟨(blk_cell BK130.out 0).trans rfl, (blk_cell BK130.out 1).trans rfl, (blk_cell BK130.out 2).trans rfl, (blk_cell BK130.out 3).trans rfl, (blk_cell BK130.out 4).trans rfl⟩ (fun hHeld => ?_)
  clear hK K
  refine norm_ (a' := ?_) ?_ ?_
  rotate_left
  · show Act.put _ (some 17) _ = _
    simp only [Act.put, List.setIfInBounds_toArray, List.set_cons_zero, List.set_cons_succ, i64_w, i32_w]
    rfl
  refine pure_ (i := 15) (N := some 18) (v := ?_) (a' := ?_) #[true, true, true, true, true, true, true, true, true, true, true, true, true, true, true, true, false] rfl rfl (any_of HT_.out (by kernel_rfl)) (fun _ _ _ h => h) (Or.inl ⟨by rfl, ?_⟩) ?_ ?_
  rotate_left
  · intro w'
    go_simp
    with_reducible rfl
  rotate_left
  · simp only [Act.put, List.setIfInBounds_toArray, List.set_cons_zero, List.set_cons_succ, i64_w, i32_w]
    rfl
  refine one_ (i := 16) (N := none) #[true, true, true, true, true, true, true, true, true, true, true, true, true, true, true, true, true] rfl rfl (one_of HT_.out (by kernel_rfl)) (by decide) (fun K hK => ?_)
  have hs11 : w10.cell? ⟨gb131, 0, none⟩ = some (.int .i64 0) := (blk_cell BK131.out 0).trans rfl
  have hfs11 := blk_frozen BK131.out 0
  have hns11_0 := NB130_131.out
  have hms11_0 := NB131_130.out
  have hs12 : w10.cell? ⟨gb131, 1, none⟩ = some (.int .i64 0) := (blk_cell BK131.out 1).trans rfl
  have hfs12 := blk_frozen BK131.out 1
  have hns12_0 := NB130_131.out
  have hms12_0 := NB131_130.out
  have hs13 : w10.cell? ⟨gb131, 2, none⟩ = some (.int .i64 0) := (blk_cell BK131.out 2).trans rfl
  have hfs13 := blk_frozen BK131.out 2
  have hns13_0 := NB130_131.out
  have hms13_0 := NB131_130.out
  have hs14 : w10.cell? ⟨gb131, 3, none⟩ = some (.int .i64 0) := (blk_cell BK131.out 3).trans rfl
  have hfs14 := blk_frozen BK131.out 3
  have hns14_0 := NB130_131.out
  have hms14_0 := NB131_130.out
  have hs15 : w10.cell? ⟨gb131, 4, none⟩ = some (.string (⟨#[]⟩ : ByteArray)) := (blk_cell BK131.out 4).trans rfl
  have hfs15 := blk_frozen BK131.out 4
  have hns15_0 := NB130_131.out
  have hms15_0 := NB131_130.out
  refine skip_ (w1 := ?_) (by rfl) rfl ?_ ?_
  rotate_left
  · go_simp
    rfl
  refine hK.out _ _ ⟨((cell_far (p := ⟨gb131, _, none⟩) NB130_131.out _).trans (((cell_far (p := ⟨gb131, _, none⟩) NB130_131.out _).trans (((cell_far (p := ⟨gb131, _, none⟩) NB130_131.out _).trans (((cell_far (p := ⟨gb131, _, none⟩) NB130_131.out _).trans (((cell_far (p := ⟨gb131, _, none⟩) NB130_131.out _).trans (hHeld.1)))))))))), ((cell_far (p := ⟨gb131, _, none⟩) NB130_131.out _).trans (((cell_far (p := ⟨gb131, _, none⟩) NB130_131.out _).trans (((cell_far (p := ⟨gb131, _, none⟩) NB130_131.out _).trans (((cell_far (p := ⟨gb131, _, none⟩) NB130_131.out _).trans (((cell_far (p := ⟨gb131, _, none⟩) NB130_131.out _).trans (hHeld.2.1)))))))))), ((cell_far (p := ⟨gb131, _, none⟩) NB130_131.out _).trans (((cell_far (p := ⟨gb131, _, none⟩) NB130_131.out _).trans (((cell_far (p := ⟨gb131, _, none⟩) NB130_131.out _).trans (((cell_far (p := ⟨gb131, _, none⟩) NB130_131.out _).trans (((cell_far (p := ⟨gb131, _, none⟩) NB130_131.out _).trans (hHeld.2.2.1)))))))))), ((cell_far (p := ⟨gb131, _, none⟩) NB130_131.out _).trans (((cell_far (p := ⟨gb131, _, none⟩) NB130_131.out _).trans (((cell_far (p := ⟨gb131, _, none⟩) NB130_131.out _).trans (((cell_far (p := ⟨gb131, _, none⟩) NB130_131.out _).trans (((cell_far (p := ⟨gb131, _, none⟩) NB130_131.out _).trans (hHeld.2.2.2.1)))))))))), ((cell_far (p := ⟨gb131, _, none⟩) NB130_131.out _).trans (((cell_far (p := ⟨gb131, _, none⟩) NB130_131.out _).trans (((cell_far (p := ⟨gb131, _, none⟩) NB130_131.out _).trans (((cell_far (p := ⟨gb131, _, none⟩) NB130_131.out _).trans (((cell_far (p := ⟨gb131, _, none⟩) NB130_131.out _).trans (hHeld.2.2.2.2))))))))))⟩ (fun hHeld => ?_)
  clear hK K
  refine done_ (done_of HT_.out (by kernel_rfl)) ?_
  try go_wp2
  refine bodyPost_ret (results_cell_row rfl _ _ gb131 23 #[.int .i64 t132, .int .i64 t133, .int .i64 t134, .int .i64 t135, .string t136] (0, 0) _ rfl (by (with_reducible repeat (first | refine blk_drewN ?_ _ | refine blk_drew ?_ | refine blk_alloc ?_ _)); refine blk_put (cs := #[.int .i64 t132, .int .i64 t133, .int .i64 t134, .int .i64 t135, .string (⟨#[]⟩ : ByteArray)]) ?_ 4 _ rfl; (with_reducible repeat (first | refine blk_drewN ?_ _ | refine blk_drew ?_ | refine blk_alloc ?_ _)); refine blk_put (cs := #[.int .i64 t132, .int .i64 t133, .int .i64 t134, .int .i64 0, .string (⟨#[]⟩ : ByteArray)]) ?_ 3 _ rfl; (with_reducible repeat (first | refine blk_drewN ?_ _ | refine blk_drew ?_ | refine blk_alloc ?_ _)); refine blk_put (cs := #[.int .i64 t132, .int .i64 t133, .int .i64 0, .int .i64 0, .string (⟨#[]⟩ : ByteArray)]) ?_ 2 _ rfl; (with_reducible repeat (first | refine blk_drewN ?_ _ | refine blk_drew ?_ | refine blk_alloc ?_ _)); refine blk_put (cs := #[.int .i64 t132, .int .i64 0, .int .i64 0, .int .i64 0, .string (⟨#[]⟩ : ByteArray)]) ?_ 1 _ rfl; (with_reducible repeat (first | refine blk_drewN ?_ _ | refine blk_drew ?_ | refine blk_alloc ?_ _)); refine blk_put (cs := #[.int .i64 0, .int .i64 0, .int .i64 0, .int .i64 0, .string (⟨#[]⟩ : ByteArray)]) ?_ 0 _ rfl; (with_reducible repeat (first | refine blk_drewN ?_ _ | refine blk_drew ?_ | refine blk_alloc ?_ _)); exact BK131.out) Tryd.underlying23 rfl (by kernel_rfl)) rfl ?_
  exact ⟨by first | rfl | (simp [errW_none, errW_some] <;> rfl) | (simp [*, errW_none, errW_some] <;> rfl), by repeat (first | (with_reducible first | exact HB.out | apply below_alloc | apply pw_below_drewN | apply below_drew1 | refine below_set ?_ GE130.out | refine below_set ?_ GE131.out) | exact HB.out)⟩

end Go.Proofs.YtkdncfbbhbmaaaaDoor.Q
namespace Go.Proofs.YtkdncfbbhbmaaaaDoor.Br
open Go.RowKit Go.Proofs.YtkdncfbbhbmaaaaDoor.Q Go.Proofs.YtkdncfbbhbmaaaaDoorW.PrintWords Go.Proofs.YtkdncfbbhbmaaaaDoorW.PrintLast Go.Proofs.YtkdncfbbhbmaaaaDoorW.PrintMore Go.Proofs.YtkdncfbbhbmaaaaDoor.K Go.Proofs.YtkdncfbbhbmaaaaDoor.St
set_option linter.unusedVariables false
set_option linter.unusedSimpArgs false
theorem acut_f (s : ByteArray) : ∃ t : ByteArray, patchbaytop_aCut.f s 60 = some t ∧ t.size ≤ 60 := by
  have h : mn (s.size : Int) 60 = ((min s.size 60 : Nat) : Int) := by unfold mn; split <;> omega
  refine ⟨s.extract 0 (min s.size 60), ?_, ?_⟩
  · unfold patchbaytop_aCut.f
    rw [h, if_pos (by omega), if_pos (by omega), Int.toNat_natCast]
  · rw [ByteArray.size_extract]
    omega
theorem frame_make (d s t y : Int) (x : ByteArray) : ∃ f : Fr, Fr.good f ∧ f.b.length ≤ 60 ∧ patchbaytop_aFrame.f d s t y x = some ((f.d : Int), (f.s : Int), (f.t : Int), (f.y : Int), mkB f.b) := by
  obtain ⟨x2, hx, hl⟩ := acut_f x
  have e1 : patchbaytop_aWithin.f d 281474976710656 = _ := within_f d 281474976710656 (by decide) (by decide)
  have e2 : patchbaytop_aWithin.f s 1099511627776 = _ := within_f s 1099511627776 (by decide) (by decide)
  have e3 : patchbaytop_aWithin.f t 4095 = _ := within_f t 4095 (by decide) (by decide)
  have e4 : patchbaytop_aWithin.f y 32768 = _ := within_f y 32768 (by decide) (by decide)
  have g1 := withinN_lt d 281474976710656 (by decide)
  have g2 := withinN_lt s 1099511627776 (by decide)
  have g3 := withinN_lt t 4095 (by decide)
  have g4 := withinN_lt y 32768 (by decide)
  generalize withinN d 281474976710656 = d2 at e1 g1
  generalize withinN s 1099511627776 = s2 at e2 g2
  generalize withinN t 4095 = t2 at e3 g3
  generalize withinN y 32768 = y2 at e4 g4
  have hc : chk (d2 : Int) (s2 : Int) (t2 : Int) (y2 : Int) x2.size = 0 := by
    unfold chk
    rw [if_neg (by omega), if_neg (by omega), if_neg (by omega)]
  obtain ⟨f, hf, h1, h2, h3, h4, h5⟩ := good_chk _ _ _ _ _ hc
  refine ⟨f, hf, ?_, ?_⟩
  · rw [h5, mk_size] at hl
    exact hl
  · unfold patchbaytop_aFrame.f
    rw [e1, e2, e3, e4, hx]
    simp only [Option.bind_some]
    rw [← h1, ← h2, ← h3, ← h4, ← h5]
theorem wrap_small (n : Int) (h0 : 0 ≤ n) (h1 : n ≤ 1000000) : wrap64 n = n := by unfold wrap64; omega
theorem div_facts (n d : Nat) (h1 : 1 ≤ n) (h2 : n ≤ 300) (h3 : 1 ≤ d) (h4 : d ≤ 64) : 0 < (2 * n + d - 1) / d ∧ (2 * n + d - 1) / d ≤ 1000 ∧ ∀ B, B < (2 * n + d - 1) / d → B * d < 2 * n := by
  have hdiv : ((2 * n + d - 1) / d) * d ≤ 2 * n + d - 1 := Nat.div_mul_le_self _ _
  have hdle : (2 * n + d - 1) / d ≤ 2 * n + d - 1 := Nat.div_le_self _ _
  refine ⟨Nat.div_pos (by omega) (by omega), by omega, fun B hB => ?_⟩
  have hBd : (B + 1) * d ≤ ((2 * n + d - 1) / d) * d := Nat.mul_le_mul_right d hB
  rw [Nat.succ_mul B d] at hBd
  omega
theorem head_wraps (n d : Nat) (h2 : n ≤ 300) (h3 : 1 ≤ d) (h4 : d ≤ 64) : wrap64 (2 * (n : Int)) = ((2 * n : Nat) : Int) ∧ wrap64 (((2 * n : Nat) : Int) + (d : Int)) = ((2 * n + d : Nat) : Int) ∧ wrap64 (((2 * n + d : Nat) : Int) - 1) = ((2 * n + d - 1 : Nat) : Int) :=
  ⟨(wrap_small _ (by omega) (by omega)).trans (by omega), (wrap_small _ (by omega) (by omega)).trans (by omega), (wrap_small _ (by omega) (by omega)).trans (by omega)⟩
theorem block_wraps (n d fm : Nat) (h2 : n ≤ 300) (h3 : 1 ≤ d) (h4 : d ≤ 64) (h5 : fm < 2 * n) : wrap64 (((2 * n : Nat) : Int) - (fm : Int)) = ((2 * n - fm : Nat) : Int) ∧ wrap64 (7 * (fm : Int)) = ((7 * fm : Nat) : Int) ∧ 0 < min d (2 * n - fm) ∧ min d (2 * n - fm) ≤ 64 := by
  have hm : min d (2 * n - fm) ≤ 64 := by omega
  exact ⟨(wrap_small _ (by omega) (by omega)).trans (by omega), (wrap_small _ (by omega) (by omega)).trans (by omega), by omega, hm⟩
theorem six_wraps (z : Nat) (h : z ≤ 64) : wrap64 (6 * (z : Int)) = ((6 * z : Nat) : Int) ∧ wrap64 (((6 * z : Nat) : Int) + 1) = ((6 * z + 1 : Nat) : Int) :=
  ⟨(wrap_small _ (by omega) (by omega)).trans (by omega), (wrap_small _ (by omega) (by omega)).trans (by omega)⟩
/-- What is decoded of the encoded bytes in which bits of one block are turned. -/
theorem top_decode (X ch : ByteArray) (hX : X.size ≤ 300) (d : Nat) (hd1 : 1 ≤ d) (hd2 : d ≤ 64) (B r T : Nat) (hB : B * d < 2 * X.size) (hr : r ≤ 6 * min d (2 * X.size - B * d)) (hT : T ≤ min d (2 * X.size - B * d)) :
    ∃ (k : Nat) (c : Int), fec_Decode.f k (strOfNums (fl (PB ch (7 * (B * d) + r) (7 * (B * d) + r + T)) 0 (encB d X))) (d : Int) = some (X, c, 0) := by
  have ho : Once (PB ch (7 * (B * d) + r) (7 * (B * d) + r + T)) d (2 * X.size) 0 (2 * X.size) := by
    have h := Once_window (PB ch (7 * (B * d) + r) (7 * (B * d) + r + T)) d B (2 * X.size) (7 * (B * d) + r) T hd1 hT (fun j hj => by
      have := PB_in hj
      generalize min d (2 * X.size - B * d) = z at hr hT
      generalize B * d = fm at *
      omega) (2 * X.size) 0
    rw [Nat.zero_mul, Nat.mul_zero, Nat.sub_zero] at h
    exact h
  obtain ⟨k, hk⟩ := (decode_fl X hX d hd1 hd2 _ ho).rounds
  exact ⟨k, _, hk⟩
theorem bin_str (l : List Int) (h : Bin l) : BinL (strOfNums l).data.toList := by
  intro c hc
  have e : (strOfNums l).data.toList = l.map fun n => UInt8.ofNat n.toNat := by simp [strOfNums]
  rw [e] at hc
  obtain ⟨n, hn, rfl⟩ := List.mem_map.1 hc
  rcases h n hn with rfl | rfl
  · exact .inl rfl
  · exact .inr rfl
theorem bs_data (s : ByteArray) : (⟨s.data.toList.toArray⟩ : ByteArray) = s := by
  apply ByteArray.ext
  simp
/-- One round of the turning. -/
theorem turn_yes (ch : ByteArray) (first i : Nat) (L : List Int) (hb : Bin L) (hl : L.length ≤ 100000) (hi : first + i < L.length) (h1 : i < ch.size) (h2 : Go.bits .and .u8 (bt ch (i : Int)) 1 = 1) :
    bits_Flip.f (strOfNums (fl (PB ch first (first + i)) 0 L)) ((first + i : Nat) : Int) = some (strOfNums (fl (PB ch first (first + i + 1)) 0 L)) := by
  have e : first + i - first = i := by omega
  have hp := PB_yes ch first (first + i) (by omega) (by rw [e]; exact h1) (by rw [e]; exact h2)
  rw [flip_eq _ (fl_bin _ L 0 hb) (by rw [fl_length]; exact hl) (first + i) (by rw [fl_length]; exact hi), fl_more _ _ _ hi (PB_at ch first (first + i)), hp]
theorem turn_no (ch : ByteArray) (first i : Nat) (h2 : ¬ Go.bits .and .u8 (bt ch (i : Int)) 1 = 1) : PB ch first (first + i + 1) = PB ch first (first + i) :=
  PB_no ch first (first + i) (fun q => h2 (by rw [show first + i - first = i by omega] at q; exact q.2))
/-- The numbers ahead of the block, each under a name of its own. -/
theorem nums1 (n D : Nat) (h1 : 64 ≤ n) (h2 : n ≤ 100) (h3 : 1 ≤ D) (h4 : D ≤ 64) : ∃ W0 W1 W2 q : Nat, Aside0 (W0 = 2 * n) ∧ wrap64 (2 * (n : Int)) = (W0 : Int) ∧ wrap64 ((W0 : Int) + (D : Int)) = (W1 : Int) ∧ wrap64 ((W1 : Int) - 1) = (W2 : Int) ∧
    wrap64 ((W2 : Int) / (D : Int)) = (q : Int) ∧ Aside0 (0 < q ∧ q ≤ 1000 ∧ ∀ B, B < q → B * D < 2 * n) := by
  obtain ⟨a, b, c⟩ := div_facts n D (by omega) (by omega) h3 h4
  refine ⟨2 * n, 2 * n + D, 2 * n + D - 1, (2 * n + D - 1) / D, ⟨rfl⟩, ?_, ?_, ?_, ?_, ⟨a, b, c⟩⟩
  · rw [wrap_small _ (by omega) (by omega)]; omega
  · rw [wrap_small _ (by omega) (by omega)]; omega
  · rw [wrap_small _ (by omega) (by omega)]; omega
  · rw [← Int.natCast_ediv]
    exact wrap_small _ (Int.natCast_nonneg _) (Int.ofNat_le.2 (Nat.le_trans b (by decide)))
theorem nums2 (n D B W0 : Nat) (h1 : 64 ≤ n) (h2 : n ≤ 100) (h3 : 1 ≤ D) (h4 : D ≤ 64) (hW : W0 = 2 * n) (hB : B * D < 2 * n) : ∃ FM R SZ F7 S0 S6 : Nat, Aside0 (FM = B * D) ∧ wrap64 ((B : Int) * (D : Int)) = (FM : Int) ∧ wrap64 ((W0 : Int) - (FM : Int)) = (R : Int) ∧
    (if R < D then (R : Int) else (D : Int)) = (SZ : Int) ∧ Aside0 (SZ = min D (2 * n - B * D) ∧ 0 < SZ ∧ SZ ≤ 64) ∧ wrap64 (7 * (FM : Int)) = (F7 : Int) ∧ Aside0 (F7 = 7 * (B * D) ∧ B * D + SZ ≤ 2 * n) ∧ wrap64 (6 * (SZ : Int)) = (S0 : Int) ∧ wrap64 ((S0 : Int) + 1) = (S6 : Int) ∧ Aside0 (S6 = 6 * SZ + 1) := by
  have hFM : wrap64 ((B : Int) * (D : Int)) = ((B * D : Nat) : Int) := by
    rw [← Int.natCast_mul]
    exact wrap_small _ (Int.natCast_nonneg _) (by omega)
  generalize B * D = FM at hB hFM
  have hz : min D (2 * n - FM) ≤ 64 := by omega
  refine ⟨FM, 2 * n - FM, min D (2 * n - FM), 7 * FM, 6 * min D (2 * n - FM), 6 * min D (2 * n - FM) + 1, ⟨rfl⟩, hFM, ?_, ?_, ⟨rfl, by omega, hz⟩, ?_, ⟨rfl, by omega⟩, ?_, ?_, ⟨rfl⟩⟩
  · rw [hW, wrap_small _ (by omega) (by omega)]; omega
  · split <;> omega
  · rw [wrap_small _ (by omega) (by omega)]; omega
  · generalize min D (2 * n - FM) = z at hz
    rw [wrap_small _ (by omega) (by omega)]; omega
  · generalize min D (2 * n - FM) = z at hz
    rw [wrap_small _ (by omega) (by omega)]; omega
theorem nums3 (F7 r SZ c : Nat) (h1 : F7 ≤ 1400) (h2 : r ≤ 384) (h3 : SZ ≤ 64) : ∃ FI T : Nat, wrap64 ((F7 : Int) + (r : Int)) = (FI : Int) ∧ Aside0 (FI = F7 + r) ∧ (if c < SZ then (c : Int) else (SZ : Int)) = (T : Int) ∧ Aside0 (T ≤ SZ ∧ T ≤ c) := by
  refine ⟨F7 + r, min c SZ, ?_, ⟨rfl⟩, ?_, ⟨by omega, by omega⟩⟩
  · rw [wrap_small _ (by omega) (by omega)]; omega
  · split <;> omega
end Go.Proofs.YtkdncfbbhbmaaaaDoor.Br
namespace Go.Proofs
open Go.Shelf
def Tryd.lays169_ren : Go.Shelf.Ren := ⟨fun | 169 => 32 | n => n, fun | 70 => 60 | 9 => 9 | 0 => 0 | 72 => 62 | 37 => 44 | 127 => 70 | 3 => 3 | 5 => 5 | n => n, fun | n => n⟩
theorem Tryd.lays169 : Go.Proofs.Lays.n169 Tryd.prog Tryd.lays169_ren := {
  mixed := by kernel_rfl
  f169 := Tryd.func32.trans (congrArg some (by kernel_rfl))
  t0 := Tryd.underlying0
  a0 := Tryd.isAgg0
  z0 := Tryd.sizeOf0
  v0 := Tryd.zeroValue0
  t3 := Tryd.underlying3
  a3 := Tryd.isAgg3
  z3 := Tryd.sizeOf3
  v3 := Tryd.zeroValue3
  t9 := Tryd.underlying9
  a9 := Tryd.isAgg9
  z9 := Tryd.sizeOf9
  v9 := Tryd.zeroValue9
  t37 := Tryd.underlying44
  a37 := Tryd.isAgg44
  z37 := Tryd.sizeOf44
  v37 := Tryd.zeroValue44
  t70 := Tryd.underlying60
  a70 := Tryd.isAgg60
  z70 := Tryd.sizeOf60
  v70 := Tryd.zeroValue60
  t72 := Tryd.underlying62
  a72 := Tryd.isAgg62
  z72 := Tryd.sizeOf62
  v72 := Tryd.zeroValue62
  t127 := Tryd.underlying70
  a127 := Tryd.isAgg70
  z127 := Tryd.sizeOf70
  v127 := Tryd.zeroValue70 }
theorem Tryd.Builder_Extra_169 : Builder.Extra Tryd.prog Tryd.lays169_ren := {
  sizeBuilder := by kernel_rfl
  liesBuilder := by kernel_rfl
  t5 := Tryd.underlying5
  a5 := Tryd.isAgg5
  z5 := Tryd.sizeOf5
  v5 := Tryd.zeroValue5
  infoByte := by kernel_rfl
  cellsByte := by kernel_rfl
  sizeByte := by kernel_rfl
  neB5 := by decide }
open Go.RowKit in
theorem Tryd.Builder_String (B b : Nat) (l : List UInt8) (w : World) (h : Lib.IsBuilder 62 5 B b (Lib.byteCells l) w) (h0 : l ≠ []) :
    Calls Tryd.prog 32 #[.pointer (some ⟨b, 0, none⟩)] w fun e w' => e = .returned (.string ⟨l.toArray⟩) ∧ Below B w w' := Any.Builder_String Tryd.lays169 Tryd.Builder_Extra_169 B b l w h h0
open Go.RowKit in
theorem Tryd.Builder_String_empty (B b : Nat) (w : World) (h : Lib.IsBuilder 62 5 B b [] w) (hBw : B ≤ w.heap.size) :
    Calls Tryd.prog 32 #[.pointer (some ⟨b, 0, none⟩)] w fun e w' => e = .returned (.string ⟨#[]⟩) ∧ Below B w w' := Any.Builder_String_empty Tryd.lays169 Tryd.Builder_Extra_169 B b w h hBw
open Go.RowKit in
theorem Tryd.Builder_String_any (B b : Nat) (l : List UInt8) (w : World) (h : Lib.IsBuilder 62 5 B b (Lib.byteCells l) w) (hBw : B ≤ w.heap.size) :
    Calls Tryd.prog 32 #[.pointer (some ⟨b, 0, none⟩)] w fun e w' => e = .returned (.string ⟨l.toArray⟩) ∧ Below B w w' := Any.Builder_String_any Tryd.lays169 Tryd.Builder_Extra_169 B b l w h hBw
open Go.RowKit in
theorem Tryd.Builder_String_f (B b : Nat) (l : List UInt8) (w : World) (h : Lib.IsBuilderF 62 5 B b (Lib.byteCells l) w) (h0 : l ≠ []) :
    Calls Tryd.prog 32 #[.pointer (some ⟨b, 0, none⟩)] w fun e w' => e = .returned (.string ⟨l.toArray⟩) ∧ (Lib.IsBuilderF 62 5 B b (Lib.byteCells l) w' ∧ Below B w w') := Any.Builder_String_f Tryd.lays169 Tryd.Builder_Extra_169 B b l w h h0
open Go.RowKit in
theorem Tryd.Builder_String_empty_f (B b : Nat) (w : World) (h : Lib.IsBuilderF 62 5 B b [] w) (hBw : B ≤ w.heap.size) :
    Calls Tryd.prog 32 #[.pointer (some ⟨b, 0, none⟩)] w fun e w' => e = .returned (.string ⟨#[]⟩) ∧ (Lib.IsBuilderF 62 5 B b [] w' ∧ Below B w w') := Any.Builder_String_empty_f Tryd.lays169 Tryd.Builder_Extra_169 B b w h hBw
open Go.RowKit in
theorem Tryd.Builder_String_any_f (B b : Nat) (l : List UInt8) (w : World) (h : Lib.IsBuilderF 62 5 B b (Lib.byteCells l) w) (hBw : B ≤ w.heap.size) :
    Calls Tryd.prog 32 #[.pointer (some ⟨b, 0, none⟩)] w fun e w' => e = .returned (.string ⟨l.toArray⟩) ∧ (Lib.IsBuilderF 62 5 B b (Lib.byteCells l) w' ∧ Below B w w') := Any.Builder_String_any_f Tryd.lays169 Tryd.Builder_Extra_169 B b l w h hBw
open Go.RowKit in
theorem Tryd.Builder_String_k (B b : Nat) (l : List UInt8) (w : World) (h : Lib.IsBuilderF 62 5 B b (Lib.byteCells l) w) (h0 : l ≠ []) :
    Calls Tryd.prog 32 #[.pointer (some ⟨b, 0, none⟩)] w fun e w' => e = .returned (.string ⟨l.toArray⟩) ∧ (Lib.IsBuilderF 62 5 B b (Lib.byteCells l) w' ∧ Below B w w' ∧ Lib.OthersKept 5 (some b) w w') := Any.Builder_String_k Tryd.lays169 Tryd.Builder_Extra_169 B b l w h h0
open Go.RowKit in
theorem Tryd.Builder_String_empty_k (B b : Nat) (w : World) (h : Lib.IsBuilderF 62 5 B b [] w) (hBw : B ≤ w.heap.size) :
    Calls Tryd.prog 32 #[.pointer (some ⟨b, 0, none⟩)] w fun e w' => e = .returned (.string ⟨#[]⟩) ∧ (Lib.IsBuilderF 62 5 B b [] w' ∧ Below B w w' ∧ Lib.OthersKept 5 (some b) w w') := Any.Builder_String_empty_k Tryd.lays169 Tryd.Builder_Extra_169 B b w h hBw
open Go.RowKit in
theorem Tryd.Builder_String_any_k (B b : Nat) (l : List UInt8) (w : World) (h : Lib.IsBuilderF 62 5 B b (Lib.byteCells l) w) (hBw : B ≤ w.heap.size) :
    Calls Tryd.prog 32 #[.pointer (some ⟨b, 0, none⟩)] w fun e w' => e = .returned (.string ⟨l.toArray⟩) ∧ (Lib.IsBuilderF 62 5 B b (Lib.byteCells l) w' ∧ Below B w w' ∧ Lib.OthersKept 5 (some b) w w') := Any.Builder_String_any_k Tryd.lays169 Tryd.Builder_Extra_169 B b l w h hBw
def Tryd.lays195_ren : Go.Shelf.Ren := ⟨fun | 195 => 41 | n => n, fun | 9 => 9 | 3 => 3 | 0 => 0 | 4 => 4 | n => n, fun | n => n⟩
theorem Tryd.lays195 : Go.Proofs.Lays.n195 Tryd.prog Tryd.lays195_ren := {
  mixed := by kernel_rfl
  f195 := Tryd.func41.trans (congrArg some (by kernel_rfl))
  t0 := Tryd.underlying0
  a0 := Tryd.isAgg0
  z0 := Tryd.sizeOf0
  v0 := Tryd.zeroValue0
  t3 := Tryd.underlying3
  a3 := Tryd.isAgg3
  z3 := Tryd.sizeOf3
  v3 := Tryd.zeroValue3
  t4 := Tryd.underlying4
  a4 := Tryd.isAgg4
  z4 := Tryd.sizeOf4
  v4 := Tryd.zeroValue4
  t9 := Tryd.underlying9
  a9 := Tryd.isAgg9
  z9 := Tryd.sizeOf9
  v9 := Tryd.zeroValue9 }
open Go.RowKit in
theorem Tryd.utf8_RuneCountInString (s : ByteArray) (w : World) (hs : s.size < 9223372036854775807) :
    Calls Tryd.prog 41 #[.string s] w fun e w' => e = .returned (.int .i64 (Lib.runeCount s)) ∧ ∃ pos, w' = w.iter s pos := Any.utf8_RuneCountInString Tryd.lays195 s w hs
def Tryd.lays217_ren : Go.Shelf.Ren := ⟨fun | 217 => 46 | 266 => 50 | n => n, fun | 9 => 9 | 5 => 5 | 3 => 3 | n => n, fun | n => n⟩
theorem Tryd.lays217 : Go.Proofs.Lays.n217 Tryd.prog Tryd.lays217_ren := {
  mixed := by kernel_rfl
  f217 := Tryd.func46.trans (congrArg some (by kernel_rfl))
  f266 := Tryd.func50.trans (congrArg some (by kernel_rfl))
  t3 := Tryd.underlying3
  a3 := Tryd.isAgg3
  z3 := Tryd.sizeOf3
  v3 := Tryd.zeroValue3
  t5 := Tryd.underlying5
  a5 := Tryd.isAgg5
  z5 := Tryd.sizeOf5
  v5 := Tryd.zeroValue5
  t9 := Tryd.underlying9
  a9 := Tryd.isAgg9
  z9 := Tryd.sizeOf9
  v9 := Tryd.zeroValue9 }
open Go.RowKit Go.Lib in
theorem Tryd.stringslite_IndexByte (s : ByteArray) (c : Int) (w : World) :
    Calls Tryd.prog 46 #[.string s, .int .u8 c] w fun e w' => e = .returned (.int .i64 (Lib.indexByte s.data.toList c.toNat.toUInt8)) ∧ w' = w := Any.stringslite_IndexByte Tryd.lays217 s c w
def Tryd.lays224_ren : Go.Shelf.Ren := ⟨fun | 224 => 48 | n => n, fun | 3 => 3 | n => n, fun | n => n⟩
theorem Tryd.lays224 : Go.Proofs.Lays.n224 Tryd.prog Tryd.lays224_ren := {
  mixed := by kernel_rfl
  f224 := Tryd.func48.trans (congrArg some (by kernel_rfl))
  t3 := Tryd.underlying3
  a3 := Tryd.isAgg3
  z3 := Tryd.sizeOf3
  v3 := Tryd.zeroValue3 }
open Go.RowKit Go.Lib in
theorem Tryd.bytealg_Cutover (n : Int) (h0 : 0 ≤ n) (h1 : n < 4611686018427387904) (w : World) :
    Calls Tryd.prog 48 #[.int .i64 n] w fun e w' => e = .returned (.int .i64 ((n + 16) / 8)) ∧ w' = w := Any.bytealg_Cutover Tryd.lays224 n h0 h1 w
def Tryd.lays314_ren : Go.Shelf.Ren := ⟨fun | 314 => 51 | n => n, fun | 9 => 9 | 51 => 58 | 3 => 3 | 4 => 4 | 5 => 5 | 46 => 41 | n => n, fun | n => n⟩
theorem Tryd.lays314 : Go.Proofs.Lays.n314 Tryd.prog Tryd.lays314_ren := {
  mixed := by kernel_rfl
  f314 := Tryd.func51.trans (congrArg some (by kernel_rfl))
  t3 := Tryd.underlying3
  a3 := Tryd.isAgg3
  z3 := Tryd.sizeOf3
  v3 := Tryd.zeroValue3
  t4 := Tryd.underlying4
  a4 := Tryd.isAgg4
  z4 := Tryd.sizeOf4
  v4 := Tryd.zeroValue4
  t5 := Tryd.underlying5
  a5 := Tryd.isAgg5
  z5 := Tryd.sizeOf5
  v5 := Tryd.zeroValue5
  t9 := Tryd.underlying9
  a9 := Tryd.isAgg9
  z9 := Tryd.sizeOf9
  v9 := Tryd.zeroValue9
  t46 := Tryd.underlying41
  a46 := Tryd.isAgg41
  z46 := Tryd.sizeOf41
  v46 := Tryd.zeroValue41
  t51 := Tryd.underlying58
  a51 := Tryd.isAgg58
  z51 := Tryd.sizeOf58
  v51 := Tryd.zeroValue58 }
open Go.RowKit Go.Lib in
theorem Tryd.bytealg_hashStr (sep : ByteArray) (hs : sep.size < 4294967281) (w : World) :
    Calls Tryd.prog 51 #[.string sep] w fun e w' => e = .returned (.tuple #[.int .u32 (RK.H sep.data.toList % 4294967296), .int .u32 (16777619 ^ sep.size % 4294967296)]) ∧ w' = w := Any.bytealg_hashStr Tryd.lays314 sep hs w
def Tryd.lays267_ren : Go.Shelf.Ren := ⟨fun | 267 => 49 | 314 => 51 | n => n, fun | 9 => 9 | 3 => 3 | 146 => 84 | 51 => 58 | 4 => 4 | 5 => 5 | 46 => 41 | n => n, fun | n => n⟩
theorem Tryd.lays267 : Go.Proofs.Lays.n267 Tryd.prog Tryd.lays267_ren := {
  mixed := by kernel_rfl
  f267 := Tryd.func49.trans (congrArg some (by kernel_rfl))
  f314 := Tryd.func51.trans (congrArg some (by kernel_rfl))
  t3 := Tryd.underlying3
  a3 := Tryd.isAgg3
  z3 := Tryd.sizeOf3
  v3 := Tryd.zeroValue3
  t4 := Tryd.underlying4
  a4 := Tryd.isAgg4
  z4 := Tryd.sizeOf4
  v4 := Tryd.zeroValue4
  t5 := Tryd.underlying5
  a5 := Tryd.isAgg5
  z5 := Tryd.sizeOf5
  v5 := Tryd.zeroValue5
  t9 := Tryd.underlying9
  a9 := Tryd.isAgg9
  z9 := Tryd.sizeOf9
  v9 := Tryd.zeroValue9
  t46 := Tryd.underlying41
  a46 := Tryd.isAgg41
  z46 := Tryd.sizeOf41
  v46 := Tryd.zeroValue41
  t51 := Tryd.underlying58
  a51 := Tryd.isAgg58
  z51 := Tryd.sizeOf58
  v51 := Tryd.zeroValue58
  t146 := Tryd.underlying84
  a146 := Tryd.isAgg84
  z146 := Tryd.sizeOf84
  v146 := Tryd.zeroValue84 }
open Go.RowKit Go.Lib in
theorem Tryd.bytealg_IndexRabinKarp (s sep : ByteArray) (h1 : 1 ≤ sep.size) (h2 : sep.size ≤ s.size) (hs : s.size < 4294967281) (w : World) :
    Calls Tryd.prog 49 #[.string s, .string sep] w fun e w' => e = .returned (.int .i64 (Lib.index s.data.toList sep.data.toList)) ∧ w' = w := Any.bytealg_IndexRabinKarp Tryd.lays267 s sep h1 h2 hs w
def Tryd.lays219_ren : Go.Shelf.Ren := ⟨fun | 219 => 44 | 217 => 46 | 225 => 47 | 224 => 48 | 267 => 49 | 266 => 50 | 314 => 51 | n => n, fun | 9 => 9 | 3 => 3 | 4 => 4 | 5 => 5 | 46 => 41 | 146 => 84 | 51 => 58 | n => n, fun | 1 => 1 | n => n⟩
theorem Tryd.lays219 : Go.Proofs.Lays.n219 Tryd.prog Tryd.lays219_ren := {
  mixed := by kernel_rfl
  f217 := Tryd.func46.trans (congrArg some (by kernel_rfl))
  f219 := Tryd.func44.trans (congrArg some (by kernel_rfl))
  f224 := Tryd.func48.trans (congrArg some (by kernel_rfl))
  f225 := Tryd.func47.trans (congrArg some (by kernel_rfl))
  f266 := Tryd.func50.trans (congrArg some (by kernel_rfl))
  f267 := Tryd.func49.trans (congrArg some (by kernel_rfl))
  f314 := Tryd.func51.trans (congrArg some (by kernel_rfl))
  t3 := Tryd.underlying3
  a3 := Tryd.isAgg3
  z3 := Tryd.sizeOf3
  v3 := Tryd.zeroValue3
  t4 := Tryd.underlying4
  a4 := Tryd.isAgg4
  z4 := Tryd.sizeOf4
  v4 := Tryd.zeroValue4
  t5 := Tryd.underlying5
  a5 := Tryd.isAgg5
  z5 := Tryd.sizeOf5
  v5 := Tryd.zeroValue5
  t9 := Tryd.underlying9
  a9 := Tryd.isAgg9
  z9 := Tryd.sizeOf9
  v9 := Tryd.zeroValue9
  t46 := Tryd.underlying41
  a46 := Tryd.isAgg41
  z46 := Tryd.sizeOf41
  v46 := Tryd.zeroValue41
  t51 := Tryd.underlying58
  a51 := Tryd.isAgg58
  z51 := Tryd.sizeOf58
  v51 := Tryd.zeroValue58
  t146 := Tryd.underlying84
  a146 := Tryd.isAgg84
  z146 := Tryd.sizeOf84
  v146 := Tryd.zeroValue84
  g1 := by kernel_rfl }
open Go.RowKit Go.Lib in
theorem Tryd.stringslite_Index_one (s : ByteArray) (c : UInt8) (w : World) :
    Calls Tryd.prog 44 #[.string s, .string ⟨#[c]⟩] w fun e w' => e = .returned (.int .i64 (Lib.indexByte s.data.toList c)) ∧ w' = w := Any.stringslite_Index_one Tryd.lays219 s c w
open Go.RowKit Go.Lib in
theorem Tryd.stringslite_Index (s sub : ByteArray) (m : Int) (w : World) (hs : s.size < 4294967281) (hm : w.cell? ⟨1, 0, none⟩ = some (.int .i64 m)) :
    Calls Tryd.prog 44 #[.string s, .string sub] w fun e w' => e = .returned (.int .i64 (Lib.index s.data.toList sub.data.toList)) ∧ w' = w := Any.stringslite_Index Tryd.lays219 s sub m w hs hm
def Tryd.lays143_ren : Go.Shelf.Ren := ⟨fun | 143 => 38 | 219 => 44 | 217 => 46 | 225 => 47 | 224 => 48 | 267 => 49 | 266 => 50 | 314 => 51 | n => n, fun | 9 => 9 | 3 => 3 | 4 => 4 | 5 => 5 | 46 => 41 | 146 => 84 | 51 => 58 | n => n, fun | 1 => 1 | n => n⟩
theorem Tryd.lays143 : Go.Proofs.Lays.n143 Tryd.prog Tryd.lays143_ren := {
  mixed := by kernel_rfl
  f143 := Tryd.func38.trans (congrArg some (by kernel_rfl))
  f217 := Tryd.func46.trans (congrArg some (by kernel_rfl))
  f219 := Tryd.func44.trans (congrArg some (by kernel_rfl))
  f224 := Tryd.func48.trans (congrArg some (by kernel_rfl))
  f225 := Tryd.func47.trans (congrArg some (by kernel_rfl))
  f266 := Tryd.func50.trans (congrArg some (by kernel_rfl))
  f267 := Tryd.func49.trans (congrArg some (by kernel_rfl))
  f314 := Tryd.func51.trans (congrArg some (by kernel_rfl))
  t3 := Tryd.underlying3
  a3 := Tryd.isAgg3
  z3 := Tryd.sizeOf3
  v3 := Tryd.zeroValue3
  t4 := Tryd.underlying4
  a4 := Tryd.isAgg4
  z4 := Tryd.sizeOf4
  v4 := Tryd.zeroValue4
  t5 := Tryd.underlying5
  a5 := Tryd.isAgg5
  z5 := Tryd.sizeOf5
  v5 := Tryd.zeroValue5
  t9 := Tryd.underlying9
  a9 := Tryd.isAgg9
  z9 := Tryd.sizeOf9
  v9 := Tryd.zeroValue9
  t46 := Tryd.underlying41
  a46 := Tryd.isAgg41
  z46 := Tryd.sizeOf41
  v46 := Tryd.zeroValue41
  t51 := Tryd.underlying58
  a51 := Tryd.isAgg58
  z51 := Tryd.sizeOf58
  v51 := Tryd.zeroValue58
  t146 := Tryd.underlying84
  a146 := Tryd.isAgg84
  z146 := Tryd.sizeOf84
  v146 := Tryd.zeroValue84
  g1 := by kernel_rfl }
open Go.RowKit Go.Lib in
theorem Tryd.strings_Index_one (s : ByteArray) (c : UInt8) (w : World) :
    Calls Tryd.prog 38 #[.string s, .string ⟨#[c]⟩] w fun e w' => e = .returned (.int .i64 (Lib.indexByte s.data.toList c)) ∧ w' = w := Any.strings_Index_one Tryd.lays143 s c w
open Go.RowKit Go.Lib in
theorem Tryd.strings_Index (s sub : ByteArray) (m : Int) (w : World) (hs : s.size < 4294967281) (hm : w.cell? ⟨1, 0, none⟩ = some (.int .i64 m)) :
    Calls Tryd.prog 38 #[.string s, .string sub] w fun e w' => e = .returned (.int .i64 (Lib.index s.data.toList sub.data.toList)) ∧ w' = w := Any.strings_Index Tryd.lays143 s sub m w hs hm
def Tryd.lays138_ren : Go.Shelf.Ren := ⟨fun | 138 => 37 | 195 => 41 | 218 => 43 | 143 => 38 | 219 => 44 | 217 => 46 | 225 => 47 | 224 => 48 | 267 => 49 | 266 => 50 | 314 => 51 | n => n, fun | 9 => 9 | 3 => 3 | 4 => 4 | 5 => 5 | 0 => 0 | 46 => 41 | 146 => 84 | 51 => 58 | n => n, fun | 1 => 1 | n => n⟩
theorem Tryd.lays138 : Go.Proofs.Lays.n138 Tryd.prog Tryd.lays138_ren := {
  mixed := by kernel_rfl
  f138 := Tryd.func37.trans (congrArg some (by kernel_rfl))
  f143 := Tryd.func38.trans (congrArg some (by kernel_rfl))
  f195 := Tryd.func41.trans (congrArg some (by kernel_rfl))
  f217 := Tryd.func46.trans (congrArg some (by kernel_rfl))
  f218 := Tryd.func43.trans (congrArg some (by kernel_rfl))
  f219 := Tryd.func44.trans (congrArg some (by kernel_rfl))
  f224 := Tryd.func48.trans (congrArg some (by kernel_rfl))
  f225 := Tryd.func47.trans (congrArg some (by kernel_rfl))
  f266 := Tryd.func50.trans (congrArg some (by kernel_rfl))
  f267 := Tryd.func49.trans (congrArg some (by kernel_rfl))
  f314 := Tryd.func51.trans (congrArg some (by kernel_rfl))
  t0 := Tryd.underlying0
  a0 := Tryd.isAgg0
  z0 := Tryd.sizeOf0
  v0 := Tryd.zeroValue0
  t3 := Tryd.underlying3
  a3 := Tryd.isAgg3
  z3 := Tryd.sizeOf3
  v3 := Tryd.zeroValue3
  t4 := Tryd.underlying4
  a4 := Tryd.isAgg4
  z4 := Tryd.sizeOf4
  v4 := Tryd.zeroValue4
  t5 := Tryd.underlying5
  a5 := Tryd.isAgg5
  z5 := Tryd.sizeOf5
  v5 := Tryd.zeroValue5
  t9 := Tryd.underlying9
  a9 := Tryd.isAgg9
  z9 := Tryd.sizeOf9
  v9 := Tryd.zeroValue9
  t46 := Tryd.underlying41
  a46 := Tryd.isAgg41
  z46 := Tryd.sizeOf41
  v46 := Tryd.zeroValue41
  t51 := Tryd.underlying58
  a51 := Tryd.isAgg58
  z51 := Tryd.sizeOf58
  v51 := Tryd.zeroValue58
  t146 := Tryd.underlying84
  a146 := Tryd.isAgg84
  z146 := Tryd.sizeOf84
  v146 := Tryd.zeroValue84
  g1 := by kernel_rfl }
open Go.RowKit Go.Lib in
theorem Tryd.strings_Count_one (s : ByteArray) (c : UInt8) (w : World) :
    Calls Tryd.prog 37 #[.string s, .string ⟨#[c]⟩] w fun e w' => e = .returned (.int .i64 (Lib.countByte s.data.toList c)) ∧ w' = w := Any.strings_Count_one Tryd.lays138 s c w
open Go.RowKit Go.Lib in
theorem Tryd.strings_Count (s sub : ByteArray) (m : Int) (w : World) (hs : s.size < 4294967281) (hm : w.cell? ⟨1, 0, none⟩ = some (.int .i64 m)) (h2 : 2 ≤ sub.size) :
    Calls Tryd.prog 37 #[.string s, .string sub] w fun e w' => e = .returned (.int .i64 (Lib.countB s sub)) ∧ w' = w := Any.strings_Count Tryd.lays138 s sub m w hs hm h2
def Tryd.laysM219_ren : Go.Shelf.Ren := ⟨fun | 219 => 44 | 217 => 46 | 225 => 47 | 224 => 48 | 267 => 49 | 266 => 50 | 314 => 51 | n => n, fun | 9 => 9 | 3 => 3 | 4 => 4 | 5 => 5 | 46 => 41 | 146 => 84 | 51 => 58 | n => n, fun | 1 => 1 | n => n⟩
theorem Tryd.laysM219 : Go.Proofs.LaysM.n219 Tryd.prog Tryd.laysM219_ren := {
  mixed := by kernel_rfl
  f217 := Tryd.func46.trans (congrArg some (by kernel_rfl))
  f219 := Tryd.func44.trans (congrArg some (by kernel_rfl))
  f224 := Tryd.func48.trans (congrArg some (by kernel_rfl))
  f225 := Tryd.func47.trans (congrArg some (by kernel_rfl))
  f266 := Tryd.func50.trans (congrArg some (by kernel_rfl))
  f267 := Tryd.func49.trans (congrArg some (by kernel_rfl))
  f314 := Tryd.func51.trans (congrArg some (by kernel_rfl))
  t3 := Tryd.underlying3
  a3 := Tryd.isAgg3
  z3 := Tryd.sizeOf3
  v3 := Tryd.zeroValue3
  t4 := Tryd.underlying4
  a4 := Tryd.isAgg4
  z4 := Tryd.sizeOf4
  v4 := Tryd.zeroValue4
  t5 := Tryd.underlying5
  a5 := Tryd.isAgg5
  z5 := Tryd.sizeOf5
  v5 := Tryd.zeroValue5
  t9 := Tryd.underlying9
  a9 := Tryd.isAgg9
  z9 := Tryd.sizeOf9
  v9 := Tryd.zeroValue9
  t46 := Tryd.underlying41
  a46 := Tryd.isAgg41
  z46 := Tryd.sizeOf41
  v46 := Tryd.zeroValue41
  t51 := Tryd.underlying58
  a51 := Tryd.isAgg58
  z51 := Tryd.sizeOf58
  v51 := Tryd.zeroValue58
  t146 := Tryd.underlying84
  a146 := Tryd.isAgg84
  z146 := Tryd.sizeOf84
  v146 := Tryd.zeroValue84
  g1 := by kernel_rfl
  i3 := by kernel_rfl
  i4 := by kernel_rfl
  i5 := by kernel_rfl
  i9 := by kernel_rfl
  i46 := by kernel_rfl
  i51 := by kernel_rfl
  i146 := by kernel_rfl
  m1 := by kernel_rfl
  s1_3 := fun w h => Go.Proofs.cell_of_shapedOpen_int (zero := #[.int .i64 0]) (t := 3) h (of_decide_eq_true (by kernel_rfl)) (by kernel_rfl) rfl (by kernel_rfl) (by kernel_rfl) Tryd.underlying3 }
open Go.RowKit Go.Lib in
theorem Tryd.stringslite_Index_shaped (s sub : ByteArray) (w : World) (h : w.ShapedOpen Tryd.prog) (hs : s.size < 4294967281) :
    Calls Tryd.prog 44 #[.string s, .string sub] w fun e w' => e = .returned (.int .i64 (Lib.index s.data.toList sub.data.toList)) ∧ w' = w := Any.stringslite_Index_shaped Tryd.laysM219 s sub w h hs
def Tryd.laysM143_ren : Go.Shelf.Ren := ⟨fun | 143 => 38 | 219 => 44 | 217 => 46 | 225 => 47 | 224 => 48 | 267 => 49 | 266 => 50 | 314 => 51 | n => n, fun | 9 => 9 | 3 => 3 | 4 => 4 | 5 => 5 | 46 => 41 | 146 => 84 | 51 => 58 | n => n, fun | 1 => 1 | n => n⟩
theorem Tryd.laysM143 : Go.Proofs.LaysM.n143 Tryd.prog Tryd.laysM143_ren := {
  mixed := by kernel_rfl
  f143 := Tryd.func38.trans (congrArg some (by kernel_rfl))
  f217 := Tryd.func46.trans (congrArg some (by kernel_rfl))
  f219 := Tryd.func44.trans (congrArg some (by kernel_rfl))
  f224 := Tryd.func48.trans (congrArg some (by kernel_rfl))
  f225 := Tryd.func47.trans (congrArg some (by kernel_rfl))
  f266 := Tryd.func50.trans (congrArg some (by kernel_rfl))
  f267 := Tryd.func49.trans (congrArg some (by kernel_rfl))
  f314 := Tryd.func51.trans (congrArg some (by kernel_rfl))
  t3 := Tryd.underlying3
  a3 := Tryd.isAgg3
  z3 := Tryd.sizeOf3
  v3 := Tryd.zeroValue3
  t4 := Tryd.underlying4
  a4 := Tryd.isAgg4
  z4 := Tryd.sizeOf4
  v4 := Tryd.zeroValue4
  t5 := Tryd.underlying5
  a5 := Tryd.isAgg5
  z5 := Tryd.sizeOf5
  v5 := Tryd.zeroValue5
  t9 := Tryd.underlying9
  a9 := Tryd.isAgg9
  z9 := Tryd.sizeOf9
  v9 := Tryd.zeroValue9
  t46 := Tryd.underlying41
  a46 := Tryd.isAgg41
  z46 := Tryd.sizeOf41
  v46 := Tryd.zeroValue41
  t51 := Tryd.underlying58
  a51 := Tryd.isAgg58
  z51 := Tryd.sizeOf58
  v51 := Tryd.zeroValue58
  t146 := Tryd.underlying84
  a146 := Tryd.isAgg84
  z146 := Tryd.sizeOf84
  v146 := Tryd.zeroValue84
  g1 := by kernel_rfl
  i3 := by kernel_rfl
  i4 := by kernel_rfl
  i5 := by kernel_rfl
  i9 := by kernel_rfl
  i46 := by kernel_rfl
  i51 := by kernel_rfl
  i146 := by kernel_rfl
  m1 := by kernel_rfl
  s1_3 := fun w h => Go.Proofs.cell_of_shapedOpen_int (zero := #[.int .i64 0]) (t := 3) h (of_decide_eq_true (by kernel_rfl)) (by kernel_rfl) rfl (by kernel_rfl) (by kernel_rfl) Tryd.underlying3 }
open Go.RowKit Go.Lib in
theorem Tryd.strings_Index_shaped (s sub : ByteArray) (w : World) (h : w.ShapedOpen Tryd.prog) (hs : s.size < 4294967281) :
    Calls Tryd.prog 38 #[.string s, .string sub] w fun e w' => e = .returned (.int .i64 (Lib.index s.data.toList sub.data.toList)) ∧ w' = w := Any.strings_Index_shaped Tryd.laysM143 s sub w h hs
def Tryd.laysM138_ren : Go.Shelf.Ren := ⟨fun | 138 => 37 | 195 => 41 | 218 => 43 | 143 => 38 | 219 => 44 | 217 => 46 | 225 => 47 | 224 => 48 | 267 => 49 | 266 => 50 | 314 => 51 | n => n, fun | 9 => 9 | 3 => 3 | 4 => 4 | 5 => 5 | 0 => 0 | 46 => 41 | 146 => 84 | 51 => 58 | n => n, fun | 1 => 1 | n => n⟩
theorem Tryd.laysM138 : Go.Proofs.LaysM.n138 Tryd.prog Tryd.laysM138_ren := {
  mixed := by kernel_rfl
  f138 := Tryd.func37.trans (congrArg some (by kernel_rfl))
  f143 := Tryd.func38.trans (congrArg some (by kernel_rfl))
  f195 := Tryd.func41.trans (congrArg some (by kernel_rfl))
  f217 := Tryd.func46.trans (congrArg some (by kernel_rfl))
  f218 := Tryd.func43.trans (congrArg some (by kernel_rfl))
  f219 := Tryd.func44.trans (congrArg some (by kernel_rfl))
  f224 := Tryd.func48.trans (congrArg some (by kernel_rfl))
  f225 := Tryd.func47.trans (congrArg some (by kernel_rfl))
  f266 := Tryd.func50.trans (congrArg some (by kernel_rfl))
  f267 := Tryd.func49.trans (congrArg some (by kernel_rfl))
  f314 := Tryd.func51.trans (congrArg some (by kernel_rfl))
  t0 := Tryd.underlying0
  a0 := Tryd.isAgg0
  z0 := Tryd.sizeOf0
  v0 := Tryd.zeroValue0
  t3 := Tryd.underlying3
  a3 := Tryd.isAgg3
  z3 := Tryd.sizeOf3
  v3 := Tryd.zeroValue3
  t4 := Tryd.underlying4
  a4 := Tryd.isAgg4
  z4 := Tryd.sizeOf4
  v4 := Tryd.zeroValue4
  t5 := Tryd.underlying5
  a5 := Tryd.isAgg5
  z5 := Tryd.sizeOf5
  v5 := Tryd.zeroValue5
  t9 := Tryd.underlying9
  a9 := Tryd.isAgg9
  z9 := Tryd.sizeOf9
  v9 := Tryd.zeroValue9
  t46 := Tryd.underlying41
  a46 := Tryd.isAgg41
  z46 := Tryd.sizeOf41
  v46 := Tryd.zeroValue41
  t51 := Tryd.underlying58
  a51 := Tryd.isAgg58
  z51 := Tryd.sizeOf58
  v51 := Tryd.zeroValue58
  t146 := Tryd.underlying84
  a146 := Tryd.isAgg84
  z146 := Tryd.sizeOf84
  v146 := Tryd.zeroValue84
  g1 := by kernel_rfl
  i0 := by kernel_rfl
  i3 := by kernel_rfl
  i4 := by kernel_rfl
  i5 := by kernel_rfl
  i9 := by kernel_rfl
  i46 := by kernel_rfl
  i51 := by kernel_rfl
  i146 := by kernel_rfl
  m1 := by kernel_rfl
  s1_3 := fun w h => Go.Proofs.cell_of_shapedOpen_int (zero := #[.int .i64 0]) (t := 3) h (of_decide_eq_true (by kernel_rfl)) (by kernel_rfl) rfl (by kernel_rfl) (by kernel_rfl) Tryd.underlying3 }
open Go.RowKit Go.Lib in
theorem Tryd.strings_Count_shaped (s sub : ByteArray) (w : World) (h : w.ShapedOpen Tryd.prog) (hs : s.size < 4294967281) (h2 : 2 ≤ sub.size) :
    Calls Tryd.prog 37 #[.string s, .string sub] w fun e w' => e = .returned (.int .i64 (Lib.countB s sub)) ∧ w' = w := Any.strings_Count_shaped Tryd.laysM138 s sub w h hs h2
open Go.RowKit Go.Lib in
theorem Tryd.strings_Count_any (s sep : ByteArray) (m : Int) (w : World) (hs : s.size < 4294967281) (hm : w.cell? ⟨1, 0, none⟩ = some (.int .i64 m)) (h1 : 1 ≤ sep.size) :
    Calls Tryd.prog 37 #[.string s, .string sep] w fun e w' => e = .returned (.int .i64 (Lib.countB s sep)) ∧ w' = w := Any.strings_Count_any Tryd.lays138 s sep m w hs hm h1
def Tryd.lays221_ren : Go.Shelf.Ren := ⟨fun | 221 => 33 | 268 => 36 | 138 => 37 | 143 => 38 | 195 => 41 | 197 => 42 | 218 => 43 | 219 => 44 | 260 => 45 | 217 => 46 | 225 => 47 | 224 => 48 | 267 => 49 | 266 => 50 | 314 => 51 | n => n, fun | 9 => 9 | 3 => 3 | 31 => 33 | 4 => 4 | 0 => 0 | 105 => 76 | 21 => 21 | 5 => 5 | 46 => 41 | 119 => 80 | 139 => 83 | 138 => 82 | 146 => 84 | 51 => 58 | n => n, fun | 1 => 1 | 3 => 2 | 4 => 3 | n => n⟩
theorem Tryd.lays221 : Go.Proofs.Lays.n221 Tryd.prog Tryd.lays221_ren := {
  mixed := by kernel_rfl
  f138 := Tryd.func37.trans (congrArg some (by kernel_rfl))
  f143 := Tryd.func38.trans (congrArg some (by kernel_rfl))
  f195 := Tryd.func41.trans (congrArg some (by kernel_rfl))
  f197 := Tryd.func42.trans (congrArg some (by kernel_rfl))
  f217 := Tryd.func46.trans (congrArg some (by kernel_rfl))
  f218 := Tryd.func43.trans (congrArg some (by kernel_rfl))
  f219 := Tryd.func44.trans (congrArg some (by kernel_rfl))
  f221 := Tryd.func33.trans (congrArg some (by kernel_rfl))
  f224 := Tryd.func48.trans (congrArg some (by kernel_rfl))
  f225 := Tryd.func47.trans (congrArg some (by kernel_rfl))
  f260 := Tryd.func45.trans (congrArg some (by kernel_rfl))
  f266 := Tryd.func50.trans (congrArg some (by kernel_rfl))
  f267 := Tryd.func49.trans (congrArg some (by kernel_rfl))
  f268 := Tryd.func36.trans (congrArg some (by kernel_rfl))
  f314 := Tryd.func51.trans (congrArg some (by kernel_rfl))
  t0 := Tryd.underlying0
  a0 := Tryd.isAgg0
  z0 := Tryd.sizeOf0
  v0 := Tryd.zeroValue0
  t3 := Tryd.underlying3
  a3 := Tryd.isAgg3
  z3 := Tryd.sizeOf3
  v3 := Tryd.zeroValue3
  t4 := Tryd.underlying4
  a4 := Tryd.isAgg4
  z4 := Tryd.sizeOf4
  v4 := Tryd.zeroValue4
  t5 := Tryd.underlying5
  a5 := Tryd.isAgg5
  z5 := Tryd.sizeOf5
  v5 := Tryd.zeroValue5
  t9 := Tryd.underlying9
  a9 := Tryd.isAgg9
  z9 := Tryd.sizeOf9
  v9 := Tryd.zeroValue9
  t21 := Tryd.underlying21
  a21 := Tryd.isAgg21
  z21 := Tryd.sizeOf21
  v21 := Tryd.zeroValue21
  t31 := Tryd.underlying33
  a31 := Tryd.isAgg33
  z31 := Tryd.sizeOf33
  v31 := Tryd.zeroValue33
  t46 := Tryd.underlying41
  a46 := Tryd.isAgg41
  z46 := Tryd.sizeOf41
  v46 := Tryd.zeroValue41
  t51 := Tryd.underlying58
  a51 := Tryd.isAgg58
  z51 := Tryd.sizeOf58
  v51 := Tryd.zeroValue58
  t105 := Tryd.underlying76
  a105 := Tryd.isAgg76
  z105 := Tryd.sizeOf76
  v105 := Tryd.zeroValue76
  t119 := Tryd.underlying80
  a119 := Tryd.isAgg80
  z119 := Tryd.sizeOf80
  t138 := Tryd.underlying82
  a138 := Tryd.isAgg82
  z138 := Tryd.sizeOf82
  v138 := Tryd.zeroValue82
  t139 := Tryd.underlying83
  a139 := Tryd.isAgg83
  z139 := Tryd.sizeOf83
  v139 := Tryd.zeroValue83
  t146 := Tryd.underlying84
  a146 := Tryd.isAgg84
  z146 := Tryd.sizeOf84
  v146 := Tryd.zeroValue84
  g1 := by kernel_rfl
  g3 := by kernel_rfl
  g4 := by kernel_rfl }
open Go.RowKit Go.Lib in
theorem Tryd.strings_genSplit (s sep : ByteArray) (sv : Nat) (n : Int) (N : Nat) (m : Int) (w : World) (hs : s.size < 4294967281) (hm : w.cell? ⟨1, 0, none⟩ = some (.int .i64 m)) (h1 : 1 ≤ sep.size) (hsv : sv ≤ sep.size) (hn0 : n ≠ 0) (hn63 : n ≤ 9223372036854775807) (hN : (N : Int) = min (if n < 0 then (Lib.countB s sep : Int) + 1 else n) ((s.size : Int) + 1)) :
    Calls Tryd.prog 33 #[.string s, .string sep, .int .i64 sv, .int .i64 n] w fun e w' =>
      e = .returned (.slice (some ⟨w.heap.size, 0, none⟩) (Lib.splitB sep sv (N - 1) s).length N) ∧ w' = w.alloc (.cells (Lib.cellsOf (Lib.splitB sep sv (N - 1) s) N) 9) := Any.strings_genSplit Tryd.lays221 (by kernel_rfl) s sep sv n N m w hs hm h1 hsv hn0 hn63 hN
def Tryd.lays146_ren : Go.Shelf.Ren := ⟨fun | 146 => 22 | 221 => 33 | 268 => 36 | 138 => 37 | 143 => 38 | 195 => 41 | 197 => 42 | 218 => 43 | 219 => 44 | 260 => 45 | 217 => 46 | 225 => 47 | 224 => 48 | 267 => 49 | 266 => 50 | 314 => 51 | n => n, fun | 9 => 9 | 31 => 33 | 3 => 3 | 4 => 4 | 0 => 0 | 105 => 76 | 21 => 21 | 5 => 5 | 46 => 41 | 119 => 80 | 139 => 83 | 138 => 82 | 146 => 84 | 51 => 58 | n => n, fun | 1 => 1 | 3 => 2 | 4 => 3 | n => n⟩
theorem Tryd.lays146 : Go.Proofs.Lays.n146 Tryd.prog Tryd.lays146_ren := {
  mixed := by kernel_rfl
  f138 := Tryd.func37.trans (congrArg some (by kernel_rfl))
  f143 := Tryd.func38.trans (congrArg some (by kernel_rfl))
  f146 := Tryd.func22.trans (congrArg some (by kernel_rfl))
  f195 := Tryd.func41.trans (congrArg some (by kernel_rfl))
  f197 := Tryd.func42.trans (congrArg some (by kernel_rfl))
  f217 := Tryd.func46.trans (congrArg some (by kernel_rfl))
  f218 := Tryd.func43.trans (congrArg some (by kernel_rfl))
  f219 := Tryd.func44.trans (congrArg some (by kernel_rfl))
  f221 := Tryd.func33.trans (congrArg some (by kernel_rfl))
  f224 := Tryd.func48.trans (congrArg some (by kernel_rfl))
  f225 := Tryd.func47.trans (congrArg some (by kernel_rfl))
  f260 := Tryd.func45.trans (congrArg some (by kernel_rfl))
  f266 := Tryd.func50.trans (congrArg some (by kernel_rfl))
  f267 := Tryd.func49.trans (congrArg some (by kernel_rfl))
  f268 := Tryd.func36.trans (congrArg some (by kernel_rfl))
  f314 := Tryd.func51.trans (congrArg some (by kernel_rfl))
  t0 := Tryd.underlying0
  a0 := Tryd.isAgg0
  z0 := Tryd.sizeOf0
  v0 := Tryd.zeroValue0
  t3 := Tryd.underlying3
  a3 := Tryd.isAgg3
  z3 := Tryd.sizeOf3
  v3 := Tryd.zeroValue3
  t4 := Tryd.underlying4
  a4 := Tryd.isAgg4
  z4 := Tryd.sizeOf4
  v4 := Tryd.zeroValue4
  t5 := Tryd.underlying5
  a5 := Tryd.isAgg5
  z5 := Tryd.sizeOf5
  v5 := Tryd.zeroValue5
  t9 := Tryd.underlying9
  a9 := Tryd.isAgg9
  z9 := Tryd.sizeOf9
  v9 := Tryd.zeroValue9
  t21 := Tryd.underlying21
  a21 := Tryd.isAgg21
  z21 := Tryd.sizeOf21
  v21 := Tryd.zeroValue21
  t31 := Tryd.underlying33
  a31 := Tryd.isAgg33
  z31 := Tryd.sizeOf33
  v31 := Tryd.zeroValue33
  t46 := Tryd.underlying41
  a46 := Tryd.isAgg41
  z46 := Tryd.sizeOf41
  v46 := Tryd.zeroValue41
  t51 := Tryd.underlying58
  a51 := Tryd.isAgg58
  z51 := Tryd.sizeOf58
  v51 := Tryd.zeroValue58
  t105 := Tryd.underlying76
  a105 := Tryd.isAgg76
  z105 := Tryd.sizeOf76
  v105 := Tryd.zeroValue76
  t119 := Tryd.underlying80
  a119 := Tryd.isAgg80
  z119 := Tryd.sizeOf80
  t138 := Tryd.underlying82
  a138 := Tryd.isAgg82
  z138 := Tryd.sizeOf82
  v138 := Tryd.zeroValue82
  t139 := Tryd.underlying83
  a139 := Tryd.isAgg83
  z139 := Tryd.sizeOf83
  v139 := Tryd.zeroValue83
  t146 := Tryd.underlying84
  a146 := Tryd.isAgg84
  z146 := Tryd.sizeOf84
  v146 := Tryd.zeroValue84
  g1 := by kernel_rfl
  g3 := by kernel_rfl
  g4 := by kernel_rfl }
open Go.RowKit Go.Lib in
theorem Tryd.strings_Split (s sep : ByteArray) (m : Int) (w : World) (hs : s.size < 4294967281) (hm : w.cell? ⟨1, 0, none⟩ = some (.int .i64 m)) (h1 : 1 ≤ sep.size) :
    Calls Tryd.prog 22 #[.string s, .string sep] w fun e w' =>
      e = .returned (.slice (some ⟨w.heap.size, 0, none⟩) (Lib.countB s sep + 1) (Lib.countB s sep + 1)) ∧ w' = w.alloc (.cells ((Lib.splitB sep 0 (Lib.countB s sep) s).map Value.string).toArray 9) := Any.strings_Split Tryd.lays146 (by kernel_rfl) s sep m w hs hm h1
def Tryd.laysM146_ren : Go.Shelf.Ren := ⟨fun | 146 => 22 | 221 => 33 | 268 => 36 | 138 => 37 | 143 => 38 | 195 => 41 | 197 => 42 | 218 => 43 | 219 => 44 | 260 => 45 | 217 => 46 | 225 => 47 | 224 => 48 | 267 => 49 | 266 => 50 | 314 => 51 | n => n, fun | 9 => 9 | 31 => 33 | 3 => 3 | 4 => 4 | 0 => 0 | 105 => 76 | 21 => 21 | 5 => 5 | 46 => 41 | 119 => 80 | 139 => 83 | 138 => 82 | 146 => 84 | 51 => 58 | n => n, fun | 1 => 1 | 3 => 2 | 4 => 3 | n => n⟩
theorem Tryd.laysM146 : Go.Proofs.LaysM.n146 Tryd.prog Tryd.laysM146_ren := {
  mixed := by kernel_rfl
  f138 := Tryd.func37.trans (congrArg some (by kernel_rfl))
  f143 := Tryd.func38.trans (congrArg some (by kernel_rfl))
  f146 := Tryd.func22.trans (congrArg some (by kernel_rfl))
  f195 := Tryd.func41.trans (congrArg some (by kernel_rfl))
  f197 := Tryd.func42.trans (congrArg some (by kernel_rfl))
  f217 := Tryd.func46.trans (congrArg some (by kernel_rfl))
  f218 := Tryd.func43.trans (congrArg some (by kernel_rfl))
  f219 := Tryd.func44.trans (congrArg some (by kernel_rfl))
  f221 := Tryd.func33.trans (congrArg some (by kernel_rfl))
  f224 := Tryd.func48.trans (congrArg some (by kernel_rfl))
  f225 := Tryd.func47.trans (congrArg some (by kernel_rfl))
  f260 := Tryd.func45.trans (congrArg some (by kernel_rfl))
  f266 := Tryd.func50.trans (congrArg some (by kernel_rfl))
  f267 := Tryd.func49.trans (congrArg some (by kernel_rfl))
  f268 := Tryd.func36.trans (congrArg some (by kernel_rfl))
  f314 := Tryd.func51.trans (congrArg some (by kernel_rfl))
  t0 := Tryd.underlying0
  a0 := Tryd.isAgg0
  z0 := Tryd.sizeOf0
  v0 := Tryd.zeroValue0
  t3 := Tryd.underlying3
  a3 := Tryd.isAgg3
  z3 := Tryd.sizeOf3
  v3 := Tryd.zeroValue3
  t4 := Tryd.underlying4
  a4 := Tryd.isAgg4
  z4 := Tryd.sizeOf4
  v4 := Tryd.zeroValue4
  t5 := Tryd.underlying5
  a5 := Tryd.isAgg5
  z5 := Tryd.sizeOf5
  v5 := Tryd.zeroValue5
  t9 := Tryd.underlying9
  a9 := Tryd.isAgg9
  z9 := Tryd.sizeOf9
  v9 := Tryd.zeroValue9
  t21 := Tryd.underlying21
  a21 := Tryd.isAgg21
  z21 := Tryd.sizeOf21
  v21 := Tryd.zeroValue21
  t31 := Tryd.underlying33
  a31 := Tryd.isAgg33
  z31 := Tryd.sizeOf33
  v31 := Tryd.zeroValue33
  t46 := Tryd.underlying41
  a46 := Tryd.isAgg41
  z46 := Tryd.sizeOf41
  v46 := Tryd.zeroValue41
  t51 := Tryd.underlying58
  a51 := Tryd.isAgg58
  z51 := Tryd.sizeOf58
  v51 := Tryd.zeroValue58
  t105 := Tryd.underlying76
  a105 := Tryd.isAgg76
  z105 := Tryd.sizeOf76
  v105 := Tryd.zeroValue76
  t119 := Tryd.underlying80
  a119 := Tryd.isAgg80
  z119 := Tryd.sizeOf80
  t138 := Tryd.underlying82
  a138 := Tryd.isAgg82
  z138 := Tryd.sizeOf82
  v138 := Tryd.zeroValue82
  t139 := Tryd.underlying83
  a139 := Tryd.isAgg83
  z139 := Tryd.sizeOf83
  v139 := Tryd.zeroValue83
  t146 := Tryd.underlying84
  a146 := Tryd.isAgg84
  z146 := Tryd.sizeOf84
  v146 := Tryd.zeroValue84
  g1 := by kernel_rfl
  g3 := by kernel_rfl
  g4 := by kernel_rfl
  i0 := by kernel_rfl
  i3 := by kernel_rfl
  i4 := by kernel_rfl
  i5 := by kernel_rfl
  i9 := by kernel_rfl
  i21 := by kernel_rfl
  i31 := by kernel_rfl
  i46 := by kernel_rfl
  i51 := by kernel_rfl
  i105 := by kernel_rfl
  i138 := by kernel_rfl
  i139 := by kernel_rfl
  i146 := by kernel_rfl
  m1 := by kernel_rfl
  s1_3 := fun w h => Go.Proofs.cell_of_shapedOpen_int (zero := #[.int .i64 0]) (t := 3) h (of_decide_eq_true (by kernel_rfl)) (by kernel_rfl) rfl (by kernel_rfl) (by kernel_rfl) Tryd.underlying3
  m3 := by kernel_rfl
  m4 := by kernel_rfl }
open Go.RowKit Go.Lib in
theorem Tryd.strings_Split_shaped (s sep : ByteArray) (w : World) (h : w.ShapedOpen Tryd.prog) (hs : s.size < 4294967281) (h1 : 1 ≤ sep.size) :
    Calls Tryd.prog 22 #[.string s, .string sep] w fun e w' =>
      e = .returned (.slice (some ⟨w.heap.size, 0, none⟩) (Lib.countB s sep + 1) (Lib.countB s sep + 1)) ∧ w' = w.alloc (.cells ((Lib.splitB sep 0 (Lib.countB s sep) s).map Value.string).toArray 9) := Any.strings_Split_shaped Tryd.laysM146 s sep w h hs h1
def Tryd.lays197_ren : Go.Shelf.Ren := ⟨fun | 197 => 42 | 260 => 45 | n => n, fun | 9 => 9 | 21 => 21 | 3 => 3 | 4 => 4 | 5 => 5 | 105 => 76 | 119 => 80 | 0 => 0 | 46 => 41 | 139 => 83 | 138 => 82 | n => n, fun | 3 => 2 | 4 => 3 | n => n⟩
theorem Tryd.lays197 : Go.Proofs.Lays.n197 Tryd.prog Tryd.lays197_ren := {
  mixed := by kernel_rfl
  f197 := Tryd.func42.trans (congrArg some (by kernel_rfl))
  f260 := Tryd.func45.trans (congrArg some (by kernel_rfl))
  t0 := Tryd.underlying0
  a0 := Tryd.isAgg0
  z0 := Tryd.sizeOf0
  v0 := Tryd.zeroValue0
  t3 := Tryd.underlying3
  a3 := Tryd.isAgg3
  z3 := Tryd.sizeOf3
  v3 := Tryd.zeroValue3
  t4 := Tryd.underlying4
  a4 := Tryd.isAgg4
  z4 := Tryd.sizeOf4
  v4 := Tryd.zeroValue4
  t5 := Tryd.underlying5
  a5 := Tryd.isAgg5
  z5 := Tryd.sizeOf5
  v5 := Tryd.zeroValue5
  t9 := Tryd.underlying9
  a9 := Tryd.isAgg9
  z9 := Tryd.sizeOf9
  v9 := Tryd.zeroValue9
  t21 := Tryd.underlying21
  a21 := Tryd.isAgg21
  z21 := Tryd.sizeOf21
  v21 := Tryd.zeroValue21
  t46 := Tryd.underlying41
  a46 := Tryd.isAgg41
  z46 := Tryd.sizeOf41
  v46 := Tryd.zeroValue41
  t105 := Tryd.underlying76
  a105 := Tryd.isAgg76
  z105 := Tryd.sizeOf76
  v105 := Tryd.zeroValue76
  t119 := Tryd.underlying80
  a119 := Tryd.isAgg80
  z119 := Tryd.sizeOf80
  t138 := Tryd.underlying82
  a138 := Tryd.isAgg82
  z138 := Tryd.sizeOf82
  v138 := Tryd.zeroValue82
  t139 := Tryd.underlying83
  a139 := Tryd.isAgg83
  z139 := Tryd.sizeOf83
  v139 := Tryd.zeroValue83
  g3 := by kernel_rfl
  g4 := by kernel_rfl }
open Go.RowKit Go.Lib in
theorem Tryd.utf8_DecodeRuneInString_ascii (s : ByteArray) (x : UInt8) (w : World) (h0 : s.data.toList[0]? = some x) (hx : x.toNat < 128) :
    Calls Tryd.prog 42 #[.string s] w fun e w' => e = .returned (.tuple #[.int .i32 x.toNat, .int .i64 1]) ∧ w' = w := Any.utf8_DecodeRuneInString_ascii Tryd.lays197 s x w h0 hx
open Go.RowKit Go.Lib in
theorem Tryd.utf8_RuneCountInString_ascii (s : ByteArray) (w : World) (hs : s.size < 4294967281) (hascii : ∀ (j : Nat) b, s.data.toList[j]? = some b → b.toNat < 128) :
    Calls Tryd.prog 41 #[.string s] w fun e w' => e = .returned (.int .i64 s.size) ∧ w' = w.iter s s.size := Any.utf8_RuneCountInString_ascii Tryd.lays195 s w hs hascii
def Tryd.lays268_ren : Go.Shelf.Ren := ⟨fun | 268 => 36 | 195 => 41 | 197 => 42 | 260 => 45 | n => n, fun | 9 => 9 | 3 => 3 | 31 => 33 | 4 => 4 | 105 => 76 | 21 => 21 | 0 => 0 | 5 => 5 | 119 => 80 | 46 => 41 | 139 => 83 | 138 => 82 | n => n, fun | 3 => 2 | 4 => 3 | n => n⟩
theorem Tryd.lays268 : Go.Proofs.Lays.n268 Tryd.prog Tryd.lays268_ren := {
  mixed := by kernel_rfl
  f195 := Tryd.func41.trans (congrArg some (by kernel_rfl))
  f197 := Tryd.func42.trans (congrArg some (by kernel_rfl))
  f260 := Tryd.func45.trans (congrArg some (by kernel_rfl))
  f268 := Tryd.func36.trans (congrArg some (by kernel_rfl))
  t0 := Tryd.underlying0
  a0 := Tryd.isAgg0
  z0 := Tryd.sizeOf0
  v0 := Tryd.zeroValue0
  t3 := Tryd.underlying3
  a3 := Tryd.isAgg3
  z3 := Tryd.sizeOf3
  v3 := Tryd.zeroValue3
  t4 := Tryd.underlying4
  a4 := Tryd.isAgg4
  z4 := Tryd.sizeOf4
  v4 := Tryd.zeroValue4
  t5 := Tryd.underlying5
  a5 := Tryd.isAgg5
  z5 := Tryd.sizeOf5
  v5 := Tryd.zeroValue5
  t9 := Tryd.underlying9
  a9 := Tryd.isAgg9
  z9 := Tryd.sizeOf9
  v9 := Tryd.zeroValue9
  t21 := Tryd.underlying21
  a21 := Tryd.isAgg21
  z21 := Tryd.sizeOf21
  v21 := Tryd.zeroValue21
  t31 := Tryd.underlying33
  a31 := Tryd.isAgg33
  z31 := Tryd.sizeOf33
  v31 := Tryd.zeroValue33
  t46 := Tryd.underlying41
  a46 := Tryd.isAgg41
  z46 := Tryd.sizeOf41
  v46 := Tryd.zeroValue41
  t105 := Tryd.underlying76
  a105 := Tryd.isAgg76
  z105 := Tryd.sizeOf76
  v105 := Tryd.zeroValue76
  t119 := Tryd.underlying80
  a119 := Tryd.isAgg80
  z119 := Tryd.sizeOf80
  t138 := Tryd.underlying82
  a138 := Tryd.isAgg82
  z138 := Tryd.sizeOf82
  v138 := Tryd.zeroValue82
  t139 := Tryd.underlying83
  a139 := Tryd.isAgg83
  z139 := Tryd.sizeOf83
  v139 := Tryd.zeroValue83
  g3 := by kernel_rfl
  g4 := by kernel_rfl }
open Go.RowKit Go.Lib in
theorem Tryd.strings_explode_all (s : ByteArray) (n : Int) (w : World) (hn : n < 0) (hs : s.size < 4294967281) (hascii : ∀ (j : Nat) b, s.data.toList[j]? = some b → b.toNat < 128) :
    Calls Tryd.prog 36 #[.string s, .int .i64 n] w fun e w' =>
      e = .returned (.slice (some ⟨(w.iter s s.size).heap.size, 0, none⟩) s.size s.size) ∧ w' = (w.iter s s.size).alloc (.cells ((Lib.charsB s).map Value.string).toArray 9) := Any.strings_explode_all Tryd.lays268 (by kernel_rfl) s n w hn hs hascii
open Go.RowKit Go.Lib in
theorem Tryd.strings_genSplit_chars (s sep : ByteArray) (sv n : Int) (w : World) (h0 : sep.size = 0) (hn : n < 0) (hs : s.size < 4294967281) (hascii : ∀ (j : Nat) b, s.data.toList[j]? = some b → b.toNat < 128) :
    Calls Tryd.prog 33 #[.string s, .string sep, .int .i64 sv, .int .i64 n] w fun e w' =>
      e = .returned (.slice (some ⟨(w.iter s s.size).heap.size, 0, none⟩) s.size s.size) ∧ w' = (w.iter s s.size).alloc (.cells ((Lib.charsB s).map Value.string).toArray 9) := Any.strings_genSplit_chars Tryd.lays221 (by kernel_rfl) s sep sv n w h0 hn hs hascii
open Go.RowKit Go.Lib in
theorem Tryd.strings_Split_chars (s sep : ByteArray) (w : World) (h0 : sep.size = 0) (hs : s.size < 4294967281) (hascii : ∀ (j : Nat) b, s.data.toList[j]? = some b → b.toNat < 128) :
    Calls Tryd.prog 22 #[.string s, .string sep] w fun e w' =>
      e = .returned (.slice (some ⟨(w.iter s s.size).heap.size, 0, none⟩) s.size s.size) ∧ w' = (w.iter s s.size).alloc (.cells ((Lib.charsB s).map Value.string).toArray 9) := Any.strings_Split_chars Tryd.lays146 (by kernel_rfl) s sep w h0 hs hascii
def Tryd.lays260_ren : Go.Shelf.Ren := ⟨fun | 260 => 45 | n => n, fun | 9 => 9 | 21 => 21 | 3 => 3 | 4 => 4 | 5 => 5 | 119 => 80 | 0 => 0 | 46 => 41 | 139 => 83 | 138 => 82 | n => n, fun | 3 => 2 | 4 => 3 | n => n⟩
theorem Tryd.lays260 : Go.Proofs.Lays.n260 Tryd.prog Tryd.lays260_ren := {
  mixed := by kernel_rfl
  f260 := Tryd.func45.trans (congrArg some (by kernel_rfl))
  t0 := Tryd.underlying0
  a0 := Tryd.isAgg0
  z0 := Tryd.sizeOf0
  v0 := Tryd.zeroValue0
  t3 := Tryd.underlying3
  a3 := Tryd.isAgg3
  z3 := Tryd.sizeOf3
  v3 := Tryd.zeroValue3
  t4 := Tryd.underlying4
  a4 := Tryd.isAgg4
  z4 := Tryd.sizeOf4
  v4 := Tryd.zeroValue4
  t5 := Tryd.underlying5
  a5 := Tryd.isAgg5
  z5 := Tryd.sizeOf5
  v5 := Tryd.zeroValue5
  t9 := Tryd.underlying9
  a9 := Tryd.isAgg9
  z9 := Tryd.sizeOf9
  v9 := Tryd.zeroValue9
  t21 := Tryd.underlying21
  a21 := Tryd.isAgg21
  z21 := Tryd.sizeOf21
  v21 := Tryd.zeroValue21
  t46 := Tryd.underlying41
  a46 := Tryd.isAgg41
  z46 := Tryd.sizeOf41
  v46 := Tryd.zeroValue41
  t119 := Tryd.underlying80
  a119 := Tryd.isAgg80
  z119 := Tryd.sizeOf80
  t138 := Tryd.underlying82
  a138 := Tryd.isAgg82
  z138 := Tryd.sizeOf82
  v138 := Tryd.zeroValue82
  t139 := Tryd.underlying83
  a139 := Tryd.isAgg83
  z139 := Tryd.sizeOf83
  v139 := Tryd.zeroValue83
  g3 := by kernel_rfl
  g4 := by kernel_rfl }
open Go.RowKit Go.Lib in
theorem Tryd.utf8_decodeRuneInStringSlow (s : ByteArray) (w : World) (hT : Lib.Utf8Tabs 2 3 w) :
    Calls Tryd.prog 45 #[.string s] w fun e w' => e = .returned (.tuple #[.int .i32 (Lib.decodeGo s).1, .int .i64 (Lib.decodeGo s).2]) ∧ Below w.heap.size w w' := Any.utf8_decodeRuneInStringSlow Tryd.lays260 s w hT
open Go.RowKit Go.Lib in
theorem Tryd.utf8_DecodeRuneInString (s : ByteArray) (w : World) (hT : Lib.Utf8Tabs 2 3 w) :
    Calls Tryd.prog 42 #[.string s] w fun e w' => e = .returned (.tuple #[.int .i32 (Lib.decodeGo s).1, .int .i64 (Lib.decodeGo s).2]) ∧ Below w.heap.size w w' := Any.utf8_DecodeRuneInString Tryd.lays197 s w hT
end Go.Proofs
namespace Go.Proofs.YtkdncfbbhbmaaaaDoor.Ext
open Go.RowKit Go.Proofs.YtkdncfbbhbmaaaaDoorW.PrintWords Go.Proofs.YtkdncfbbhbmaaaaDoorW.PrintLast Go.Proofs.YtkdncfbbhbmaaaaDoorW.PrintMore
set_option linter.unusedVariables false
set_option linter.unusedSimpArgs false
abbrev TB : TypeId := 62
abbrev TU : TypeId := 5
theorem infoB : (Tryd.prog.info? TB).map (fun i => (i.zero, i.size, i.bytes)) = some (some (.agg #[.pointer none, .slice none 0 0]), 2, 32) := by kernel_rfl
theorem infoU : (Tryd.prog.info? TU).map (fun i => (i.zero, i.size, i.bytes)) = some (some (.int .u8 0), 1, 1) := by kernel_rfl
set_option maxHeartbeats 1000000 in
set_option maxRecDepth 100000 in
theorem copyCheck_used (b : Nat) (w : World) (h0 : w.cell? ⟨b, 0, none⟩ = some (.pointer (some ⟨b, 0, none⟩))) :
    Calls Tryd.prog 35 #[.pointer (some ⟨b, 0, none⟩)] w fun e w' => e = .returned (.tuple #[]) ∧ w' = w := by
  obtain ⟨j, hj, hjz⟩ := Option.map_eq_some_iff.1 infoB
  go_enter Tryd.func35, Tryd.ntmps35
  go_wp2
  rw [Lib.run_neq_ptr_same w _ Tryd.underlying60 hj]
  go_wp2
  go_end0
  exact ⟨rfl, rfl⟩
set_option maxHeartbeats 1000000 in
set_option maxRecDepth 100000 in
theorem copyCheck_fresh (b : Nat) (w : World) (h0 : w.cell? ⟨b, 0, none⟩ = some (.pointer none)) (hsh : w.shape? b = some (TB, 2)) (hfz : w.frozen? ⟨b, 0, none⟩ = false) :
    Calls Tryd.prog 35 #[.pointer (some ⟨b, 0, none⟩)] w fun e w' => e = .returned (.tuple #[]) ∧ w' = w.setCell ⟨b, 0, none⟩ (.pointer (some ⟨b, 0, none⟩)) := by
  obtain ⟨j, hj, hjz⟩ := Option.map_eq_some_iff.1 infoB
  have hjs : j.size = 2 := by simp only [Prod.mk.injEq] at hjz; exact hjz.2.1
  go_enter Tryd.func35, Tryd.ntmps35
  go_wp2
  rw [Lib.run_to_unsafe w ⟨b, 0, none⟩ Tryd.underlying60 Tryd.underlying74 hj (by rw [hjs]; decide) hsh (Nat.zero_lt_succ 1)]
  simp only [Result.andThen]
  rw [Oper.upon_value]
  go_wp2
  rw [run_callFunc_extern Tryd.func40 (by kernel_rfl) (by kernel_rfl) (by kernel_rfl) (e := Extern.AbiNoEscape.same) (by kernel_rfl)]
  rw [Lib.run_noEscape]
  simp only [Result.andThen]
  rw [Oper.upon_value]
  go_wp2
  rw [Lib.run_from_unsafe w ⟨b, 0, none⟩ Tryd.underlying74 Tryd.underlying60 hj hsh (by kernel_rfl)]
  simp only [Result.andThen]
  rw [Oper.upon_value]
  go_wp2
  go_end0
  exact ⟨rfl, rfl⟩
theorem copyCheck_any (B b : Nat) (bs : List Value) (w : World) (h : Lib.IsBuilder TB TU B b bs w) :
    Calls Tryd.prog 35 #[.pointer (some ⟨b, 0, none⟩)] w fun e w' => e = .returned (.tuple #[]) ∧ (Lib.BuilderAt TB TU B b (.pointer (some ⟨b, 0, none⟩)) bs w' ∧ Below B w w') := by
  rcases h with h | h
  · refine (copyCheck_fresh b w h.cell0 h.shape h.frozen0).mono ?_
    rintro e w' ⟨rfl, rfl⟩
    exact ⟨rfl, h.used _, (Below.refl B w).setCell (p := ⟨b, 0, none⟩) h.1 _⟩
  · refine (copyCheck_used b w h.cell0).mono ?_
    rintro e w' ⟨rfl, rfl⟩
    exact ⟨rfl, h, Below.refl B _⟩
set_option maxHeartbeats 2000000 in
set_option maxRecDepth 100000 in
/-- WriteByte: the byte stands behind the others. -/
theorem writeByte (B b : Nat) (bs : List Value) (c : Int) (w : World) (h : Lib.IsBuilder TB TU B b bs w) (hlen : bs.length + 1 ≤ 1000000) (hBw : B ≤ w.heap.size) :
    Calls Tryd.prog 31 #[.pointer (some ⟨b, 0, none⟩), .int .u8 c] w fun e w' => e = .returned .nilIface ∧ (Lib.BuilderAt TB TU B b (.pointer (some ⟨b, 0, none⟩)) (bs ++ [.int .u8 c]) w' ∧ Below B w w') := by
  obtain ⟨i0, hi, hz0, hz1, hz2⟩ := info_parts infoU
  go_enter Tryd.func31, Tryd.ntmps31
  go_wp2_with (go_at_call 35; refine (copyCheck_any B b bs _ h).mono ?_)
  rintro e w1 ⟨rfl, h1, hb1⟩
  obtain ⟨hB, v, hbk, hown, hne⟩ := h1
  have c0 : w1.cell? ⟨b, 0, none⟩ = some (.pointer (some ⟨b, 0, none⟩)) := by rw [Lib.cell_of_heap hbk]; rfl
  have c1 : w1.cell? ⟨b, 1, none⟩ = some v := by rw [Lib.cell_of_heap hbk]; rfl
  go_wp2_with (at_builtin; refine wpList_append_own _ rfl _ _ 44 rfl B TU i0 (.int .u8 0) 1 1 Tryd.underlying44 hi hz0 hz1 hz2 rfl (by decide) _ _ _ rfl (hown.alloc _) ⟨w1.heap.size, 0, none⟩ 1 1 [.int .u8 c] rfl rfl ?c1 ?c2 ?c3 ?c4 ?c5 ?_)
  case c1 =>
    intro j u hj
    match j, hj with
    | 0, hj => simp at hj; subst hj; simp [Addr.add]
  case c2 => intro u hu; simp at hu; subst hu; rfl
  case c3 => unfold maxLen; omega
  case c4 => omega
  case c5 => have := hb1.size; simp; omega
  intro v' w2 hown' hgrow _
  have hlt : b < w1.heap.size := by
    rcases Nat.lt_or_ge b w1.heap.size with h' | h'
    · exact h'
    · simp [Array.getElem?_eq_none h'] at hbk
  have hb2 : w2.heap[b]? = some (.cells #[.pointer (some ⟨b, 0, none⟩), v] TB (0, 0)) := by
    rw [hgrow.block b (by simp; omega) (fun e => hne e.symm), Lib.alloc_old w1 _ b hlt]
    exact hbk
  have d0 : w2.cell? ⟨b, 0, none⟩ = some (.pointer (some ⟨b, 0, none⟩)) := by rw [Lib.cell_of_heap hb2]; rfl
  have d1 : w2.cell? ⟨b, 1, none⟩ = some v := by rw [Lib.cell_of_heap hb2]; rfl
  have f1 : w2.frozen? ⟨b, 1, none⟩ = false := Lib.frozen_of_heap hb2 1
  obtain ⟨g, cap, rfl⟩ : ∃ g cap, v' = .slice (some ⟨g, 0, none⟩) (bs.length + 1) cap := by
    rcases hown'.2 with ⟨_, h0⟩ | ⟨g, cap, cur, hv, _⟩
    · omega
    · exact ⟨g, cap, hv⟩
  go_wp2
  go_ret
  refine ⟨rfl, ?_, ?_⟩
  · exact Lib.BuilderAt.put (T := TB) (e := TU) hB hb2 (bs' := bs ++ [.int .u8 c]) (by simpa using hown') (by decide)
  · exact ((hb1.alloc (by have := hb1.size; omega) _).grown hgrow (by have := hb1.size; simp; omega) (fun k hk => (hown.lt k hk).1)).setCell (p := ⟨b, 1, none⟩) hB _
end Go.Proofs.YtkdncfbbhbmaaaaDoor.Ext
namespace Go.Proofs.YtkdncfbbhbmaaaaDoor.Q
open Go.RowKit Go.Proofs.YtkdncfbbhbmaaaaDoorW.PrintWords Go.Proofs.YtkdncfbbhbmaaaaDoorW.PrintLast Go.Proofs.YtkdncfbbhbmaaaaDoorW.PrintMore
attribute [local go_sem] max2_int min2_int max_two min_two max_three min_three max_four min_four   -- for this text's walks alone
set_option linter.unusedVariables false
set_option linter.unusedSimpArgs false

/-! ### stuff_good: function 21 -/
def stuff_good.l0 : Nat → ByteArray → Int → Int → Option (Int)
  | 0, _, _, _ => none
  | k + 1, x0, x11, x12 => if x12 < x11 then (if 0 ≤ x12 then (if x12 < (x0.size : Int) then (if (bt x0 x12) = 48 then (stuff_good.l0 k x0 x11 (wrap64 (x12 + 1))) else (if (bt x0 x12) = 49 then (stuff_good.l0 k x0 x11 (wrap64 (x12 + 1))) else (some 3))) else (none)) else (none)) else (some 0)
def stuff_good.f (k : Nat) (a0 : ByteArray) (a1 : Int) : Option (Int) := if (a0.size : Int) > a1 then (some 2) else (stuff_good.l0 k a0 (a0.size : Int) 0)
theorem stuff_good.mono_l : ∀ k, (∀ y0 y1 y2, LeO (stuff_good.l0 k y0 y1 y2) (stuff_good.l0 (k + 1) y0 y1 y2))
  | 0 => fun _ _ _ r h => by simp [stuff_good.l0] at h
  | k + 1 => by
    have ih0 := stuff_good.mono_l k
    · intro y0 y1 y2
      unfold stuff_good.l0
      repeat' first
      | (with_reducible exact ih0 _ _ _)
      | (with_reducible exact LeO.refl _)
      | (with_reducible exact LeO.none _)
      | (with_reducible refine LeO.ite ?_ ?_)
      | (with_reducible refine LeO.bind ?_ (fun _ => ?_))
      | exact ih0 _ _ _
      | exact LeO.none _
      | refine LeO.ite ?_ ?_
      | refine LeO.bind ?_ (fun _ => ?_)
theorem stuff_good.mono : ∀ a0 a1 k, LeO (stuff_good.f k a0 a1) (stuff_good.f (k + 1) a0 a1) := by
  intro a0 a1 k
  have ih0 := stuff_good.mono_l k
  unfold stuff_good.f
  repeat' first
      | (with_reducible exact ih0 _ _ _)
      | (with_reducible exact LeO.refl _)
      | (with_reducible exact LeO.none _)
      | (with_reducible refine LeO.ite ?_ ?_)
      | (with_reducible refine LeO.bind ?_ (fun _ => ?_))
      | exact ih0 _ _ _
      | exact LeO.none _
      | refine LeO.ite ?_ ?_
      | refine LeO.bind ?_ (fun _ => ?_)
set_option maxHeartbeats 8000000 in
set_option maxRecDepth 100000 in
theorem stuff_good.calls (k : Nat) (a0 : ByteArray) (a1 : Int) (r : Int) (w : World) (h : stuff_good.f k a0 a1 = some r) :
    Calls Tryd.prog 21 #[.string a0, .int .i64 a1] w fun e w' => e = .returned (.int .i64 r) ∧ Drawn0 w w' := by
  have H : (if (a0.size : Int) > a1 then (some 2) else (stuff_good.l0 k a0 (a0.size : Int) 0)) = some r := h
  clear h
  by_cases c3 : (a0.size : Int) > a1
  · rw [if_pos c3] at H
    have c3b0 : decide (a1 < (a0.size : Int)) = true := decide_eq_true c3
    clear c3
    obtain rfl := Option.some.inj H
    go_enter Tryd.func21, Tryd.ntmps21
    go_wp2
    go_ret
    exact ⟨by first | rfl | (simp; done) | (simp [*]; done), by repeat (first | exact Drawn0.refl _ | apply Drawn0.step)⟩
  · rw [if_neg c3] at H
    have c3b0 : decide (a1 < (a0.size : Int)) = false := decide_eq_false c3
    clear c3
    have H' := Aside0.mk H
    clear H
    go_enter Tryd.func21, Tryd.ntmps21
    go_wp2
    go_loopg [12] k (fun kq v12 w' => ∃ (x12_1 : Int), v12 = .int .i64 x12_1 ∧ Aside0 (stuff_good.l0 kq a0 (a0.size : Int) x12_1 = some r) ∧ Aside0 (kq ≤ k) ∧ Drawn0 w w')
    case atStart => exact ⟨(0), (by first | rfl | (simp; done) | (simp [*]; done)), H', ⟨Nat.le_refl _⟩, by repeat (first | exact Drawn0.refl _ | apply Drawn0.step)⟩
    case round =>
      clear H'
      try clear c2
      try clear p2
      try clear c3
      try clear c3b0
      obtain ⟨x12_1, rfl, HA, HK1, ⟨m1, rfl⟩⟩ := hrel
      cases gk with
      | zero => exact absurd HA.out (by simp [stuff_good.l0])
      | succ k1 =>
        have H := HA.out
        clear HA
        simp only [stuff_good.l0] at H
        by_cases c4 : x12_1 < (a0.size : Int)
        · rw [if_pos c4] at H
          have c4b0 : decide (x12_1 < (a0.size : Int)) = true := decide_eq_true c4
          clear c4
          by_cases c5 : 0 ≤ x12_1
          · rw [if_pos c5] at H
            have c5b0 : decide (0 ≤ x12_1) = true := decide_eq_true c5
            clear c5
            by_cases c6 : x12_1 < (a0.size : Int)
            · rw [if_pos c6] at H
              have c6b0 : decide (x12_1 < (a0.size : Int)) = true := decide_eq_true c6
              clear c6
              by_cases c8 : (bt a0 x12_1) = 48
              · rw [if_pos c8] at H
                have c8b0 : ((bt a0 x12_1) == 48) = true := beq_iff_eq.mpr c8
                have c8b1 : ((bt a0 x12_1) != 48) = false := bne_eq_false_iff_eq.mpr c8
                clear c8
                have H' := Aside0.mk H
                clear H
                have p7 : 0 ≤ (x12_1 : Int) := of_decide_eq_true (by first | (with_reducible assumption) | assumption)
                have q7 : x12_1 < (a0.size : Int) := of_decide_eq_true (by first | (with_reducible assumption) | assumption)
                have hx7 := bt_at a0 x12_1
                replace p7 := eq_true p7
                replace q7 := eq_true q7
                go_wp2
                go_roundg k1
                case measure => have := HK1.out; omega
                case rel => exact ⟨(wrap64 (x12_1 + 1)), (by first | rfl | (simp; done) | (simp [*]; done)), H', ⟨by have := HK1.out; omega⟩, by repeat (first | exact Drawn0.refl _ | apply Drawn0.step)⟩
              · rw [if_neg c8] at H
                have c8b0 : ((bt a0 x12_1) == 48) = false := beq_eq_false_iff_ne.mpr c8
                have c8b1 : ((bt a0 x12_1) != 48) = true := bne_iff_ne.mpr c8
                by_cases c10 : (bt a0 x12_1) = 49
                · rw [if_pos c10] at H
                  have c10b0 : ((bt a0 x12_1) == 49) = true := beq_iff_eq.mpr c10
                  have c10b1 : ((bt a0 x12_1) != 49) = false := bne_eq_false_iff_eq.mpr c10
                  clear c10
                  have H' := Aside0.mk H
                  clear H
                  have p7 : 0 ≤ (x12_1 : Int) := of_decide_eq_true (by first | (with_reducible assumption) | assumption)
                  have q7 : x12_1 < (a0.size : Int) := of_decide_eq_true (by first | (with_reducible assumption) | assumption)
                  have hx7 := bt_at a0 x12_1
                  replace p7 := eq_true p7
                  replace q7 := eq_true q7
                  have p9 : 0 ≤ (x12_1 : Int) := of_decide_eq_true (by first | (with_reducible assumption) | assumption)
                  have q9 : x12_1 < (a0.size : Int) := of_decide_eq_true (by first | (with_reducible assumption) | assumption)
                  have hx9 := bt_at a0 x12_1
                  replace p9 := eq_true p9
                  replace q9 := eq_true q9
                  go_wp2
                  go_roundg k1
                  case measure => have := HK1.out; omega
                  case rel => exact ⟨(wrap64 (x12_1 + 1)), (by first | rfl | (simp; done) | (simp [*]; done)), H', ⟨by have := HK1.out; omega⟩, by repeat (first | exact Drawn0.refl _ | apply Drawn0.step)⟩
                · rw [if_neg c10] at H
                  have c10b0 : ((bt a0 x12_1) == 49) = false := beq_eq_false_iff_ne.mpr c10
                  have c10b1 : ((bt a0 x12_1) != 49) = true := bne_iff_ne.mpr c10
                  obtain rfl := Option.some.inj H
                  have p7 : 0 ≤ (x12_1 : Int) := of_decide_eq_true (by first | (with_reducible assumption) | assumption)
                  have q7 : x12_1 < (a0.size : Int) := of_decide_eq_true (by first | (with_reducible assumption) | assumption)
                  have hx7 := bt_at a0 x12_1
                  replace p7 := eq_true p7
                  replace q7 := eq_true q7
                  have p9 : 0 ≤ (x12_1 : Int) := of_decide_eq_true (by first | (with_reducible assumption) | assumption)
                  have q9 : x12_1 < (a0.size : Int) := of_decide_eq_true (by first | (with_reducible assumption) | assumption)
                  have hx9 := bt_at a0 x12_1
                  replace p9 := eq_true p9
                  replace q9 := eq_true q9
                  go_wp2
                  go_ret
                  exact ⟨by first | rfl | (simp; done) | (simp [*]; done), by repeat (first | exact Drawn0.refl _ | apply Drawn0.step)⟩
            · rw [if_neg c6] at H
              exact absurd H (by simp)
          · rw [if_neg c5] at H
            exact absurd H (by simp)
        · rw [if_neg c4] at H
          have c4b0 : decide (x12_1 < (a0.size : Int)) = false := decide_eq_false c4
          clear c4
          obtain rfl := Option.some.inj H
          go_wp2
          go_ret
          exact ⟨by first | rfl | (simp; done) | (simp [*]; done), by repeat (first | exact Drawn0.refl _ | apply Drawn0.step)⟩

end Go.Proofs.YtkdncfbbhbmaaaaDoor.Q
namespace Go.Proofs.YtkdncfbbhbmaaaaDoor.Ext
open Go.RowKit Go.Proofs.YtkdncfbbhbmaaaaDoorW.PrintWords Go.Proofs.YtkdncfbbhbmaaaaDoorW.PrintLast Go.Proofs.YtkdncfbbhbmaaaaDoorW.PrintMore Go.Proofs.YtkdncfbbhbmaaaaDoor.St
set_option linter.unusedVariables false
set_option linter.unusedSimpArgs false
theorem good_l0' (s : ByteArray) (hb : BinL s.data.toList) (hs : s.size ≤ 100000) (m : Nat) : ∀ i, i + m = s.size → Ev (fun k => Q.stuff_good.l0 k s (s.size : Int) (i : Int)) 0 := by
  induction m with
  | zero =>
    intro i hi
    refine Ev.step (f := fun _ => some 0) (fun k => ?_) (Ev.now _)
    rw [Q.stuff_good.l0, if_neg (by omega)]
  | succ m ih =>
    intro i hi
    have hw : wrap64 ((i : Int) + 1) = ((i + 1 : Nat) : Int) := by unfold wrap64; omega
    have hlt : i < s.data.toList.length := by rw [data_length]; omega
    have hm := hb _ (List.getElem_mem hlt)
    have hbt : bt s (i : Int) = (s.data.toList[i].toNat : Int) := by
      unfold bt
      rw [dif_pos (by rw [Int.toNat_natCast]; omega)]
      simp [ByteArray.getElem_eq_getElem_data]
    refine Ev.step (fun k => ?_) (ih (i + 1) (by omega))
    simp only [Q.stuff_good.l0]
    rw [if_pos (by omega), if_pos (by omega), if_pos (by omega), hbt, hw]
    rcases hm with z | z
    · rw [if_pos (by rw [z]; rfl)]
    · rw [if_neg (by rw [z]; decide), if_pos (by rw [z]; rfl)]
theorem good_ok (s : ByteArray) (hb : BinL s.data.toList) (n : Nat) (hs : s.size ≤ n) (hn : n ≤ 100000) : ∃ k, Q.stuff_good.f k s (n : Int) = some 0 := by
  have h := (good_l0' s hb (by omega) s.size 0 (by omega)).rounds
  obtain ⟨k, hk⟩ := h
  refine ⟨k, ?_⟩
  unfold Q.stuff_good.f
  rw [if_neg (by omega)]
  exact hk
theorem byteCells_snoc (l : List UInt8) (c : UInt8) : Lib.byteCells (l ++ [c]) = Lib.byteCells l ++ [.int .u8 (c.toNat : Int)] := by simp [Lib.byteCells]
theorem byteCells_length (l : List UInt8) : (Lib.byteCells l).length = l.length := by simp [Lib.byteCells]
set_option maxHeartbeats 2000000 in
set_option maxRecDepth 100000 in
theorem stuff_ok (s : ByteArray) (hb : BinL s.data.toList) (hl : s.size ≤ 8000) (w : World) :
    Calls Tryd.prog 20 #[.string s] w fun e w' => e = .returned (.tuple #[.string ⟨(stf s.data.toList 0).toArray⟩, .int .i64 0]) ∧ Below w.heap.size w w' := by
  obtain ⟨kg, hkg⟩ := good_ok s hb 8192 (by omega) (by omega)
  have HBN := Aside0.mk hb
  have HL := Aside0.mk hl
  clear hb hl
  go_enter Tryd.func20, Tryd.ntmps20
  go_wp2_with fail
  refine (Q.stuff_good.calls kg s 8192 0 _ hkg).mono ?_
  rintro e w1 ⟨rfl, hd⟩
  have HB1 := Aside0.mk (show Below w.heap.size w w1 from hd.below)
  clear hd hkg
  go_wp2_with fail
  have HF := Aside0.mk (Lib.fresh_isBuilder TB TU w1)
  have HBA := Aside0.mk (below_alloc (Below.refl w1.heap.size w1) (.cells #[.pointer none, .slice none 0 0] TB))
  generalize w1.alloc (.cells #[.pointer none, .slice none 0 0] TB) = w2 at HF HBA ⊢
  go_loopw [6, 15] (fun o i w' => ∃ (k n : Nat) (acc : List UInt8), k ≤ s.size ∧ n ≤ 4 ∧ o = .int .i64 n ∧ i = .int .i64 k ∧ Aside0 (acc ++ stf (s.data.toList.drop k) n = stf s.data.toList 0) ∧ Aside0 (Lib.IsBuilder TB TU w1.heap.size w1.heap.size (Lib.byteCells acc) w') ∧ Aside0 (Below w1.heap.size w1 w')) (fun _ i _ => s.size - (intOf i).toNat)
  case atStart => exact ⟨0, 0, [], Nat.zero_le _, by omega, rfl, rfl, ⟨rfl⟩, HF, HBA⟩
  case round =>
    clear HF HBA
    obtain ⟨k, n, acc, hk, hn, rfl, rfl, HA, HI, HB⟩ := hrel
    have HLA := Aside0.mk (show acc.length ≤ 20000 from by
      have h1 := congrArg List.length HA.out
      rw [List.length_append] at h1
      have h2 := (stf_length s.data.toList 0).2
      have := HL.out
      rw [data_length] at h2
      omega)
    by_cases hlt : k < s.size
    · have hlb : decide ((k : Int) < (s.size : Int)) = true := decide_eq_true (by omega)
      have p0 : (0 : Int) ≤ (k : Int) := by omega
      have q0 : (k : Int) < (s.size : Int) := by omega
      have hkl : k < s.data.toList.length := by rw [data_length]; exact hlt
      have hdr := List.drop_eq_getElem_cons hkl
      have hbyte : s[k].toNat = s.data.toList[k].toNat := by simp [ByteArray.getElem_eq_getElem_data]
      have hc := HBN.out _ (List.getElem_mem hkl)
      have hkw : wrap64 ((k : Int) + 1) = ((k + 1 : Nat) : Int) := by unfold wrap64; have := HL.out; omega
      have hnw : wrap64 ((n : Int) + 1) = ((n + 1 : Nat) : Int) := by unfold wrap64; omega
      have HBS := Aside0.mk (below_size HB.out)
      rcases hc with hc | hc
      · have hb48 : s[k].toNat = 48 := by rw [hbyte, hc]; rfl
        have HA2 := Aside0.mk (show (acc ++ [48]) ++ stf (s.data.toList.drop (k + 1)) 0 = stf s.data.toList 0 from by
          rw [← HA.out, hdr, hc, stf, if_pos rfl, List.append_assoc]
          rfl)
        clear hc hbyte hdr
        go_wp2_with (go_at_call 31; refine (writeByte w1.heap.size w1.heap.size (Lib.byteCells acc) 48 _ HI.out (by rw [byteCells_length]; have := HLA.out; omega) HBS.out).mono ?_)
        rintro e w3 ⟨rfl, h3, hb3⟩
        have HI3 := Aside0.mk (show Lib.IsBuilder TB TU w1.heap.size w1.heap.size (Lib.byteCells (acc ++ [48])) w3 from .inr (by rw [byteCells_snoc]; exact h3))
        have HB3 := Aside0.mk (HB.out.trans hb3)
        clear h3 hb3
        go_wp2
        go_roundw
        case rel => exact ⟨k + 1, 0, acc ++ [48], hlt, by omega, rfl, by rw [hkw], HA2, HI3, HB3⟩
        case measure => rw [hkw]; simp only [intOf, Int.toNat_natCast]; omega
      · have hb49 : s[k].toNat = 49 := by rw [hbyte, hc]; rfl
        have hstf : stf (s.data.toList.drop k) n = if n = 4 then 49 :: 48 :: stf (s.data.toList.drop (k + 1)) 0 else 49 :: stf (s.data.toList.drop (k + 1)) (n + 1) := by
          rw [hdr, hc, stf, if_neg (by decide)]
        have HST := Aside0.mk hstf
        clear hc hbyte hdr hstf
        go_wp2_with (go_at_call 31; refine (writeByte w1.heap.size w1.heap.size (Lib.byteCells acc) 49 _ HI.out (by rw [byteCells_length]; have := HLA.out; omega) HBS.out).mono ?_)
        rintro e w3 ⟨rfl, h3, hb3⟩
        have HI3 := Aside0.mk (show Lib.IsBuilder TB TU w1.heap.size w1.heap.size (Lib.byteCells (acc ++ [49])) w3 from .inr (by rw [byteCells_snoc]; exact h3))
        have HB3 := Aside0.mk (HB.out.trans hb3)
        have HBS3 := Aside0.mk (below_size HB3.out)
        clear h3 hb3
        by_cases h4 : n = 4
        · have h5 : (((n : Int) + 1) == 5) = true := by rw [h4]; rfl
          have HA2 := Aside0.mk (show (acc ++ [49]) ++ [48] ++ stf (s.data.toList.drop (k + 1)) 0 = stf s.data.toList 0 from by
            rw [← HA.out, HST.out, if_pos h4]
            simp)
          go_wp2_with (go_at_call 31; refine (writeByte w1.heap.size w1.heap.size (Lib.byteCells (acc ++ [49])) 48 _ HI3.out (by rw [byteCells_length, List.length_append]; have := HLA.out; simp; omega) HBS3.out).mono ?_)
          rintro e w4 ⟨rfl, h3, hb3⟩
          have HI4 := Aside0.mk (show Lib.IsBuilder TB TU w1.heap.size w1.heap.size (Lib.byteCells (acc ++ [49] ++ [48])) w4 from .inr (by rw [byteCells_snoc]; exact h3))
          have HB4 := Aside0.mk (HB3.out.trans hb3)
          clear h3 hb3
          go_wp2
          go_roundw
          case rel => exact ⟨k + 1, 0, acc ++ [49] ++ [48], hlt, by omega, rfl, by rw [hkw], HA2, HI4, HB4⟩
          case measure => rw [hkw]; simp only [intOf, Int.toNat_natCast]; omega
        · have h5 : (((n : Int) + 1) == 5) = false := by rw [beq_eq_false_iff_ne]; omega
          have HA2 := Aside0.mk (show (acc ++ [49]) ++ stf (s.data.toList.drop (k + 1)) (n + 1) = stf s.data.toList 0 from by
            rw [← HA.out, HST.out, if_neg h4]
            simp)
          go_wp2
          go_roundw
          case rel => exact ⟨k + 1, n + 1, acc ++ [49], hlt, by omega, rfl, by rw [hkw], HA2, HI3, HB3⟩
          case measure => rw [hkw]; simp only [intOf, Int.toNat_natCast]; omega
    · obtain rfl : k = s.size := by omega
      have hlb : decide ((s.size : Int) < (s.size : Int)) = false := decide_eq_false (by omega)
      have HE := Aside0.mk (show acc = stf s.data.toList 0 from by
        rw [← HA.out, List.drop_eq_nil_of_le (by rw [data_length]; exact Nat.le_refl _)]
        simp [stf])
      have HBS := Aside0.mk (below_size HB.out)
      go_wp2_with (go_at_call 32; refine (Tryd.Builder_String_any w1.heap.size w1.heap.size acc _ HI.out HBS.out).mono ?_)
      rintro e w3 ⟨rfl, hb3⟩
      have HB3 := Aside0.mk (HB.out.trans hb3)
      clear hb3
      go_wp2
      go_ret2
      exact ⟨by rw [HE.out]; rfl, below_step HB1.out HB3.out⟩
end Go.Proofs.YtkdncfbbhbmaaaaDoor.Ext
namespace Go.Proofs.YtkdncfbbhbmaaaaDoor.Ext
open Go.RowKit Go.Proofs.YtkdncfbbhbmaaaaDoorW.PrintWords Go.Proofs.YtkdncfbbhbmaaaaDoorW.PrintLast Go.Proofs.YtkdncfbbhbmaaaaDoorW.PrintMore Go.Proofs.YtkdncfbbhbmaaaaDoor.St
set_option linter.unusedVariables false
set_option linter.unusedSimpArgs false
theorem flag_lit : (⟨#[48, 49, 49, 49, 49, 49, 49, 48]⟩ : ByteArray) = flagB := rfl
theorem wrap_bytes (l : List UInt8) : flagB ++ (⟨l.toArray⟩ : ByteArray) ++ flagB = bs (wrapL l) := by
  apply ByteArray.ext
  apply Array.ext'
  simp [bs, wrapL, flagB]
set_option maxHeartbeats 2000000 in
set_option maxRecDepth 100000 in
theorem wrap_ok (s : ByteArray) (hb : BinL s.data.toList) (hl : s.size ≤ 8000) (w : World) :
    Calls Tryd.prog 10 #[.string s] w fun e w' => e = .returned (.tuple #[.string (bs (wrapL (stf s.data.toList 0))), .int .i64 0]) ∧ Below w.heap.size w w' := by
  have hsz := (stf_length s.data.toList 0).2
  rw [data_length] at hsz
  have HSZ := Aside0.mk (show (stf s.data.toList 0).length ≤ 16000 from by omega)
  clear hsz
  go_enter Tryd.func10, Tryd.ntmps10
  go_wp2_with fail
  refine (stuff_ok s hb hl w).mono ?_
  rintro e w1 ⟨rfl, hb1⟩
  have HW := Aside0.mk (wrap_bytes (stf s.data.toList 0))
  generalize hl : stf s.data.toList 0 = l at HSZ ⊢
  replace HW : Aside0 ((⟨#[48, 49, 49, 49, 49, 49, 49, 48]⟩ : ByteArray) ++ ⟨l.toArray⟩ ++ ⟨#[48, 49, 49, 49, 49, 49, 49, 48]⟩ = bs (wrapL (stf s.data.toList 0))) := ⟨by rw [← hl]; exact HW.out⟩
  clear hl
  have z1 : (9223372036854775807 < 8 + l.length) = False := eq_false (by have := HSZ.out; omega)
  have z2 : (9223372036854775807 < 8 + l.length + 8) = False := eq_false (by have := HSZ.out; omega)
  go_wp2
  go_ret2
  exact ⟨congrArg (fun z => Ending.returned (Value.tuple #[.string z, .int .i64 0])) HW.out, hb1⟩
set_option maxHeartbeats 2000000 in
set_option maxRecDepth 100000 in
theorem unstuff_ok (s : ByteArray) (r : List UInt8) (hs : s.size ≤ 20000) (hu : unst s.data.toList 0 = some r) (w : World) :
    Calls Tryd.prog 23 #[.string s] w fun e w' => e = .returned (.tuple #[.string ⟨r.toArray⟩, .int .i64 0]) ∧ Below w.heap.size w w' := by
  have HL := Aside0.mk hs
  have HU := Aside0.mk hu
  clear hs hu
  go_enter Tryd.func23, Tryd.ntmps23
  go_wp2
  have HF := Aside0.mk (Lib.fresh_isBuilder TB TU w)
  have HBA := Aside0.mk (below_alloc (Below.refl w.heap.size w) (.cells #[.pointer none, .slice none 0 0] TB))
  generalize w.alloc (.cells #[.pointer none, .slice none 0 0] TB) = w2 at HF HBA ⊢
  go_loopw [5, 9] (fun o i w' => ∃ (k n : Nat) (acc r2 : List UInt8), k ≤ s.size ∧ n ≤ 5 ∧ o = .int .i64 n ∧ i = .int .i64 k ∧ Aside0 (unst (s.data.toList.drop k) n = some r2) ∧ Aside0 (acc ++ r2 = r ∧ acc.length ≤ k) ∧ Aside0 (Lib.IsBuilder TB TU w.heap.size w.heap.size (Lib.byteCells acc) w') ∧ Aside0 (Below w.heap.size w w')) (fun _ i _ => s.size - (intOf i).toNat)
  case atStart => exact ⟨0, 0, [], r, Nat.zero_le _, by omega, rfl, rfl, HU, ⟨⟨rfl, Nat.le_refl _⟩⟩, HF, HBA⟩
  case round =>
    clear HF HBA
    obtain ⟨k, n, acc, r2, hk, hn, rfl, rfl, HA, HE, HI, HB⟩ := hrel
    by_cases hlt : k < s.size
    · have hlb : decide ((k : Int) < (s.size : Int)) = true := decide_eq_true (by omega)
      have p0 : (0 : Int) ≤ (k : Int) := by omega
      have q0 : (k : Int) < (s.size : Int) := by omega
      have hkl : k < s.data.toList.length := by rw [data_length]; exact hlt
      have hdr := List.drop_eq_getElem_cons hkl
      have hbyte : s[k].toNat = s.data.toList[k].toNat := by simp [ByteArray.getElem_eq_getElem_data]
      have hkw : wrap64 ((k : Int) + 1) = ((k + 1 : Nat) : Int) := by unfold wrap64; have := HL.out; omega
      have HBS := Aside0.mk (below_size HB.out)
      obtain ⟨c, hc⟩ : ∃ c : UInt8, s.data.toList[k] = c := ⟨_, rfl⟩
      have hcb : s[k].toNat = c.toNat := by rw [hbyte, hc]
      have hun := HA.out
      rw [hdr, hc, unst] at hun
      have HN := Aside0.mk hun
      clear hdr hbyte hun
      by_cases h5 : n = 5
      · subst h5
        have hn2 := HN.out
        rw [if_pos rfl] at hn2
        have hc49 : ¬ c = 49 := fun z => by rw [if_pos z] at hn2; cases hn2
        rw [if_neg hc49] at hn2
        have HN2 := Aside0.mk hn2
        have hne : ((c.toNat : Int) == 49) = false := by
          rw [beq_eq_false_iff_ne]
          intro z
          exact hc49 (UInt8.toNat_inj.1 (by show c.toNat = 49; omega))
        clear hn2 hc49 HN
        go_wp2
        go_roundw
        case rel => exact ⟨k + 1, 0, acc, r2, hlt, by omega, rfl, by rw [hkw], HN2, ⟨⟨HE.out.1, by have := HE.out.2; omega⟩⟩, HI, HB⟩
        case measure => rw [hkw]; simp only [intOf, Int.toNat_natCast]; omega
      · have hnb : ((n : Int) == 5) = false := by rw [beq_eq_false_iff_ne]; omega
        have hn2 := HN.out
        rw [if_neg h5] at hn2
        obtain ⟨r3, h3, h4⟩ := Option.map_eq_some_iff.1 hn2
        have H3 := Aside0.mk h3
        have H4 := Aside0.mk (show (acc ++ [c]) ++ r3 = r ∧ (acc ++ [c]).length ≤ k + 1 from ⟨by rw [← HE.out.1, ← h4]; simp, by have := HE.out.2; simp; omega⟩)
        clear hn2 HN h3 h4
        go_wp2_with (go_at_call 31; refine (writeByte w.heap.size w.heap.size (Lib.byteCells acc) (c.toNat : Int) _ HI.out (by rw [byteCells_length]; have := HE.out.2; have := HL.out; omega) HBS.out).mono ?_)
        rintro e w3 ⟨rfl, h3, hb3⟩
        have HI3 := Aside0.mk (show Lib.IsBuilder TB TU w.heap.size w.heap.size (Lib.byteCells (acc ++ [c])) w3 from .inr (by rw [byteCells_snoc]; exact h3))
        have HB3 := Aside0.mk (HB.out.trans hb3)
        clear h3 hb3
        have hnw : wrap64 ((n : Int) + 1) = ((n + 1 : Nat) : Int) := by unfold wrap64; omega
        by_cases h48 : c = 48
        · have hce : ((c.toNat : Int) == 48) = true := by rw [h48]; rfl
          have H5 := Aside0.mk (show unst (s.data.toList.drop (k + 1)) 0 = some r3 from by have := H3.out; rw [if_pos h48] at this; exact this)
          go_wp2
          go_roundw
          case rel => exact ⟨k + 1, 0, acc ++ [c], r3, hlt, by omega, rfl, by rw [hkw], H5, H4, HI3, HB3⟩
          case measure => rw [hkw]; simp only [intOf, Int.toNat_natCast]; omega
        · have hce : ((c.toNat : Int) == 48) = false := by
            rw [beq_eq_false_iff_ne]
            intro z
            exact h48 (UInt8.toNat_inj.1 (by show c.toNat = 48; omega))
          have H5 := Aside0.mk (show unst (s.data.toList.drop (k + 1)) (n + 1) = some r3 from by have := H3.out; rw [if_neg h48] at this; exact this)
          go_wp2
          go_roundw
          case rel => exact ⟨k + 1, n + 1, acc ++ [c], r3, hlt, by omega, by first | rfl | rw [hnw], by rw [hkw], H5, H4, HI3, HB3⟩
          case measure => rw [hkw]; simp only [intOf, Int.toNat_natCast]; omega
    · obtain rfl : k = s.size := by omega
      have hlb : decide ((s.size : Int) < (s.size : Int)) = false := decide_eq_false (by omega)
      have hA := HA.out
      rw [List.drop_eq_nil_of_le (by rw [data_length]; exact Nat.le_refl _), unst] at hA
      have h5 : ¬ n = 5 := fun z => by rw [if_pos z] at hA; cases hA
      rw [if_neg h5] at hA
      have HR := Aside0.mk (show acc = r from by rw [← HE.out.1, ← Option.some.inj hA]; simp)
      have hnb : ((n : Int) == 5) = false := by rw [beq_eq_false_iff_ne]; omega
      have HBS := Aside0.mk (below_size HB.out)
      clear hA
      go_wp2_with (go_at_call 32; refine (Tryd.Builder_String_any w.heap.size w.heap.size acc _ HI.out HBS.out).mono ?_)
      rintro e w3 ⟨rfl, hb3⟩
      have HB3 := Aside0.mk (HB.out.trans hb3)
      clear hb3
      go_wp2
      go_ret2
      exact ⟨by rw [HR.out]; rfl, HB3.out⟩
theorem info_str : (Tryd.prog.info? 9).map (fun i => (i.zero, i.size, i.bytes)) = some (some (.string ByteArray.empty), 1, 16) := by kernel_rfl
theorem wrapL_bin (t : List UInt8) (h : BinL t) : BinL (wrapL t) := by
  intro c hc
  unfold wrapL at hc
  rcases List.mem_append.1 hc with z | z
  · rcases List.mem_append.1 z with y | y
    · have : ∀ x ∈ flagL, x = 48 ∨ x = 49 := by decide
      exact this c y
    · exact h c y
  · have : ∀ x ∈ flagL, x = 48 ∨ x = 49 := by decide
    exact this c z
theorem wrapL_length (t : List UInt8) : (wrapL t).length = t.length + 16 := by simp [wrapL, flagL]
set_option maxHeartbeats 2000000 in
set_option maxRecDepth 100000 in
/-- Split of a wrapped text: one frame, none rejected. -/
theorem split_ok (t r : List UInt8) (ht : t ≠ []) (hun : unst t 0 = some r) (hok : okRun t 0) (hbin : BinL t) (hl : t.length ≤ 16000) (m : Int) (w : World) (hm : w.cell? ⟨1, 0, none⟩ = some (.int .i64 m)) :
    Calls Tryd.prog 11 #[.string (bs (wrapL t))] w fun e w' => ∃ A c, e = .returned (.tuple #[.slice (some A) 1 c, .int .i64 0, .int .i64 0]) ∧ w'.cell? A = some (.string ⟨r.toArray⟩) ∧ Below w.heap.size w w' := by
  have hsz : (bs (wrapL t)).size = t.length + 16 := by rw [bs_size, wrapL_length]
  obtain ⟨kg, hkg⟩ := good_ok (bs (wrapL t)) (wrapL_bin t hbin) 32768 (by omega) (by omega)
  obtain ⟨hc, hsp⟩ := split_wrap t hok
  go_enter Tryd.func11, Tryd.ntmps11
  go_wp2_with fail
  refine (Q.stuff_good.calls kg (bs (wrapL t)) 32768 0 _ hkg).mono ?_
  rintro e w1 ⟨rfl, hd⟩
  have hb1 : Below w.heap.size w w1 := hd.below
  have HB1 := Aside0.mk hb1
  have hm1 : w1.cell? ⟨1, 0, none⟩ = some (.int .i64 m) := (hb1.cell (World.block_lt_of_cell? w _ hm)).trans hm
  have hcon := Tryd.strings_Split (bs (wrapL t)) flagB m w1 (by omega) hm1 (by decide)
  rw [hc, hsp] at hcon
  clear hd hkg hb1 hm1 hc hsp hm
  go_wp2_with fail
  refine hcon.mono ?_
  rintro e w2 ⟨rfl, hw⟩
  have HB2 := Aside0.mk (show Below w.heap.size w w2 from by rw [hw]; exact below_alloc HB1.out _)
  have HC2 := Aside0.mk (show w2.heap[w1.heap.size]? = some (.cells #[.string (bs []), .string (bs t), .string (bs [])] 9 (0, 0)) from by rw [hw]; exact heap_alloc_new _ _)
  generalize w1.heap.size = g at HC2 ⊢
  clear hw hcon HB1
  have hc1 : w2.cell? ⟨g, 1, none⟩ = some (.string (bs t)) := (blk_cell HC2.out 1).trans rfl
  go_wp2
  go_loopw [7, 8, 29] (fun o b i w' => ∃ (k : Nat) (acc : List ByteArray), b = .int .i64 0 ∧ i = .int .i64 k ∧ Aside0 ((k = 0 ∧ acc = []) ∨ (k = 1 ∧ acc = [⟨r.toArray⟩])) ∧ Aside0 (Kd.R Kd.string 9 w' w2.heap.size (fun _ => True) o acc) ∧ Aside0 (Below w2.heap.size w2 w')) (fun _ _ i _ => 2 - (intOf i).toNat)
  case atStart => exact ⟨0, [], rfl, rfl, ⟨.inl ⟨rfl, rfl⟩⟩, ⟨Kd.R_nil _ _ _ _ _⟩, ⟨Below.refl _ _⟩⟩
  case round =>
    obtain ⟨k, acc, rfl, rfl, HK, HO, HB⟩ := hrel
    rcases HK.out with ⟨rfl, rfl⟩ | ⟨rfl, rfl⟩
    · have hc2 : wr.cell? ⟨g, 1, none⟩ = some (.string (bs t)) := (HB.out.cell (World.block_lt_of_cell? w2 _ hc1)).trans hc1
      have hne : ¬ (bs t).toList = ([] : List UInt8) := fun z => by
        rw [ByteArray.toList_eq] at z
        exact ht (by simpa [bs] using z)
      have hne2 : ((bs t).toList == ([] : List UInt8)) = false := by simpa using hne
      go_wp2_with (fail)
      refine (unstuff_ok (bs t) r (by rw [bs_size]; omega) hun wr).mono ?_
      rintro e w3 ⟨rfl, hb⟩
      have HO3 := Aside0.mk (Kd.R_below HO.out hb)
      have HB3 := Aside0.mk (below_step HB.out hb)
      clear hb HO HB HK hc2
      go_wp2_with (first | ((with_reducible refine gate_builtin (b := .append) (xs := #[.tmp 42, .tmp 44]) rfl ?_); at_builtin; refine Kd.R_append Kd.string (w0 := w2) w2.heap.size rfl (.tmp 42) (.tmp 44) 33 9 (.string ByteArray.empty) 16 rfl Tryd.underlying33 info_str rfl (by decide) (by omega) u7 [] ⟨r.toArray⟩ [.string ⟨r.toArray⟩] (fun _ => True) (fun _ => False) rfl rfl ?aP (fun _ hk => hk.elim) (fun _ _ => trivial) HO3.out HB3.out (below_size HB3.out) ?aL ?_; (case aP => exact rfl); (case aL => simp); intro v1 w5 ho hb hg hat; have HO5 := Aside0.mk ho; have HB5 := Aside0.mk hb; clear ho hb hg hat))
      go_roundw
      case rel => exact ⟨1, [⟨r.toArray⟩], rfl, rfl, ⟨.inr ⟨rfl, rfl⟩⟩, HO5, HB5⟩
      case measure => simp [intOf]
    · obtain ⟨A, c, hv, _, _, _, _⟩ := Kd.R_form HO.out (by simp)
      subst hv
      obtain ⟨ad, hae, hcell⟩ := Kd.at_string (Kd.R_reads' HO.out).2.2 0 (by decide) (by simp)
      obtain rfl := Option.some.inj hae
      have hfin : wr.cell? ⟨A, 0, none⟩ = some (.string ⟨r.toArray⟩) := hcell
      clear hcell hae
      go_wp2
      go_ret3
      exact Exists.intro (⟨A, 0, none⟩ : Addr) (And.intro (Exists.intro c rfl) (And.intro hfin (below_step HB2.out HB.out)))
end Go.Proofs.YtkdncfbbhbmaaaaDoor.Ext
namespace Go.Proofs.YtkdncfbbhbmaaaaDoor.Q
open Go.RowKit Go.Proofs.YtkdncfbbhbmaaaaDoorW.PrintWords Go.Proofs.YtkdncfbbhbmaaaaDoorW.PrintLast Go.Proofs.YtkdncfbbhbmaaaaDoorW.PrintMore
attribute [local go_sem] max2_int min2_int max_two min_two max_three min_three max_four min_four   -- for this text's walks alone
set_option linter.unusedVariables false
set_option linter.unusedSimpArgs false

/-! ### quint_word: function 28 -/
def quint_word.l0 : Nat → Int → List Int → Int → Int → Option (ByteArray)
  | 0, _, _, _, _ => none
  | k + 1, x0, x3, x7, x8 => if x8 < x7 then (if 0 ≤ (wrap64 (4 - x8)) then (if 0 ≤ x8 then (if x8 < (x3.length : Int) then (quint_word.l0 k x0 (x3.set (x8 : Int).toNat ((48 + ((Go.bits .and .i64 (shr .i64 x0 (wrap64 (4 - x8))) 1) % 256)) % 256)) x7 (wrap64 (x8 + 1))) else (none)) else (none)) else (none)) else (some (strOfNums x3))
def quint_word.f (k : Nat) (a0 : Int) : Option (ByteArray) := if 5 ≤ 281474976710656 then ((some (List.replicate 5 0 : List Int)).bind fun y124 => (quint_word.l0 k a0 y124 (y124.length : Int) 0)) else (none)
theorem quint_word.mono_l : ∀ k, (∀ y0 y1 y2 y3, LeO (quint_word.l0 k y0 y1 y2 y3) (quint_word.l0 (k + 1) y0 y1 y2 y3))
  | 0 => fun _ _ _ _ r h => by simp [quint_word.l0] at h
  | k + 1 => by
    have ih0 := quint_word.mono_l k
    · intro y0 y1 y2 y3
      unfold quint_word.l0
      repeat' first
      | (with_reducible exact ih0 _ _ _ _)
      | (with_reducible exact LeO.refl _)
      | (with_reducible exact LeO.none _)
      | (with_reducible refine LeO.ite ?_ ?_)
      | (with_reducible refine LeO.bind ?_ (fun _ => ?_))
      | exact ih0 _ _ _ _
      | exact LeO.none _
      | refine LeO.ite ?_ ?_
      | refine LeO.bind ?_ (fun _ => ?_)
theorem quint_word.mono : ∀ a0 k, LeO (quint_word.f k a0) (quint_word.f (k + 1) a0) := by
  intro a0 k
  have ih0 := quint_word.mono_l k
  unfold quint_word.f
  repeat' first
      | (with_reducible exact ih0 _ _ _ _)
      | (with_reducible exact LeO.refl _)
      | (with_reducible exact LeO.none _)
      | (with_reducible refine LeO.ite ?_ ?_)
      | (with_reducible refine LeO.bind ?_ (fun _ => ?_))
      | exact ih0 _ _ _ _
      | exact LeO.none _
      | refine LeO.ite ?_ ?_
      | refine LeO.bind ?_ (fun _ => ?_)
set_option maxHeartbeats 8000000 in
set_option maxRecDepth 100000 in
theorem quint_word.calls (k : Nat) (a0 : Int) (r : ByteArray) (w : World) (h : quint_word.f k a0 = some r) :
    Calls Tryd.prog 28 #[.int .i64 a0] w fun e w' => e = .returned (.string r) ∧ Below w.heap.size w w' := by
  have HB := Aside0.mk (Below.refl w.heap.size w)
  have H : (if 5 ≤ 281474976710656 then ((some (List.replicate 5 0 : List Int)).bind fun y124 => (quint_word.l0 k a0 y124 (y124.length : Int) 0)) else (none)) = some r := h
  clear h
  by_cases c2 : 5 ≤ 281474976710656
  · rw [if_pos c2] at H
    have c2b0 := eq_true c2
    try (have c2b0q := c2b0; simp only [ByteArray.size_append, ByteArray.size_extract, Nat.min_self, Nat.sub_zero, Int.natCast_add] at c2b0q)
    have c2b1 : decide (5 ≤ 281474976710656) = true := decide_eq_true c2
    clear c2
    obtain ⟨y124, hy124⟩ : ∃ y_ : List Int, y_ = (List.replicate 5 0) := ⟨_, rfl⟩
    replace H : (quint_word.l0 k a0 y124 (y124.length : Int) 0) = some r := by first | (rw [hy124]; with_reducible exact H) | (have H2_ := (Option.bind_some _ _).symm.trans H; rw [hy124]; with_reducible exact H2_) | (have H2_ := (Option.bind_some _ _).symm.trans H; with_reducible exact H2_) | with_reducible exact H | (rw [hy124]; exact H) | exact H
    have Ny124 := Aside0.mk hy124
    clear hy124
    have H' := Aside0.mk H
    clear H
    go_enter Tryd.func28, Tryd.ntmps28
    go_wp2_with (first | ((with_reducible refine gate_dst (N := 5) rfl ?_); refine Kd.R_make (Kd.int .u8) _ 5 rfl (N := 5) rfl 44 _ _ rfl 5 rfl rfl Tryd.underlying44 (.int .u8 0) 1 info5 rfl (by decide) (by omega) 0 (ok := fun _ => True) (okp := fun _ => True) rfl (fun _ hk => hk) trivial (by omega) (by omega) (Below.refl _ _) (Nat.le_refl _) ?_; intro v125 w3 ho4 hb hg_ hnew_; clear hg_ hnew_; (first | rw [← Ny124.out] at ho4 | (simp only [Int.reduceToNat] at ho4; rw [← Ny124.out] at ho4)); have n0_ := Aside0.mk (Kd.R_lower ho4 (below_size (by repeat (first | (with_reducible first | exact HB.out | apply below_alloc | apply pw_below_drewN | apply below_drew1) | exact HB.out)))); have n1_ := Aside0.mk (below_step (by repeat (first | (with_reducible first | exact HB.out | apply below_alloc | apply pw_below_drewN | apply below_drew1) | exact HB.out)) hb); clear HB; have HO126 := n0_; have HB := n1_; clear n0_ n1_; clear hb ho4; obtain ⟨Ao5, co5, eo5⟩ := Kd.R_slice HO126.out; subst eo5))
    go_loopg [8] k (fun kq v8 w' => ∃ (x3_1 : List Int) (x8_1 : Int), v8 = .int .i64 x8_1 ∧ Aside0 (quint_word.l0 kq a0 x3_1 (y124.length : Int) x8_1 = some r) ∧ Aside0 (kq ≤ k) ∧ Aside0 (Kd.R (Kd.int .u8) 5 w' w.heap.size (fun _ => True) (.slice Ao5 y124.length co5) x3_1) ∧ Aside0 (Below w.heap.size w w'))
    case atStart => exact ⟨(y124), (0), (by first | rfl | (simp; done) | (simp [*]; done)), H', ⟨Nat.le_refl _⟩, ⟨by (with_reducible repeat (first | apply Kd.R_alloc | apply Kd.R_drewN | apply Kd.R_drew)); exact HO126.out⟩, ⟨by repeat (first | (with_reducible first | exact HB.out | apply below_alloc | apply pw_below_drewN | apply below_drew1) | exact HB.out)⟩⟩
    case round =>
      clear H'
      try clear c2
      try clear c2b0
      try clear c2b1
      try clear p2
      obtain ⟨x3_1, x8_1, rfl, HA, HK1, HO_3, HB⟩ := hrel
      have hl3_1 := (Kd.R_reads' HO_3.out).1
      rw [hl3_1] at HO_3
      (try simp only [hl3_1])
      cases gk with
      | zero => exact absurd HA.out (by simp [quint_word.l0])
      | succ k1 =>
        have H := HA.out
        clear HA
        simp only [quint_word.l0] at H
        by_cases c6 : x8_1 < (y124.length : Int)
        · rw [if_pos c6] at H
          have c6b0 : decide (x8_1 < (y124.length : Int)) = true := decide_eq_true c6
          (try simp only [hl3_1] at c6b0)
          clear c6
          obtain ⟨ji7, hji7⟩ : ∃ j_ : Int, (wrap64 (4 - x8_1)) = j_ := ⟨_, rfl⟩
          replace H : (if 0 ≤ (ji7) then (if 0 ≤ x8_1 then (if x8_1 < (x3_1.length : Int) then (quint_word.l0 k1 a0 (x3_1.set (x8_1 : Int).toNat ((48 + ((Go.bits .and .i64 (shr .i64 a0 (ji7)) 1) % 256)) % 256)) (y124.length : Int) (wrap64 (x8_1 + 1))) else (none)) else (none)) else (none)) = some r := by first | (rw [hji7] at H; exact H) | (simp only [hji7] at H ⊢; exact H)
          have hji7w : (IntKind.i64.wrap (4 - x8_1)) = ji7 := (i64_w _).trans hji7
          by_cases c8 : 0 ≤ (ji7)
          · rw [if_pos c8] at H
            have c8b0 := eq_true c8
            try (have c8b0q := c8b0; simp only [ByteArray.size_append, ByteArray.size_extract, Nat.min_self, Nat.sub_zero, Int.natCast_add] at c8b0q)
            (try simp only [hl3_1] at c8b0)
            have c8b1 : decide (0 ≤ (ji7)) = true := decide_eq_true c8
            (try simp only [hl3_1] at c8b1)
            clear c8
            obtain ⟨ji9, hji9⟩ : ∃ j_ : Int, (shr .i64 a0 (ji7)) = j_ := ⟨_, rfl⟩
            replace H : (if 0 ≤ x8_1 then (if x8_1 < (x3_1.length : Int) then (quint_word.l0 k1 a0 (x3_1.set (x8_1 : Int).toNat ((48 + ((Go.bits .and .i64 (ji9) 1) % 256)) % 256)) (y124.length : Int) (wrap64 (x8_1 + 1))) else (none)) else (none)) = some r := by first | (rw [hji9] at H; exact H) | (simp only [hji9] at H ⊢; exact H)
            have hji9_ : (a0 / 2 ^ min (ji7).toNat 64) = ji9 := hji9
            have hji9z : (ji7) ≤ 64 → (a0 / 2 ^ (ji7).toNat) = ji9 := shr_small hji9
            by_cases c10 : 0 ≤ x8_1
            · rw [if_pos c10] at H
              have c10b0 : decide (0 ≤ x8_1) = true := decide_eq_true c10
              (try simp only [hl3_1] at c10b0)
              clear c10
              by_cases c11 : x8_1 < (x3_1.length : Int)
              · rw [if_pos c11] at H
                have c11b0 : decide (x8_1 < (x3_1.length : Int)) = true := decide_eq_true c11
                (try simp only [hl3_1] at c11b0)
                clear c11
                obtain ⟨y127, hy127⟩ : ∃ y_ : List Int, y_ = (x3_1.set (x8_1 : Int).toNat ((48 + ((Go.bits .and .i64 (ji9) 1) % 256)) % 256)) := ⟨_, rfl⟩
                replace H : (quint_word.l0 k1 a0 y127 (y124.length : Int) (wrap64 (x8_1 + 1))) = some r := by first | (rw [hy127]; with_reducible exact H) | (have H2_ := (Option.bind_some _ _).symm.trans H; rw [hy127]; with_reducible exact H2_) | (have H2_ := (Option.bind_some _ _).symm.trans H; with_reducible exact H2_) | with_reducible exact H | (rw [hy127]; exact H) | exact H
                have Ny127 := Aside0.mk hy127
                clear hy127
                have H' := Aside0.mk H
                clear H
                have p12 : 0 ≤ (x8_1 : Int) := of_decide_eq_true (by first | (with_reducible assumption) | assumption)
                have q12 : (x8_1 : Int) < ((x3_1.length : Int) : Int) := of_decide_eq_true (by first | (with_reducible assumption) | assumption)
                obtain ⟨go12, co12, eo12, gb12, gl12, cl12, HG12⟩ := Kd.R_form HO_3.out (by omega)
                (first | cases eo12 | (injection eo12 with ea_ en_ ec_; (first | subst ea_ | (injection ea_ with ea_; subst ea_)); subst ec_; clear en_))
                have GB12 := Aside0.mk gb12
                have GG12 := Aside0.mk HG12
                clear gb12 gl12 HG12
                obtain ⟨hx12_0, hf12_0⟩ := Kd.R_celln 0 HO_3.out (x8_1 : Int) p12 q12
                replace p12 := eq_true p12
                replace q12 := eq_true q12
                have HP13 := Kd.R_putg HO_3.out (x8_1 : Int) ((48 + ((Go.bits .and .i64 (ji9) 1) % 256)) % 256)
                go_wp2_with (first | ((with_reducible refine gate_store (t := 5) (p := 20) rfl ?_); refine store_event (t := 5) (p := 20) (v := ?vo_w14) (w1 := (wr.setCell ⟨go12, (x8_1 : Int).toNat, none⟩ (.int .u8 ((48 + ((Go.bits .and .i64 (ji9) 1) % 256)) % 256)))) ?hg ?ho ?hn ?hr ?_; (case ho => rfl); (case hg => rfl); (case hn => rfl); (case hr => first | (go_simp; done) | (go_simp; rfl)); intro w14 hw; have hg : wr.grownBy w14 (some go12) := (by rw [hw]; exact HP13.2); have hp_ : Kd.R (Kd.int .u8) 5 w14 w.heap.size (fun _ => True) (.slice (some ⟨go12, 0, none⟩) x3_1.length co5) y127 := (by rw [hw, Ny127.out]; exact HP13.1); clear HP13; have n0_ := Aside0.mk (hp_); have n1_ := Aside0.mk ((by rw [hw]; exact below_set (HB.out) GB12.out : Below w.heap.size w w14)); clear HO_3; clear HB; have HO_3 := n0_; have HB := n1_; clear n0_ n1_; clear hg hw hp_))
                (try simp only [← hl3_1])
                go_roundg k1
                case measure => have := HK1.out; omega
                case rel => exact ⟨(y127), (wrap64 (x8_1 + 1)), (by first | rfl | (simp; done) | (simp [*]; done)), H', ⟨by have := HK1.out; omega⟩, ⟨by (try simp only [hl3_1]); (with_reducible repeat (first | apply Kd.R_alloc | apply Kd.R_drewN | apply Kd.R_drew)); exact HO_3.out⟩, ⟨by repeat (first | (with_reducible first | exact HB.out | apply below_alloc | apply pw_below_drewN | apply below_drew1) | exact HB.out)⟩⟩
              · rw [if_neg c11] at H
                exact absurd H (by simp)
            · rw [if_neg c10] at H
              exact absurd H (by simp)
          · rw [if_neg c8] at H
            exact absurd H (by simp)
        · rw [if_neg c6] at H
          have c6b0 : decide (x8_1 < (y124.length : Int)) = false := decide_eq_false c6
          (try simp only [hl3_1] at c6b0)
          clear c6
          obtain rfl := Option.some.inj H
          have hcv15 := own_string (P := Tryd.prog) Tryd.underlying44 Tryd.underlying5 Tryd.underlying9 (Kd.own_of_R HO_3.out)
          go_wp2
          go_ret
          exact ⟨by first | rfl | (simp [errW_none, errW_some] <;> rfl) | (simp [*, errW_none, errW_some] <;> rfl), by repeat (first | (with_reducible first | exact HB.out | apply below_alloc | apply pw_below_drewN | apply below_drew1) | exact HB.out)⟩
  · rw [if_neg c2] at H
    exact absurd H (by simp)

end Go.Proofs.YtkdncfbbhbmaaaaDoor.Q
namespace Go.Proofs.YtkdncfbbhbmaaaaDoor.Ext
open Go.RowKit Go.Proofs.YtkdncfbbhbmaaaaDoorW.PrintWords Go.Proofs.YtkdncfbbhbmaaaaDoorW.PrintLast Go.Proofs.YtkdncfbbhbmaaaaDoorW.PrintMore Go.Proofs.YtkdncfbbhbmaaaaDoor.Br Go.Proofs.YtkdncfbbhbmaaaaDoor.K
set_option linter.unusedVariables false
set_option linter.unusedSimpArgs false
theorem word_l0 (x : Int) (m : Nat) : ∀ (i : Nat) (l : List Int), i + m = 5 → l.length = 5 → ∃ r : ByteArray, Ev (fun k => Q.quint_word.l0 k x l 5 (i : Int)) r ∧ r.size = 5 := by
  induction m with
  | zero =>
    intro i l hi hl
    refine ⟨strOfNums l, Ev.step (f := fun _ => some (strOfNums l)) (fun k => ?_) (Ev.now _), by rw [size_str, hl]⟩
    rw [Q.quint_word.l0, if_neg (by omega)]
  | succ m ih =>
    intro i l hi hl
    have hw : wrap64 ((i : Int) + 1) = ((i + 1 : Nat) : Int) := by unfold wrap64; omega
    have hs : (0 : Int) ≤ wrap64 (4 - (i : Int)) := by unfold wrap64; omega
    obtain ⟨r, hr, hz⟩ := ih (i + 1) (l.set (i : Int).toNat ((48 + ((Go.bits .and .i64 (shr .i64 x (wrap64 (4 - (i : Int)))) 1) % 256)) % 256)) (by omega) (by rw [List.length_set]; exact hl)
    refine ⟨r, Ev.step (fun k => ?_) hr, hz⟩
    simp only [Q.quint_word.l0]
    rw [if_pos (by omega), if_pos hs, if_pos (by omega), if_pos (by omega), hw]
theorem word_ok (x : Int) : ∃ (k : Nat) (r : ByteArray), Q.quint_word.f k x = some r ∧ r.size = 5 := by
  obtain ⟨r, hr, hz⟩ := word_l0 x 5 0 (List.replicate 5 0) (by omega) (by simp)
  obtain ⟨k, hk⟩ := hr.rounds
  refine ⟨k, r, ?_, hz⟩
  unfold Q.quint_word.f
  rw [if_pos (by decide)]
  exact hk
/-- The table of the code words lies where it lies, and holds numbers. -/
def WordsLie (w : World) : Prop := ∀ i : Nat, i < 16 → ∃ x : Int, w.cell? ⟨0, i, none⟩ = some (.int .i64 x)
theorem WordsLie.below {w w1 : World} (h : WordsLie w) (hb : Below w.heap.size w w1) : WordsLie w1 := fun i hi => by
  obtain ⟨x, hx⟩ := h i hi
  exact ⟨x, (hb.cell (World.block_lt_of_cell? w _ hx)).trans hx⟩
set_option maxHeartbeats 2000000 in
set_option maxRecDepth 100000 in
theorem quint_ok (s : ByteArray) (hs : s.size ≤ 100) (w : World) (hw : WordsLie w) :
    Calls Tryd.prog 14 #[.string s] w fun e w' => ∃ z : ByteArray, e = .returned (.tuple #[.string z, .int .i64 0]) ∧ z.size = 10 * s.size ∧ Below w.heap.size w w' := by
  have HW := Aside0.mk hw
  have HL := Aside0.mk hs
  have hgt : decide (1500 < (s.size : Int)) = false := decide_eq_false (by omega)
  obtain ⟨cap, hcap, hcp⟩ : ∃ c : Nat, wrap64 (10 * (s.size : Int)) = (c : Int) ∧ c ≤ 1000 := ⟨10 * s.size, by unfold wrap64; omega, by omega⟩
  have hmk := fun W : World => run_make_room (P := Tryd.prog) 44 5 (.int .u8 0) 1 Tryd.underlying44 infoU rfl .i64 .i64 cap (by omega) (by omega) W
  have HCP := Aside0.mk hcp
  clear hcp hw hs
  go_enter Tryd.func14, Tryd.ntmps14
  go_wp2
  have HO := Aside0.mk (show (w.alloc (Obj.cells (madeCells #[Value.int IntKind.u8 0] cap) 5)).ownsRow w.heap.size 5 1 (.slice (some ⟨w.heap.size, 0, none⟩) 0 cap) ([] : List Int).length (nums .u8 ([] : List Int)) from World.ownsRow_made w _ cap (Nat.le_refl _) (by have := HCP.out; simp [maxLen]; omega) ((size_madeCells _ _).trans (Nat.mul_one cap).symm))
  have HB := Aside0.mk (below_alloc (Below.refl w.heap.size w) (Obj.cells (madeCells #[Value.int IntKind.u8 0] cap) 5))
  generalize w.alloc (Obj.cells (madeCells #[Value.int IntKind.u8 0] cap) 5) = w2 at HO HB ⊢
  generalize (Value.slice (some ⟨w.heap.size, 0, none⟩) 0 cap) = v0 at HO ⊢
  clear hmk hcap
  go_loopw [4, 15] (fun o i w' => ∃ (k : Nat) (acc : List Int), k ≤ s.size ∧ i = .int .i64 k ∧ Aside0 (acc.length = 10 * k) ∧ Aside0 (w'.ownsRow w.heap.size 5 1 o acc.length (nums .u8 acc)) ∧ Aside0 (Below w.heap.size w w')) (fun _ i _ => s.size - (intOf i).toNat)
  case atStart => exact ⟨0, [], Nat.zero_le _, rfl, ⟨rfl⟩, HO, HB⟩
  case round =>
    clear HO HB
    obtain ⟨k, acc, hk, rfl, HA, HO, HB⟩ := hrel
    by_cases hlt : k < s.size
    · have hlb : decide ((k : Int) < (s.size : Int)) = true := decide_eq_true (by omega)
      have p0 : (0 : Int) ≤ (k : Int) := by omega
      have q0 : (k : Int) < (s.size : Int) := by omega
      have hkw : wrap64 ((k : Int) + 1) = ((k + 1 : Nat) : Int) := by unfold wrap64; have := HL.out; omega
      obtain ⟨b, hb⟩ : ∃ b : Nat, s[k].toNat = b := ⟨_, rfl⟩
      have hb256 : b < 256 := by rw [← hb]; exact UInt8.toNat_lt _
      obtain ⟨x1, hx1, h1l⟩ : ∃ x : Nat, ((b : Int) / 16) = (x : Int) ∧ x < 16 := ⟨b / 16, by omega, by omega⟩
      obtain ⟨x2, hx2, h2l⟩ : ∃ x : Nat, Go.bits .and .u8 (b : Int) 15 = (x : Int) ∧ x < 16 := ⟨b % 16, by rw [u8_and15 _ (by omega) (by omega)]; omega, by omega⟩
      have HX2 := Aside0.mk h2l
      obtain ⟨n1, hn1⟩ := (HW.out.below HB.out) x1 h1l
      obtain ⟨k1, r1, hr1, hz1⟩ := word_ok n1
      have HZ1 := Aside0.mk hz1
      have c0 : (0 : Int) ≤ (x1 : Int) := by omega
      have c1 : (x1 : Int) < 16 := by omega
      have c2 : x1 < 16 := h1l
      clear hb256 hz1
      go_wp2_with (go_at_call 28; refine (Q.quint_word.calls k1 n1 r1 _ hr1).mono ?_)
      rintro e w3 ⟨rfl, hb3⟩
      have HO3 := Aside0.mk (pw_own_below HO.out hb3)
      have HB3 := Aside0.mk (below_step HB.out hb3)
      clear hb3 HO HB hn1 hr1 c0 c1 c2
      simp only []
      refine (‹∀ (a : Act) (w : World), wpList _ _ _ _ a w → _› _ _ ?_)
      refine print_append_str (w0 := w) w.heap.size rfl (.tmp 18) (.tmp 25) 44 9 5 rfl Tryd.underlying44 Tryd.underlying9 infoU u4 acc r1 (by rfl) (by rfl) HO3.out HB3.out (below_size HB3.out) (by have := HA.out; have := HL.out; have := HZ1.out; omega) ?_
      intro v1 w4 ho hb hg
      have HO4 := Aside0.mk ho
      have HB4 := Aside0.mk hb
      clear ho hb hg
      obtain ⟨n2, hn2⟩ := (HW.out.below HB4.out) x2 HX2.out
      have d0 : (0 : Int) ≤ (x2 : Int) := by omega
      have d1 : (x2 : Int) < 16 := by have := HX2.out; omega
      have d2 : x2 < 16 := HX2.out
      obtain ⟨k2, r2, hr2, hz2⟩ := word_ok n2
      have HZ2 := Aside0.mk hz2
      clear hz2
      go_wp2_with (go_at_call 28; refine (Q.quint_word.calls k2 n2 r2 _ hr2).mono ?_)
      rintro e w5 ⟨rfl, hb5⟩
      have HO5 := Aside0.mk (pw_own_below HO4.out hb5)
      have HB5 := Aside0.mk (below_step HB4.out hb5)
      clear hb5 hn2 hr2 d0 d1 d2
      simp only []
      refine (‹∀ (a : Act) (w : World), wpList _ _ _ _ a w → _› _ _ ?_)
      refine print_append_str (w0 := w) w.heap.size rfl (.tmp 27) (.tmp 34) 44 9 5 rfl Tryd.underlying44 Tryd.underlying9 infoU v1 (acc ++ bytesOf r1) r2 (by rfl) (by rfl) HO5.out HB5.out (below_size HB5.out) (by rw [List.length_append, bytesOf_length]; have := HA.out; have := HL.out; have := HZ1.out; have := HZ2.out; omega) ?_
      intro v1 w6 ho hb hg
      have HO6 := Aside0.mk ho
      have HB6 := Aside0.mk hb
      clear ho hb hg
      go_wp2
      go_roundw
      case rel => exact ⟨k + 1, (acc ++ bytesOf r1) ++ bytesOf r2, hlt, by rw [hkw], ⟨by rw [List.length_append, List.length_append, bytesOf_length, bytesOf_length, HA.out, HZ1.out, HZ2.out]; omega⟩, HO6, HB6⟩
      case measure => rw [hkw]; simp only [intOf, Int.toNat_natCast]; omega
    · obtain rfl : k = s.size := by omega
      have hlb : decide ((s.size : Int) < (s.size : Int)) = false := decide_eq_false (by omega)
      have hR : (Kd.int .u8).R 5 wr w.heap.size (fun _ => True) u4 acc := Kd.R_of_own HO.out (fun _ _ => trivial)
      obtain ⟨A8, c8, rfl⟩ := Kd.R_slice hR
      have hcv := string_of_reads (P := Tryd.prog) (src := 44) (dst := 9) (c := c8) Tryd.underlying44 Tryd.underlying5 Tryd.underlying9 (Kd.reads_of_C (enc := Value.int .u8) (d := (0 : Int)) (h1 := fun _ => rfl) (Kd.R_reads' hR).2.2)
      have HSZ := Aside0.mk (show (strOfNums acc).size = 10 * s.size from by rw [size_str, HA.out])
      clear hR
      go_wp2
      go_ret2
      exact ⟨strOfNums acc, rfl, HSZ.out, HB.out⟩
set_option maxHeartbeats 2000000 in
set_option maxRecDepth 100000 in
theorem wire_ok (w : World) (hw : WordsLie w) : Calls Tryd.prog 4 #[] w fun e w' => e = .returned (.bool true) ∧ Below w.heap.size w w' := by
  have hz : Fr.good ⟨0, 0, 0, 0, []⟩ := ⟨⟨by decide, by decide, by decide, by decide, by decide, by decide⟩, by decide⟩
  have he : Q.frame_Encode.f (0 + 10) 0 0 0 0 (⟨#[]⟩ : ByteArray) = some (mkB (encL ⟨0, 0, 0, 0, []⟩), 0) := encode_ok 0 ⟨0, 0, 0, 0, []⟩ hz
  have hs : (mkB (encL ⟨0, 0, 0, 0, []⟩)).size = 64 := by rw [mk_size, encL_length]; decide
  generalize mkB (encL ⟨0, 0, 0, 0, []⟩) = x at he hs
  go_enter Tryd.func4, Tryd.ntmps4
  go_wp2_with fail
  refine (Q.frame_Encode.calls _ _ _ _ _ _ _ _ _ he).mono ?_
  rintro e w1 ⟨rfl, hb1⟩
  have hs1 : ((x.size : Int) != 64) = false := by rw [hs]; rfl
  go_wp2_with fail
  refine (quint_ok x (by omega) w1 (hw.below hb1)).mono ?_
  rintro e w2 ⟨z, rfl, hz2, hb2⟩
  have hs2 : ((z.size : Int) == 640) = true := by rw [hz2, hs]; rfl
  go_wp2
  go_ret
  exact ⟨rfl, below_step hb1 hb2⟩
end Go.Proofs.YtkdncfbbhbmaaaaDoor.Ext
namespace Go.Proofs.YtkdncfbbhbmaaaaDoor.Ext
open Go.RowKit Go.Proofs.YtkdncfbbhbmaaaaDoorW.PrintWords Go.Proofs.YtkdncfbbhbmaaaaDoorW.PrintLast Go.Proofs.YtkdncfbbhbmaaaaDoorW.PrintMore Go.Proofs.YtkdncfbbhbmaaaaDoor.Br Go.Proofs.YtkdncfbbhbmaaaaDoor.K Go.Proofs.YtkdncfbbhbmaaaaDoor.St
attribute [local go_sem] max2_int min2_int max_two min_two max_three min_three max_four min_four
set_option linter.unusedVariables false
set_option linter.unusedSimpArgs false
def FrameBox (w : World) (g : Nat) (d s t y : Int) (x : ByteArray) : Prop := w.heap[g]? = some (.cells #[.int .i64 d, .int .i64 s, .int .i64 t, .int .i64 y, .string x] 23 (0, 0))
def MaxLies (w : World) : Prop := ∃ m : Int, w.cell? ⟨1, 0, none⟩ = some (.int .i64 m)
theorem MaxLies.below {w w1 : World} (h : MaxLies w) (hb : Below w.heap.size w w1) : MaxLies w1 := by
  obtain ⟨m, hm⟩ := h
  exact ⟨m, (hb.cell (World.block_lt_of_cell? w _ hm)).trans hm⟩
def put5 (w : World) (g : Nat) (d s t y : Int) (x : ByteArray) : World := ((((w.setCell ⟨g, 0, none⟩ (.int .i64 d)).setCell ⟨g, 1, none⟩ (.int .i64 s)).setCell ⟨g, 2, none⟩ (.int .i64 t)).setCell ⟨g, 3, none⟩ (.int .i64 y)).setCell ⟨g, 4, none⟩ (.string x)
theorem box_put5 {w : World} {g : Nat} {d s t y : Int} {x : ByteArray} (h : FrameBox w g d s t y x) (d2 s2 t2 y2 : Int) (x2 : ByteArray) : FrameBox (put5 w g d2 s2 t2 y2 x2) g d2 s2 t2 y2 x2 := by
  unfold FrameBox put5
  refine blk_put (cs := #[.int .i64 d2, .int .i64 s2, .int .i64 t2, .int .i64 y2, .string x]) ?_ 4 _ rfl
  refine blk_put (cs := #[.int .i64 d2, .int .i64 s2, .int .i64 t2, .int .i64 y, .string x]) ?_ 3 _ rfl
  refine blk_put (cs := #[.int .i64 d2, .int .i64 s2, .int .i64 t, .int .i64 y, .string x]) ?_ 2 _ rfl
  refine blk_put (cs := #[.int .i64 d2, .int .i64 s, .int .i64 t, .int .i64 y, .string x]) ?_ 1 _ rfl
  exact blk_put (cs := #[.int .i64 d, .int .i64 s, .int .i64 t, .int .i64 y, .string x]) h 0 _ rfl
theorem below_put5 {B g : Nat} {w0 w : World} (h : Below B w0 w) (hg : B ≤ g) (d s t y : Int) (x : ByteArray) : Below B w0 (put5 w g d s t y x) := ((((h.setCell hg _).setCell hg _).setCell hg _).setCell hg _).setCell hg _
set_option maxHeartbeats 4000000 in
set_option maxRecDepth 100000 in
theorem top_any (d s t y : Int) (x : ByteArray) (a1 a2 a3 : Int) (ch : ByteArray) (w : World) (hw : WordsLie w) (hm : MaxLies w) :
    Calls Tryd.prog 3 #[.agg #[.int .i64 d, .int .i64 s, .int .i64 t, .int .i64 y, .string x], .int .i64 a1, .int .i64 a2, .int .i64 a3, .string ch] w fun e w' => e = .returned (.bool true) ∧ Below w.heap.size w w' := by
  have hu := Tryd.underlying23
  obtain ⟨f, hf, hfb, hmk⟩ := frame_make d s t y x
  have HF := Aside0.mk hf
  have HMK := Aside0.mk hmk
  have hlen := encL_length f
  have hX : (mkB (encL f)).size ≤ 100 ∧ 64 ≤ (mkB (encL f)).size := by
    rw [mk_size, hlen]
    have := hf.1.2.2.2.2.2
    constructor
    · split <;> omega
    · omega
  have HX := Aside0.mk hX
  have he : Q.frame_Encode.f (0 + 10) f.d f.s f.t f.y (mkB f.b) = some (mkB (encL f), 0) := encode_ok 0 f hf
  have hde : Q.frame_Decode.f (0 + 11) (mkB (encL f)) = some ((f.d : Int), (f.s : Int), (f.t : Int), (f.y : Int), mkB f.b, 0) := decode_enc 0 f hf
  have HE := Aside0.mk he
  have HDE := Aside0.mk hde
  clear hf hmk hlen hX he hde hfb
  generalize mkB (encL f) = X at HE HDE HX
  generalize mkB f.b = fb at HE HDE HMK
  generalize (f.d : Int) = fd at HE HDE HMK
  generalize (f.s : Int) = fs at HE HDE HMK
  generalize (f.t : Int) = ft at HE HDE HMK
  generalize (f.y : Int) = fy at HE HDE HMK
  clear HF
  -- the depth
  have hdn := withinN_lt a1 64 (by decide)
  have hwd : Q.patchbaytop_aWithin.f a1 64 = some ((withinN a1 64 : Nat) : Int) := within_f a1 64 (by decide) (by decide)
  generalize withinN a1 64 = d0 at hdn hwd
  have hd1 : wrap64 (1 + (d0 : Int)) = ((d0 + 1 : Nat) : Int) := by unfold wrap64; omega
  obtain ⟨D, hD⟩ : ∃ D, D = d0 + 1 := ⟨_, rfl⟩
  rw [← hD] at hd1
  have HD := Aside0.mk (show 1 ≤ D ∧ D ≤ 64 from by omega)
  have HWD := Aside0.mk hwd
  clear hwd hdn hD
  go_enter Tryd.func3, Tryd.ntmps3
  go_wp2_with fail
  refine (wire_ok _ (hw.below (below_alloc (Below.refl w.heap.size w) _))).mono ?_
  rintro e w1 ⟨rfl, hb1⟩
  have HK1 := Aside0.mk (show FrameBox w1 w.heap.size d s t y x from blk_below (heap_alloc_new _ _) hb1)
  have HB1 := Aside0.mk (below_step (below_alloc (Below.refl w.heap.size w) _) hb1)
  clear hb1
  have c0 : w1.cell? ⟨w.heap.size, 0, none⟩ = some (.int .i64 d) := (blk_cell HK1.out 0).trans rfl
  have c1 : w1.cell? ⟨w.heap.size, 1, none⟩ = some (.int .i64 s) := (blk_cell HK1.out 1).trans rfl
  have c2 : w1.cell? ⟨w.heap.size, 2, none⟩ = some (.int .i64 t) := (blk_cell HK1.out 2).trans rfl
  have c3 : w1.cell? ⟨w.heap.size, 3, none⟩ = some (.int .i64 y) := (blk_cell HK1.out 3).trans rfl
  have c4 : w1.cell? ⟨w.heap.size, 4, none⟩ = some (.string x) := (blk_cell HK1.out 4).trans rfl
  go_wp2_with fail
  refine (Q.patchbaytop_aFrame.calls _ _ _ _ _ _ _ _ _ _ _ HMK.out).mono ?_
  rintro e w2 ⟨rfl, hb2⟩
  have HK2 := Aside0.mk (show FrameBox w2 w.heap.size d s t y x from blk_below HK1.out hb2)
  have HB2 := Aside0.mk (below_step HB1.out hb2)
  clear hb2 c0 c1 c2 c3 c4 HK1 HB1
  have z0 := blk_frozen HK2.out 0
  have z1 := blk_frozen HK2.out 1
  have z2 := blk_frozen HK2.out 2
  have z3 := blk_frozen HK2.out 3
  have z4 := blk_frozen HK2.out 4
  have c0 : w2.cell? ⟨w.heap.size, 0, none⟩ = some (.int .i64 d) := (blk_cell HK2.out 0).trans rfl
  have c1 : w2.cell? ⟨w.heap.size, 1, none⟩ = some (.int .i64 s) := (blk_cell HK2.out 1).trans rfl
  have c2 : w2.cell? ⟨w.heap.size, 2, none⟩ = some (.int .i64 t) := (blk_cell HK2.out 2).trans rfl
  have c3 : w2.cell? ⟨w.heap.size, 3, none⟩ = some (.int .i64 y) := (blk_cell HK2.out 3).trans rfl
  have c4 : w2.cell? ⟨w.heap.size, 4, none⟩ = some (.string x) := (blk_cell HK2.out 4).trans rfl
  go_wp2_with fail
  refine (Q.patchbaytop_aWithin.calls a1 64 _ _ HWD.out).mono ?_
  rintro e w3 ⟨rfl, hd⟩
  have hb3 : Below (put5 w2 w.heap.size fd fs ft fy fb).heap.size (put5 w2 w.heap.size fd fs ft fy fb) w3 := hd.below
  have HK3 := Aside0.mk (show FrameBox w3 w.heap.size fd fs ft fy fb from blk_below (box_put5 HK2.out fd fs ft fy fb) hb3)
  have HB3 := Aside0.mk (below_step (below_put5 HB2.out (Nat.le_refl _) fd fs ft fy fb) hb3)
  clear hd hb3 c0 c1 c2 c3 c4 z0 z1 z2 z3 z4 HK2 HB2
  have c0 : w3.cell? ⟨w.heap.size, 0, none⟩ = some (.int .i64 fd) := (blk_cell HK3.out 0).trans rfl
  have c1 : w3.cell? ⟨w.heap.size, 1, none⟩ = some (.int .i64 fs) := (blk_cell HK3.out 1).trans rfl
  have c2 : w3.cell? ⟨w.heap.size, 2, none⟩ = some (.int .i64 ft) := (blk_cell HK3.out 2).trans rfl
  have c3 : w3.cell? ⟨w.heap.size, 3, none⟩ = some (.int .i64 fy) := (blk_cell HK3.out 3).trans rfl
  have c4 : w3.cell? ⟨w.heap.size, 4, none⟩ = some (.string fb) := (blk_cell HK3.out 4).trans rfl
  go_wp2_with fail
  refine (Q.frame_Encode.calls _ _ _ _ _ _ _ _ _ HE.out).mono ?_
  rintro e w4 ⟨rfl, hb4⟩
  have HK4 := Aside0.mk (show FrameBox w4 w.heap.size fd fs ft fy fb from blk_below HK3.out hb4)
  have HB4 := Aside0.mk (below_step HB3.out hb4)
  clear hb4 c0 c1 c2 c3 c4 HK3 HB3
  go_wp2_with fail
  refine (fec_Encode.calls X (D : Int) _ _ _ (encode_eq X (by have := HX.out; omega) D HD.out.1 HD.out.2)).mono ?_
  rintro e w5 ⟨rfl, hb5⟩
  have HK5 := Aside0.mk (show FrameBox w5 w.heap.size fd fs ft fy fb from blk_below HK4.out hb5)
  have HB5 := Aside0.mk (below_step HB4.out hb5)
  clear hb5 HK4 HB4
  -- the numbers
  have hLl := encB_length D HD.out.1 X
  have hLb := encB_bin D X
  have hdec := fun B r T h1 h2 h3 => top_decode X ch (by have := HX.out; omega) D HD.out.1 HD.out.2 B r T h1 h2 h3
  generalize encB D X = L at hLl hLb hdec ⊢
  have HLl := Aside0.mk hLl
  have HLb := Aside0.mk hLb
  have HDEC := Aside0.mk hdec
  clear hLl hLb hdec
  obtain ⟨W0, W1, W2, q, HW0, e1, e2, e3, e4, HQ⟩ := nums1 X.size D HX.out.2 HX.out.1 HD.out.1 HD.out.2
  have hD0 : ((D : Int) == 0) = false := by rw [beq_eq_false_iff_ne]; have := HD.out.1; omega
  have hD1 : ¬ (D : Int) = 0 := by have := HD.out.1; omega
  have hwb : Q.patchbaytop_aWithin.f a2 (q : Int) = _ := within_f a2 q HQ.out.1 (Nat.lt_of_le_of_lt HQ.out.2.1 (by decide))
  have hbl := withinN_lt a2 q HQ.out.1
  generalize withinN a2 q = B at hwb hbl
  have HWB := Aside0.mk hwb
  have HBD := Aside0.mk (HQ.out.2.2 B hbl)
  clear hbl hwb
  obtain ⟨FM, R, SZ, F7, S0, S6, HFM, e5, e6, e7, HSZ, e8, HF7, e9, e10, HS6⟩ := nums2 X.size D B W0 HX.out.2 HX.out.1 HD.out.1 HD.out.2 HW0.out HBD.out
  have hwr : Q.patchbaytop_aWithin.f a3 (S6 : Int) = _ := within_f a3 S6 (by rw [HS6.out]; omega) (by rw [HS6.out]; have := HSZ.out.2.2; omega)
  have hrl := withinN_lt a3 S6 (by rw [HS6.out]; omega)
  generalize withinN a3 S6 = r at hwr hrl
  have HWR := Aside0.mk hwr
  have HRL := Aside0.mk (show r ≤ 6 * SZ from by rw [HS6.out] at hrl; omega)
  clear hwr hrl
  obtain ⟨FI, T, e11, HFI, e12, HT⟩ := nums3 F7 r SZ ch.size (by have := HF7.out; have := HX.out; omega) (by have := HRL.out; have := HSZ.out.2.2; omega) HSZ.out.2.2
  go_wp2_with fail
  refine (Q.patchbaytop_aWithin.calls a2 (q : Int) _ _ HWB.out).mono ?_
  rintro e w6 ⟨rfl, hd⟩
  have hb6 : Below w5.heap.size w5 w6 := hd.below
  have HK6 := Aside0.mk (show FrameBox w6 w.heap.size fd fs ft fy fb from blk_below HK5.out hb6)
  have HB6 := Aside0.mk (below_step HB5.out hb6)
  clear hd hb6 HK5 HB5
  go_wp2_with fail
  refine (Q.patchbaytop_aWithin.calls a3 (S6 : Int) _ _ HWR.out).mono ?_
  rintro e w7 ⟨rfl, hd⟩
  have hb7 : Below w6.heap.size w6 w7 := hd.below
  have HK7 := Aside0.mk (show FrameBox w7 w.heap.size fd fs ft fy fb from blk_below HK6.out hb7)
  have HB7 := Aside0.mk (below_step HB6.out hb7)
  clear hd hb7 HK6 HB6
  go_wp2_with fail
  obtain ⟨ln, hln⟩ : ∃ ln : Nat → ByteArray, ∀ k, ln k = strOfNums (fl (PB ch FI (FI + k)) 0 L) := ⟨_, fun _ => rfl⟩
  have HLN := Aside0.mk hln
  have hl0 : strOfNums L = ln 0 := by rw [hln, Nat.add_zero, PB_start, fl_none]
  simp only [e11, hl0]
  clear hln hl0 e1 e2 e3 e4 e5 e6 e7 e8 e9 e10 e11 hD0 hD1
  have HLT := Aside0.mk (show FI + T ≤ L.length from by
    have h1 := HFI.out
    have h2 := HF7.out
    have h3 := HRL.out
    have h4 := HT.out.1
    rw [HLl.out]
    omega)
  have hTs : FI + T ≤ 5000 := by have := HLT.out; rw [HLl.out] at this; have := HX.out; omega
  have HTS := Aside0.mk hTs
  clear hTs
  go_loopw [13, 77] (fun l i w' => ∃ k : Nat, k ≤ T ∧ l = .string (ln k) ∧ i = .int .i64 k ∧ Aside0 (Below w7.heap.size w7 w')) (fun _ i _ => T - (intOf i).toNat)
  case atStart => exact ⟨0, Nat.zero_le _, rfl, rfl, ⟨Below.refl _ _⟩⟩
  case round =>
    obtain ⟨k, hk, rfl, rfl, HB⟩ := hrel
    by_cases hlt : k < T
    · have hlb : decide ((k : Int) < (T : Int)) = true := decide_eq_true (by omega)
      have hlb2 : decide (k < T) = true := decide_eq_true hlt
      have hkc : k < ch.size := by have := HT.out.2; omega
      have p0 : (0 : Int) ≤ (k : Int) := by omega
      have q0 : (k : Int) < (ch.size : Int) := by omega
      have hkw : wrap64 ((k : Int) + 1) = ((k + 1 : Nat) : Int) := by unfold wrap64; have := HTS.out; omega
      obtain ⟨FK, hFK, HFK⟩ : ∃ FK : Nat, wrap64 ((FI : Int) + (k : Int)) = (FK : Int) ∧ Aside0 (FK = FI + k) := ⟨FI + k, by unfold wrap64; have := HTS.out; omega, ⟨rfl⟩⟩
      obtain ⟨b, hb⟩ : ∃ b : Nat, ch[k].toNat = b := ⟨_, rfl⟩
      have hbt : bt ch (k : Int) = (b : Int) := by
        unfold bt
        rw [dif_pos (by rw [Int.toNat_natCast]; exact hkc)]
        simp only [Int.toNat_natCast]
        rw [hb]
      have HBT := Aside0.mk hbt
      clear hbt
      by_cases hbit : Go.bits .and .u8 (b : Int) 1 = 1
      · have hbb : (Go.bits .and .u8 (b : Int) 1 == 1) = true := beq_iff_eq.2 hbit
        have hfl := turn_yes ch FI k L HLb.out (by have := HTS.out; rw [HLl.out]; have := HX.out; omega) (by have := HLT.out; omega) hkc (by rw [HBT.out]; exact hbit)
        rw [← HLN.out k, Nat.add_assoc, ← HLN.out (k + 1), ← HFK.out] at hfl
        have HFLP := Aside0.mk hfl
        clear hfl
        go_wp2_with fail
        refine (Q.bits_Flip.calls _ _ _ _ HFLP.out).mono ?_
        rintro e w8 ⟨rfl, hb8⟩
        have HB8 := Aside0.mk (below_step HB.out hb8)
        clear hb8
        go_wp2
        go_roundw
        case rel => exact ⟨k + 1, hlt, rfl, by rw [hkw], HB8⟩
        case measure => rw [hkw]; simp only [intOf, Int.toNat_natCast]; omega
      · have hbb : (Go.bits .and .u8 (b : Int) 1 == 1) = false := beq_eq_false_iff_ne.2 hbit
        have HNX := Aside0.mk (show ln k = ln (k + 1) from by
          rw [HLN.out k, HLN.out (k + 1), ← Nat.add_assoc, turn_no ch FI k (by rw [HBT.out]; exact hbit)])
        go_wp2
        go_roundw
        case rel => exact ⟨k + 1, hlt, by rw [HNX.out], by rw [hkw], HB⟩
        case measure => rw [hkw]; simp only [intOf, Int.toNat_natCast]; omega
    · obtain rfl : k = T := by omega
      have hlb : decide ((k : Int) < (k : Int)) = false := decide_eq_false (by omega)
      -- what is sent
      have hlnT := HLN.out k
      have hbin : BinL (ln k).data.toList := by rw [hlnT]; exact bin_str _ (fl_bin _ L 0 HLb.out)
      have hsz : (ln k).size = L.length := by rw [hlnT, size_str, fl_length]
      obtain ⟨r1, c1, hdec⟩ := HDEC.out B r k HBD.out (by rw [← HSZ.out.1]; exact HRL.out) (by rw [← HSZ.out.1]; exact HT.out.1)
      have hde2 : Q.fec_Decode.f r1 (ln k) (D : Int) = some (X, c1, 0) := by
        rw [hlnT, HFI.out, HF7.out.1]
        exact hdec
      have HDE2 := Aside0.mk hde2
      have HBN := Aside0.mk hbin
      have HSZ2 := Aside0.mk (show (ln k).size ≤ 1400 ∧ 0 < (ln k).size from by rw [hsz, HLl.out]; have := HX.out; omega)
      clear hlnT hbin hsz hdec hde2
      generalize ln k = line at HDE2 HBN HSZ2 ⊢
      have HB8 := Aside0.mk (below_step HB7.out HB.out)
      have HK8 := Aside0.mk (show FrameBox wr w.heap.size fd fs ft fy fb from blk_below HK7.out HB.out)
      clear HB HB7 HK7
      go_wp2_with fail
      refine (wrap_ok line HBN.out (by have := HSZ2.out; omega) wr).mono ?_
      rintro e w9 ⟨rfl, hb9⟩
      have HK9 := Aside0.mk (show FrameBox w9 w.heap.size fd fs ft fy fb from blk_below HK8.out hb9)
      have HB9 := Aside0.mk (below_step HB8.out hb9)
      clear hb9 HB8 HK8
      have hlen := stf_length line.data.toList 0
      rw [data_length] at hlen
      have hne : stf line.data.toList 0 ≠ [] := fun z => by
        rw [z] at hlen
        have := HSZ2.out.2
        have h1 : line.size ≤ ([] : List UInt8).length := hlen.1
        simp only [List.length_nil] at h1
        omega
      obtain ⟨m, hmc⟩ := hm.below HB9.out
      have hspl := split_ok (stf line.data.toList 0) line.data.toList hne (unst_stf _ 0 (by omega) HBN.out) (stf_okRun _ 0 (by omega) HBN.out) (stf_bin _ 0 HBN.out) (by have := HSZ2.out; omega) m w9 hmc
      have HSPL := Aside0.mk hspl
      clear hspl hmc hlen hne
      generalize bs (wrapL (stf line.data.toList 0)) = wrapped at HSPL ⊢
      go_wp2_with fail
      refine HSPL.out.mono ?_
      rintro e w10 ⟨A, cA, rfl, hcA, hb10⟩
      rw [bs_data] at hcA
      have HK10 := Aside0.mk (show FrameBox w10 w.heap.size fd fs ft fy fb from blk_below HK9.out hb10)
      have HB10 := Aside0.mk (below_step HB9.out hb10)
      clear hb10 HB9 HK9 HSPL
      go_wp2_with fail
      refine (Q.fec_Decode.calls _ line (D : Int) _ _ _ _ HDE2.out).mono ?_
      rintro e w11 ⟨rfl, hb11⟩
      have HK11 := Aside0.mk (show FrameBox w11 w.heap.size fd fs ft fy fb from blk_below HK10.out hb11)
      have HB11 := Aside0.mk (below_step HB10.out hb11)
      clear hb11 HB10 HK10 hcA HDE2
      go_wp2_with fail
      refine (Q.frame_Decode.calls _ X _ _ _ _ _ _ _ HDE.out).mono ?_
      rintro e w12 ⟨rfl, hb12⟩
      have HK12 := Aside0.mk (show FrameBox w12 w.heap.size fd fs ft fy fb from blk_below HK11.out hb12)
      have HB12 := Aside0.mk (below_step HB11.out hb12)
      clear hb12 HB11 HK11
      go_upto_region 31 with (fail)
      have HB13 := Aside0.mk (below_step HB12.out (below_alloc (Below.refl _ _) (Obj.cells #[.int .i64 fd, .int .i64 fs, .int .i64 ft, .int .i64 fy, .string fb] 23)))
      have HK13 := Aside0.mk (show FrameBox (w12.alloc (Obj.cells #[.int .i64 fd, .int .i64 fs, .int .i64 ft, .int .i64 fy, .string fb] 23)) w.heap.size fd fs ft fy fb from blk_below HK12.out (below_alloc (Below.refl _ _) _))
      have HN13 := Aside0.mk (show FrameBox (w12.alloc (Obj.cells #[.int .i64 fd, .int .i64 fs, .int .i64 ft, .int .i64 fy, .string fb] 23)) w12.heap.size fd fs ft fy fb from blk_new w12 _)
      generalize w12.alloc (Obj.cells #[.int .i64 fd, .int .i64 fs, .int .i64 ft, .int .i64 fy, .string fb] 23) = w13 at HB13 HK13 HN13 ⊢
      generalize w12.heap.size = g13 at HN13 ⊢
      have c0 : w13.cell? ⟨w.heap.size, 0, none⟩ = some (.int .i64 fd) := (blk_cell HK13.out 0).trans rfl
      have n0 : w13.cell? ⟨g13, 0, none⟩ = some (.int .i64 fd) := (blk_cell HN13.out 0).trans rfl
      have c1 : w13.cell? ⟨w.heap.size, 1, none⟩ = some (.int .i64 fs) := (blk_cell HK13.out 1).trans rfl
      have n1 : w13.cell? ⟨g13, 1, none⟩ = some (.int .i64 fs) := (blk_cell HN13.out 1).trans rfl
      have c2 : w13.cell? ⟨w.heap.size, 2, none⟩ = some (.int .i64 ft) := (blk_cell HK13.out 2).trans rfl
      have n2 : w13.cell? ⟨g13, 2, none⟩ = some (.int .i64 ft) := (blk_cell HN13.out 2).trans rfl
      have c3 : w13.cell? ⟨w.heap.size, 3, none⟩ = some (.int .i64 fy) := (blk_cell HK13.out 3).trans rfl
      have n3 : w13.cell? ⟨g13, 3, none⟩ = some (.int .i64 fy) := (blk_cell HN13.out 3).trans rfl
      have c4 : w13.cell? ⟨w.heap.size, 4, none⟩ = some (.string fb) := (blk_cell HK13.out 4).trans rfl
      have n4 : w13.cell? ⟨g13, 4, none⟩ = some (.string fb) := (blk_cell HN13.out 4).trans rfl
      go_wp2
      go_ret
      exact ⟨rfl, HB13.out⟩
end Go.Proofs.YtkdncfbbhbmaaaaDoor.Ext
namespace Go.Proofs.YtkdncfbbhbmaaaaDoor.Ext
set_option maxRecDepth 100000
open Go.RowKit Go.Proofs.YtkdncfbbhbmaaaaDoorW.PrintWords Go.Proofs.YtkdncfbbhbmaaaaDoorW.PrintLast Go.Proofs.YtkdncfbbhbmaaaaDoorW.PrintMore
open Go.Joins Go.ChangeShapes Go.WideShapes Go.Deep
section
variable {H : Type} {enc : TypeId × Value → H} {P : Program} {w : World} {base : Nat} {spare : Nat → Bool} {held : Bool}
theorem open_slice_fields {t e : TypeId} {fs : Array Field} {fuel : Nat} {cs : List Value} {x : DataW H × List MemPlace} (ht : P.underlying t = some (.slice e)) (he : P.underlying e = some (.struct fs))
    (hone : oneCellFields P fs = true) (hC : P.cellsOf e = fs.size) (h : DataW.trod enc P w base spare held fuel t cs = some x) :
    (cs = [.slice none 0 0] ∧ x = (.nil, [])) ∨
    ∃ (a : Addr) (len cap m : Nat) (D : Nat → DataW H) (Pl : Nat → List MemPlace), cs = [.slice (some a) len cap] ∧ base ≤ a.block ∧ len ≤ cap ∧ cap ≤ maxLen ∧ m = (if spare a.block then cap else len) ∧
      x = (.slice ((List.range len).map D) ((List.range (m - len)).map fun j => D (len + j)), MemPlace.row a (m * fs.size) ++ (List.range m).flatMap Pl) ∧
      ∀ i, i < m → ∃ (ys : List (DataW H × List MemPlace)) (n : Nat), D i = .agg (ys.map (·.1)) ∧ Pl i = ys.flatMap (·.2) ∧ ys.length = fs.size ∧
        ∀ (j : Nat) (f : Field), fs[j]? = some f → ∃ (v : Value) (y : DataW H × List MemPlace), w.cell? (a.add (i * fs.size + j)) = some v ∧ ys[j]? = some y ∧ DataW.trod enc P w base spare held n f.type [v] = some y := by
  rcases open_slice ht h with h0 | ⟨a, len, cap, m, n, D, Pl, hcs, hb, hl, hm, hmm, hx, hi⟩
  · exact .inl h0
  · refine .inr ⟨a, len, cap, m, D, Pl, hcs, hb, hl, hm, hmm, by rw [hC] at hx; exact hx, fun i him => ?_⟩
    obtain ⟨cs', hc, ht'⟩ := hi i him
    rw [hC] at hc
    obtain ⟨ys, n', hn', hy, hlen, hyl, hf⟩ := DataW.trod_struct he ht'
    obtain ⟨_, hcl, hat⟩ := World.cells?_some hc
    simp only [Prod.mk.injEq] at hy
    refine ⟨ys, n', hy.1, hy.2, hyl, fun j f hj => ?_⟩
    obtain ⟨ho, hk⟩ := hone_of hone j f hj
    have hjl : j < fs.size := (Array.getElem?_eq_some_iff.1 hj).1
    have hcell := hat j hjl
    have hv : cs'[j]? = some (cs'[j]'(by omega)) := List.getElem?_eq_getElem (by omega)
    have h1 := hf j f hj
    rw [ho, hk] at h1
    have hone' : (cs'.drop j).take 1 = [cs'[j]'(by omega)] := by
      rw [List.drop_eq_getElem_cons (by omega)]
      rfl
    rw [hone'] at h1
    have hys : ys[j]? = some (ys[j]'(by omega)) := List.getElem?_eq_getElem (by omega)
    refine ⟨_, _, ?_, hys, h1.trans hys⟩
    rw [← Go.Deep.add_add, hcell, hv]
theorem open_agg5 {r : Reach} {b0 : Nat} {t : TypeId} {f0 f1 f2 f3 f4 : Field} {v : Value} {d : DataW H} {p : List MemPlace} (hs : P.underlying t = some (.struct #[f0, f1, f2, f3, f4])) (hone : oneCellFields P #[f0, f1, f2, f3, f4] = true) (hC : P.cellsOf t = 5)
    (hv : Value.okWide P w r b0 t v) (h : DataW.Trod enc P w base spare held t v d p) :
    ∃ (v0 v1 v2 v3 v4 : Value) (y0 y1 y2 y3 y4 : DataW H × List MemPlace) (n : Nat), v = .agg #[v0, v1, v2, v3, v4] ∧ d = .agg [y0.1, y1.1, y2.1, y3.1, y4.1] ∧ p = y0.2 ++ (y1.2 ++ (y2.2 ++ (y3.2 ++ y4.2))) ∧
      DataW.trod enc P w base spare held n f0.type [v0] = some y0 ∧ DataW.trod enc P w base spare held n f1.type [v1] = some y1 ∧ DataW.trod enc P w base spare held n f2.type [v2] = some y2 ∧ DataW.trod enc P w base spare held n f3.type [v3] = some y3 ∧ DataW.trod enc P w base spare held n f4.type [v4] = some y4 := by
  obtain ⟨cs, rfl, hsz⟩ := okWide_struct hs hv
  obtain ⟨l⟩ := cs
  match l, hsz.trans hC with
  | [c0, c1, c2, c3, c4], _ =>
    obtain ⟨fuel, hf⟩ := h
    obtain ⟨xs, n, _, hx, _, hlen, hg⟩ := DataW.trod_struct hs hf
    obtain ⟨o0, k0⟩ := hone_of hone 0 f0 rfl
    obtain ⟨o1, k1⟩ := hone_of hone 1 f1 rfl
    obtain ⟨o2, k2⟩ := hone_of hone 2 f2 rfl
    obtain ⟨o3, k3⟩ := hone_of hone 3 f3 rfl
    obtain ⟨o4, k4⟩ := hone_of hone 4 f4 rfl
    match xs, hlen with
    | [y0, y1, y2, y3, y4], _ =>
      simp only [Prod.mk.injEq] at hx
      exact ⟨c0, c1, c2, c3, c4, y0, y1, y2, y3, y4, n, rfl, by simpa using hx.1, by simpa using hx.2, by simpa [Value.cells, o0, k0] using hg 0 f0 rfl, by simpa [Value.cells, o1, k1] using hg 1 f1 rfl, by simpa [Value.cells, o2, k2] using hg 2 f2 rfl, by simpa [Value.cells, o3, k3] using hg 3 f3 rfl, by simpa [Value.cells, o4, k4] using hg 4 f4 rfl⟩
end
section
variable {H : Type} {enc : TypeId × Value → H} {w : World} {b0 : Nat} {r : Reach} {v : Value} {d : DataW H} {p : List MemPlace}
theorem int_field {n : Nat} {c : Value} {y : DataW H × List MemPlace} (h : DataW.trod enc Tryd.prog w 0 (fun _ => true) true n 3 [c] = some y) : ∃ a : Int, c = .int .i64 a ∧ (Lit.int .i64 a).wf = true := by
  obtain ⟨a, hc, _, hw⟩ := DataW.trod_int Tryd.underlying3 h
  exact ⟨a, by simpa using hc, hw⟩
theorem string_field {n : Nat} {c : Value} {y : DataW H × List MemPlace} (h : DataW.trod enc Tryd.prog w 0 (fun _ => true) true n 9 [c] = some y) : ∃ s : ByteArray, c = .string s ∧ s.size ≤ maxLen := by
  obtain ⟨s, hc, _, hw⟩ := DataW.trod_string Tryd.underlying9 h
  exact ⟨s, by simpa using hc, hw⟩
/-- A list of numbers, as a call reads it. -/
def IntsAt (w : World) (c : Value) (A : Option Addr) (cap : Nat) (l : List Int) : Prop :=
  c = .slice A l.length cap ∧ Kd.C (Kd.int .i64) w A l.length l ∧ l.length ≤ cap ∧ l.length ≤ maxLen ∧ ∀ x ∈ l, (Lit.int .i64 x).wf = true
theorem ints_field {n : Nat} {c : Value} {y : DataW H × List MemPlace} (h : DataW.trod enc Tryd.prog w 0 (fun _ => true) true n 51 [c] = some y) : ∃ A cap l, IntsAt w c A cap l := by
  have key : ∃ a len cap zs, c = .slice a len cap ∧ ((a = none ∧ len = 0 ∧ cap = 0 ∧ zs = []) ∨ ∃ x, a = some x ∧ len ≤ cap ∧ cap ≤ maxLen ∧ zs.length = cap ∧ (∀ i, i < zs.length → w.cell? (x.add i) = some (.int .i64 (zs.getD i 0))) ∧ ∀ n ∈ zs, (Lit.int .i64 n).wf = true) := by
    rcases open_ints Tryd.underlying51 Tryd.underlying3 (by kernel_rfl) h with ⟨hcs, _⟩ | ⟨x, l, cp, zs, hcs, _, hl, hm, hz, _, hcell, hwz⟩
    · exact ⟨none, 0, 0, [], by simpa using hcs, .inl ⟨rfl, rfl, rfl, rfl⟩⟩
    · exact ⟨some x, l, cp, zs, by simpa using hcs, .inr ⟨x, rfl, hl, hm, by simpa using hz, hcell, hwz⟩⟩
  obtain ⟨a, len, cap, zs, rfl, hrow⟩ := key
  obtain ⟨l, rfl, hr, hm, hw, hc⟩ := ReadsInt.ofRowC hrow
  exact ⟨a, cap, l, rfl, Kd.C_of_reads (d := (0 : Int)) (h1 := fun _ => rfl) hr, hc, hm, hw⟩
theorem ints_open (hv : Value.okWide Tryd.prog w r b0 51 v) (h : DataW.Trod enc Tryd.prog w 0 (fun _ => true) true 51 v d p) : ∃ A cap l, IntsAt w v A cap l := by
  obtain ⟨a, len, cap, rfl⟩ := okWide_slice Tryd.underlying51 hv
  obtain ⟨fuel, hf⟩ := h
  exact ints_field hf
theorem frame_open (hv : Value.okWide Tryd.prog w r b0 23 v) (h : DataW.Trod enc Tryd.prog w 0 (fun _ => true) true 23 v d p) :
    ∃ (a0 a1 a2 a3 : Int) (s : ByteArray), v = .agg #[.int .i64 a0, .int .i64 a1, .int .i64 a2, .int .i64 a3, .string s] ∧ (Lit.int .i64 a0).wf = true ∧ (Lit.int .i64 a1).wf = true ∧ (Lit.int .i64 a2).wf = true ∧ (Lit.int .i64 a3).wf = true ∧ s.size ≤ maxLen := by
  obtain ⟨v0, v1, v2, v3, v4, y0, y1, y2, y3, y4, n, rfl, _, _, t0, t1, t2, t3, t4⟩ := open_agg5 Tryd.underlying23 (by kernel_rfl) (by kernel_rfl) hv h
  obtain ⟨a0, rfl, w0⟩ := int_field t0
  obtain ⟨a1, rfl, w1⟩ := int_field t1
  obtain ⟨a2, rfl, w2⟩ := int_field t2
  obtain ⟨a3, rfl, w3⟩ := int_field t3
  obtain ⟨s, rfl, w4⟩ := string_field t4
  exact ⟨a0, a1, a2, a3, s, rfl, w0, w1, w2, w3, w4⟩
end
end Go.Proofs.YtkdncfbbhbmaaaaDoor.Ext
