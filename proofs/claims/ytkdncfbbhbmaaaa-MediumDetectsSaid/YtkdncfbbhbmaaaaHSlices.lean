/- The calls slices.Clone of transmissions, slices.Max and slices.Min of numbers: walks. -/
import Derived.Test.YtkdncfbbhbmaaaaQ0
import Derived.Lib.SliceRun
import Derived.WalkLawsBesides
import Derived.Lib.Hide
namespace Go.Proofs.Ytkdncfbbhbmaaaa.Ext
open Go.RowKit Go.Proofs.YtkdncfbbhbmaaaaW.PrintWords Go.Proofs.YtkdncfbbhbmaaaaW.PrintLast Go.Proofs.YtkdncfbbhbmaaaaW.PrintMore
attribute [local go_sem] max2_int min2_int max_two min_two max_three min_three max_four min_four
set_option linter.unusedVariables false
/-- What slices.Clone tells of a list. -/
def slices_Clone.f (l : List Q.S48) : Option (List Q.S48) := if l.length < 5864062014805 then some l else none
set_option maxHeartbeats 1000000 in
set_option maxRecDepth 100000 in
theorem slices_Clone.calls (A0 : Option Addr) (c0 : Nat) (l0 : List Q.S48) (r : List Q.S48) (w : World) (hr0 : Kd.C Q.k48 w A0 l0.length l0) (hc0 : l0.length ≤ c0) (h : slices_Clone.f l0 = some r) :
    Calls Try.prog 43 #[.slice A0 l0.length c0] w fun e w' => ∃ v0_ : Value, e = .returned (v0_) ∧ Kd.R Q.k48 48 w' w.heap.size (fun _ => True) v0_ r ∧ Below w.heap.size w w' := by
  unfold slices_Clone.f at h
  by_cases hl : l0.length < 5864062014805
  · rw [if_pos hl] at h
    obtain rfl := Option.some.inj h
    have hq := fun (W : World) (a : Option Addr) (n c : Nat) => Lib.run_eql_slice_nil (P := Try.prog) W 41 48 a n c 0 0 Try.underlying41
    have HR := Aside0.mk hr0
    have HL := Aside0.mk hl
    clear hr0 hl
    cases A0 with
    | none =>
      have h0 : l0.length = 0 := by
        rcases Nat.eq_zero_or_pos l0.length with z | z
        · exact z
        · obtain ⟨ad, e, _⟩ := HR.out.2.2 z
          cases e
      have HN := Aside0.mk (List.eq_nil_of_length_eq_zero h0)
      clear h0
      go_enter Try.func43, Try.ntmps43
      go_wp2
      go_ret
      exact ⟨_, rfl, by rw [HN.out]; exact Kd.R_nil _ _ _ _ _, Below.refl _ _⟩
    | some ad =>
      go_enter Try.func43, Try.ntmps43
      go_wp2_with (first | ((with_reducible refine gate_dst (N := 5) rfl ?_); refine Kd.R_lit Q.k48 w.heap.size 48 ?hg (N := 5) ?hd (w0 := w) (xs := ([] : List Q.S48)) (inner := []) (ok := fun _ => True) (okp := fun _ => True) ?hr ?hp (fun _ hk => hk) trivial (Below.refl _ _) (Nat.le_refl _) (by simp) ?_; (case hd => rfl); (case hg => rfl); (case hr => first | (go_simp; done) | (go_simp; rfl)); (case hp => exact Reps.none _ _); intro v1 w1 ho hb hg_ hnew_; have HO := Aside0.mk ho; have HB := Aside0.mk hb; clear ho hb hg_ hnew_) | ((with_reducible refine gate_dst (N := 7) rfl ?_); refine Kd.R_append_rows Q.k48 (Rr := Q.k48.K w1) (w0 := w) w.heap.size ?hg2 (.tmp 5) (.tmp 6) 41 48 _ 24 rfl Try.underlying41 Q.info48 rfl (by decide) (by decide) _ [] l0 (some ad) l0.length c0 (fun _ => True) (fun _ => False) rfl rfl HO.out (Kd.C_below HR.out HB.out) ?hkm (fun _ hk => hk.elim) (fun _ _ => trivial) HB.out HB.out.size ?hsz ?_; (case hg2 => rfl); (case hkm => intro x cs hx; obtain rfl := Q.k48_open hx; exact Q.k48_mkM _ _ _ _); (case hsz => have := HL.out; simp only [List.length_nil]; omega); intro v2 w2 ho2 hb2 hg_ hat_; have HO2 := Aside0.mk ho2; have HB2 := Aside0.mk hb2; clear ho2 hb2 hg_ hat_))
      go_ret
      exact ⟨_, rfl, HO2.out, HB2.out⟩
  · rw [if_neg hl] at h
    cases h
/-- The max of the first k numbers. -/
def maxTo (l : List Int) (k : Nat) : Int := ((l.take k).drop 1).foldl mx (l.getD 0 0)
theorem maxTo_one (l : List Int) : maxTo l 1 = l.getD 0 0 := by
  unfold maxTo
  rw [List.drop_eq_nil_of_le (by rw [List.length_take]; omega)]
  rfl
theorem maxTo_succ (l : List Int) (k : Nat) (h1 : 1 ≤ k) (h : k < l.length) : maxTo l (k + 1) = mx (maxTo l k) (l.getD k 0) := by
  unfold maxTo
  rw [List.take_succ_eq_append_getElem h, List.drop_append_of_le_length (by rw [List.length_take]; omega), List.foldl_append, show l.getD k 0 = l[k] from by simp [h]]
  rfl
/-- What slices.Max tells of a list. -/
def slices_Max.f (l : List Int) : Option Int := if 0 < l.length then (if l.length ≤ 9223372036854775806 then some (maxTo l l.length) else none) else none
set_option maxHeartbeats 1000000 in
set_option maxRecDepth 100000 in
theorem slices_Max.calls (A0 : Option Addr) (c0 : Nat) (l0 : List Int) (r : Int) (w : World) (hr0 : Kd.C (Kd.int .i64) w A0 l0.length l0) (hc0 : l0.length ≤ c0) (h : slices_Max.f l0 = some r) :
    Calls Try.prog 46 #[.slice A0 l0.length c0] w fun e w' => e = .returned (.int .i64 r) ∧ Below w.heap.size w w' := by
  unfold slices_Max.f at h
  by_cases h0 : 0 < l0.length
  · rw [if_pos h0] at h
    by_cases h1 : l0.length ≤ 9223372036854775806
    · rw [if_pos h1] at h
      obtain rfl := Option.some.inj h
      obtain ⟨ad, rfl, hcell⟩ := (Kd.reads_of_C (enc := Value.int .i64) (d := (0 : Int)) (h1 := fun _ => rfl) hr0).2.2 h0
      clear hr0 h
      have hb : decide ((l0.length : Int) < 1) = false := by simp; omega
      have hz : w.cell? ad = some (.int .i64 (maxTo l0 1)) := by
        have q := hcell 0 h0
        rw [maxTo_one]
        simpa [Addr.add] using q
      have HCL := Aside0.mk hcell
      clear hcell
      go_enter Try.func46, Try.ntmps46
      go_wp2
      go_loop [3, 4] (fun m i => ∃ k : Nat, 1 ≤ k ∧ k ≤ l0.length ∧ i = .int .i64 k ∧ m = .int .i64 (maxTo l0 k)) (fun _ i => l0.length - (intOf i).toNat)
      case atStart => exact ⟨1, Nat.le_refl _, h0, rfl, rfl⟩
      case round =>
        obtain ⟨k, hk1, hk, rfl, rfl⟩ := hrel
        by_cases hlt : k < l0.length
        · have hck := HCL.out k hlt
          have HS := Aside0.mk (maxTo_succ l0 k hk1 hlt)
          clear hz
          go_wp2
          go_round
          case rel => exact ⟨k + 1, by omega, by omega, by go_num, by rw [HS.out]; unfold mx; simp [hlt]⟩
          case measure => simp [intOf]; omega
        · obtain rfl : k = l0.length := by omega
          clear hz
          go_wp2
          go_ret
          exact ⟨rfl, Below.refl _ _⟩
    · rw [if_neg h1] at h
      cases h
  · rw [if_neg h0] at h
    cases h
/-- The min of the first k numbers. -/
def minTo (l : List Int) (k : Nat) : Int := ((l.take k).drop 1).foldl mn (l.getD 0 0)
theorem minTo_one (l : List Int) : minTo l 1 = l.getD 0 0 := by
  unfold minTo
  rw [List.drop_eq_nil_of_le (by rw [List.length_take]; omega)]
  rfl
theorem minTo_succ (l : List Int) (k : Nat) (h1 : 1 ≤ k) (h : k < l.length) : minTo l (k + 1) = mn (minTo l k) (l.getD k 0) := by
  unfold minTo
  rw [List.take_succ_eq_append_getElem h, List.drop_append_of_le_length (by rw [List.length_take]; omega), List.foldl_append, show l.getD k 0 = l[k] from by simp [h]]
  rfl
/-- What slices.Min tells of a list. -/
def slices_Min.f (l : List Int) : Option Int := if 0 < l.length then (if l.length ≤ 9223372036854775806 then some (minTo l l.length) else none) else none
set_option maxHeartbeats 1000000 in
set_option maxRecDepth 100000 in
theorem slices_Min.calls (A0 : Option Addr) (c0 : Nat) (l0 : List Int) (r : Int) (w : World) (hr0 : Kd.C (Kd.int .i64) w A0 l0.length l0) (hc0 : l0.length ≤ c0) (h : slices_Min.f l0 = some r) :
    Calls Try.prog 47 #[.slice A0 l0.length c0] w fun e w' => e = .returned (.int .i64 r) ∧ Below w.heap.size w w' := by
  unfold slices_Min.f at h
  by_cases h0 : 0 < l0.length
  · rw [if_pos h0] at h
    by_cases h1 : l0.length ≤ 9223372036854775806
    · rw [if_pos h1] at h
      obtain rfl := Option.some.inj h
      obtain ⟨ad, rfl, hcell⟩ := (Kd.reads_of_C (enc := Value.int .i64) (d := (0 : Int)) (h1 := fun _ => rfl) hr0).2.2 h0
      clear hr0 h
      have hb : decide ((l0.length : Int) < 1) = false := by simp; omega
      have hz : w.cell? ad = some (.int .i64 (minTo l0 1)) := by
        have q := hcell 0 h0
        rw [minTo_one]
        simpa [Addr.add] using q
      have HCL := Aside0.mk hcell
      clear hcell
      go_enter Try.func47, Try.ntmps47
      go_wp2
      go_loop [3, 4] (fun m i => ∃ k : Nat, 1 ≤ k ∧ k ≤ l0.length ∧ i = .int .i64 k ∧ m = .int .i64 (minTo l0 k)) (fun _ i => l0.length - (intOf i).toNat)
      case atStart => exact ⟨1, Nat.le_refl _, h0, rfl, rfl⟩
      case round =>
        obtain ⟨k, hk1, hk, rfl, rfl⟩ := hrel
        by_cases hlt : k < l0.length
        · have hck := HCL.out k hlt
          have HS := Aside0.mk (minTo_succ l0 k hk1 hlt)
          clear hz
          go_wp2
          go_round
          case rel => exact ⟨k + 1, by omega, by omega, by go_num, by rw [HS.out]; unfold mn; simp [hlt]⟩
          case measure => simp [intOf]; omega
        · obtain rfl : k = l0.length := by omega
          clear hz
          go_wp2
          go_ret
          exact ⟨rfl, Below.refl _ _⟩
    · rw [if_neg h1] at h
      cases h
  · rw [if_neg h0] at h
    cases h
end Go.Proofs.Ytkdncfbbhbmaaaa.Ext
