/- The walk of the law MediumDetects: for all places and transmissions it answers true. -/
import Derived.Test.YtkdncfbbhbmaaaaPHears
import Derived.Test.YtkdncfbbhbmaaaaQf33
import Derived.Lib.Hide
namespace Go.Proofs.Ytkdncfbbhbmaaaa.Ext
open Go.RowKit Go.Proofs.YtkdncfbbhbmaaaaW.PrintWords Go.Proofs.YtkdncfbbhbmaaaaW.PrintLast Go.Proofs.YtkdncfbbhbmaaaaW.PrintMore Go.Proofs.Ytkdncfbbhbmaaaa.Br Go.Proofs.Ytkdncfbbhbmaaaa.K
attribute [local go_sem] max2_int min2_int max_two min_two max_three min_three max_four min_four
set_option linter.unusedVariables false
set_option linter.unusedSimpArgs false
def Box3 (w : World) (g : Nat) (s : Tk) : Prop := w.heap[g]? = some (.cells #[.int .i64 s.f0, .int .i64 s.f1, .int .i64 s.f2] 48 (0, 0))
def put3 (w : World) (g : Nat) (s : Tk) : World := ((w.setCell ⟨g, 0, none⟩ (.int .i64 s.f0)).setCell ⟨g, 1, none⟩ (.int .i64 s.f1)).setCell ⟨g, 2, none⟩ (.int .i64 s.f2)
theorem box_put {w : World} {g : Nat} (h : Box3 w g ⟨0, 0, 0⟩) (s : Tk) : Box3 (put3 w g s) g s := by
  unfold Box3 put3
  refine blk_put (cs := #[.int .i64 s.f0, .int .i64 s.f1, .int .i64 0]) ?_ 2 _ rfl
  refine blk_put (cs := #[.int .i64 s.f0, .int .i64 0, .int .i64 0]) ?_ 1 _ rfl
  exact blk_put (cs := #[.int .i64 0, .int .i64 0, .int .i64 0]) h 0 _ rfl
theorem below_put {B g : Nat} {w0 w : World} (h : Below B w0 w) (hg : B ≤ g) (s : Tk) : Below B w0 (put3 w g s) := ((h.setCell hg _).setCell hg _).setCell hg _
set_option maxHeartbeats 2000000 in
set_option maxRecDepth 100000 in
theorem mdetects_any (A0 : Option Addr) (c0 : Nat) (l0 : List Int) (A1 : Option Addr) (c1 : Nat) (l1 : List Q.S48) (w : World) (hr0 : Kd.C (Kd.int .i64) w A0 l0.length l0) (hc0 : l0.length ≤ c0) (hr1 : Kd.C Q.k48 w A1 l1.length l1) (hc1 : l1.length ≤ c1) :
    Calls Try.prog 14 #[.slice A0 l0.length c0, .slice A1 l1.length c1] w fun e w' => e = .returned (.bool true) ∧ Below w.heap.size w w' := by
  have hu := Try.underlying48
  obtain ⟨p, x, ht0, hp0, hx0⟩ := talks_f l0 l1 20 (Nat.le_refl _)
  have HT := Aside0.mk ht0
  have HVP := Aside0.mk hp0
  have HVX := Aside0.mk hx0
  have HR0 := Aside0.mk hr0
  have HR1 := Aside0.mk hr1
  have HC0 := Aside0.mk hc0
  have HC1 := Aside0.mk hc1
  clear ht0 hp0 hx0 hr0 hr1 hc0 hc1
  go_enter Try.func14, Try.ntmps14
  go_wp2_with fail
  refine (Q.patchbaykeep1_talks.calls 20 _ _ l0 _ _ l1 p x _ HR0.out HC0.out HR1.out HC1.out HT.out).mono ?_
  rintro e w1 ⟨v0, v1, rfl, hP, hX, hb1⟩
  obtain ⟨AP, cP, rfl⟩ := Kd.R_slice hP
  obtain ⟨AX, cX, rfl⟩ := Kd.R_slice hX
  have HP1 := Aside0.mk (Kd.R_reads' hP).2.2
  have HX1 := Aside0.mk (Kd.R_reads' hX).2.2
  have HPc := Aside0.mk (Kd.R_reads' hP).2.1
  have HXc := Aside0.mk (Kd.R_reads' hX).2.1
  have HB1 := Aside0.mk hb1
  clear hP hX hb1 HR0 HR1 HC0 HC1 HT
  go_wp2_with fail
  refine (Q.patchbaykeep1_mediumWorks.calls 40 true _ mediumWorks_true).mono ?_
  rintro e w2 ⟨rfl, hb2⟩
  have HP2 := Aside0.mk (Kd.C_below HP1.out hb2)
  have HX2 := Aside0.mk (Kd.C_below HX1.out hb2)
  have HB2 := Aside0.mk (below_step HB1.out hb2)
  clear hb2 HP1 HX1 HB1
  go_wp2_with fail
  refine (slices_Max.calls _ _ p (maxTo p p.length) _ HP2.out HPc.out (by have := HVP.out.1; have := HVP.out.2.1; unfold slices_Max.f; rw [if_pos (by omega), if_pos (by omega)])).mono ?_
  rintro e w3 ⟨rfl, hb3⟩
  have HP3 := Aside0.mk (Kd.C_below HP2.out hb3)
  have HX3 := Aside0.mk (Kd.C_below HX2.out hb3)
  have HB3 := Aside0.mk (below_step HB2.out hb3)
  clear hb3 HP2 HX2 HB2
  go_wp2_with fail
  refine (slices_Min.calls _ _ p (minTo p p.length) _ HP3.out HPc.out (by have := HVP.out.1; have := HVP.out.2.1; unfold slices_Min.f; rw [if_pos (by omega), if_pos (by omega)])).mono ?_
  rintro e w4 ⟨rfl, hb4⟩
  have HP4 := Aside0.mk (Kd.C_below HP3.out hb4)
  have HX4 := Aside0.mk (Kd.C_below HX3.out hb4)
  have HB4 := Aside0.mk (below_step HB3.out hb4)
  clear hb4 HP3 HX3 HB3
  have hfar : wrap64 (maxTo p p.length - minTo p p.length) = far p := by
    have h := far_ok p HVP.out
    unfold wrap64 far
    omega
  go_wp2
  simp only [hfar]
  clear hfar
  go_loopw [34] (fun i w' => ∃ k : Nat, k ≤ x.length ∧ i = .int .i64 k ∧ Aside0 (Below w4.heap.size w4 w')) (fun i _ => x.length - (intOf i).toNat)
  case atStart => exact ⟨0, Nat.zero_le _, rfl, ⟨Below.refl _ _⟩⟩
  case round =>
    obtain ⟨k, hk, rfl, HB⟩ := hrel
    by_cases hlt : k < x.length
    · have hlb : decide ((k : Int) < (x.length : Int)) = true := decide_eq_true (by omega)
      have hp' : 0 ≤ (k : Int) := by omega
      have hq' : (k : Int) < (x.length : Int) := by omega
      obtain ⟨ad, hae, hxa, hxb, hxc⟩ := Q.at_T48 (Kd.C_below HX4.out HB.out) (k : Int) hp' hq'
      cases hae
      obtain ⟨s, hs⟩ : ∃ s : Tk, Q.rd_T48 x (k : Int) = s := ⟨_, rfl⟩
      have hsx : s ∈ x := by rw [← hs, rdT_get x k hlt]; exact List.getElem_mem hlt
      have HS := Aside0.mk (HVX.out.1.2 s hsx)
      rw [hs] at hxa hxb hxc
      simp only [Int.toNat_natCast] at hxa hxb hxc
      replace hp' := eq_true hp'
      replace hq' := eq_true hq'
      clear hs hsx
      obtain ⟨iw, hiw, _⟩ := Option.map_eq_some_iff.1 Q.info48
      have hcut : ∀ W : World, (Instr.slice 41 (.slice (some ad) x.length cX) none (some (.int .i64 (k : Int))) none).run Try.prog W = .ok (.slice (some ad) k cX) W := by
        have h_ := cut_to (P := Try.prog) 41 48 .i64 Try.underlying41 hiw (some ad) x.length cX (k : Int) (by omega) (by omega) HXc.out
        rw [Int.toNat_natCast] at h_
        exact h_
      go_wp2_with (first
        | ((with_reducible refine gate_dst (N := 9) rfl ?_); refine box_event ?hg (N := 9) ?hd (cs := #[.int .i64 0, .int .i64 0, .int .i64 0]) (t := 48) ?hr ?_; (case hd => rfl); (case hg => rfl); (case hr => first | (go_simp; done) | (go_simp; rfl)); intro g1 hg w5 hbox hb; have HB5 := Aside0.mk (below_step HB.out hb); have BK5 := Aside0.mk (show Box3 w5 g1 ⟨0, 0, 0⟩ from hbox); have GW1 := Aside0.mk (show w4.heap.size ≤ g1 from by rw [hg]; exact below_size HB.out); clear hb hbox hg; have hcz_0 : w5.cell? ⟨g1, 0, none⟩ = some (.int .i64 0) := (blk_cell BK5.out 0).trans rfl; have hcz_1 : w5.cell? ⟨g1, 1, none⟩ = some (.int .i64 0) := (blk_cell BK5.out 1).trans rfl; have hcz_2 : w5.cell? ⟨g1, 2, none⟩ = some (.int .i64 0) := (blk_cell BK5.out 2).trans rfl; have hfz_0 := blk_frozen BK5.out 0; have hfz_1 := blk_frozen BK5.out 1; have hfz_2 := blk_frozen BK5.out 2)
        | ((with_reducible refine gate_store (t := 48) (p := 9) rfl ?_); refine store_event (t := 48) (p := 9) (v := ?vo) (w1 := put3 w5 g1 s) ?hg ?ho ?hn ?hr ?_; (case ho => rfl); (case hg => rfl); (case hn => rfl); (case hr => unfold put3; first | (go_simp; done) | (go_simp; rfl)); intro w6 hw; have BK6 := Aside0.mk (show Box3 w6 g1 s from hw ▸ box_put BK5.out s); have HB6 := Aside0.mk (show Below w4.heap.size w4 w6 from hw ▸ below_put HB5.out GW1.out s); clear hw hcz_0 hcz_1 hcz_2 hfz_0 hfz_1 hfz_2))
      clear hcut hxa hxb hxc hp' hq' hiw
      have HXT := Aside0.mk (show Kd.C Q.k48 w6 (some ad) k (x.take k) from by
        have h_ := Kd.C_take (m := k) (Kd.C_below HX4.out HB6.out) (Nat.le_of_lt hlt)
        rw [show (x.take k).length = k by rw [List.length_take]; omega] at h_
        exact h_)
      go_loopw [43] (fun i w' => ∃ j : Nat, j ≤ k ∧ i = .int .i64 j ∧ Aside0 (Below w6.heap.size w6 w')) (fun i _ => k - (intOf i).toNat)
      case atStart => exact ⟨0, Nat.zero_le _, rfl, ⟨Below.refl _ _⟩⟩
      case round =>
        clear HB HB5 BK5
        obtain ⟨j, hj, rfl, HI⟩ := hrel
        by_cases hjk : j < k
        · have hjb : decide ((j : Int) < (k : Int)) = true := decide_eq_true (by omega)
          have hjb2 : decide (j < k) = true := decide_eq_true hjk
          have hp' : 0 ≤ (j : Int) := by omega
          have hq' : (j : Int) < (k : Int) := by omega
          obtain ⟨ad2, hae, hxa, hxb, hxc⟩ := Q.at_T48 (Kd.C_below HXT.out HI.out) (j : Int) hp' (by omega)
          cases hae
          obtain ⟨y, hy⟩ : ∃ y : Tk, Q.rd_T48 (x.take k) (j : Int) = y := ⟨_, rfl⟩
          have hyx : y ∈ x := by
            rw [← hy, rdT_get (x.take k) j (by rw [List.length_take]; omega), List.getElem_take]
            exact List.getElem_mem _
          have HY := Aside0.mk (HVX.out.1.2 y hyx)
          rw [hy] at hxa hxb hxc
          simp only [Int.toNat_natCast] at hxa hxb hxc
          replace hp' := eq_true hp'
          replace hq' := eq_true hq'
          clear hy hyx
          obtain ⟨c, s1, s2, h1, h2, hc, hs1, hs2, ⟨kd1, hd1⟩, ⟨kd2, hd2⟩, hlaw⟩ := pair_law p HVP.out s y HS.out HY.out
          have HCL := Aside0.mk hc
          have HS1 := Aside0.mk hs1
          have HS2 := Aside0.mk hs2
          have HD1 := Aside0.mk hd1
          have HD2 := Aside0.mk hd2
          have HLAW := Aside0.mk hlaw
          clear hc hs1 hs2 hd1 hd2 hlaw
          go_upto_region 11 with (fail)
          have HI8a := Aside0.mk (below_step HI.out (below_alloc (Below.refl _ _) (Obj.cells #[.int .i64 y.f0, .int .i64 y.f1, .int .i64 y.f2] 48)))
          have BYa := Aside0.mk (show Box3 (wr.alloc (Obj.cells #[.int .i64 y.f0, .int .i64 y.f1, .int .i64 y.f2] 48)) wr.heap.size y from blk_new wr _)
          generalize wr.alloc (Obj.cells #[.int .i64 y.f0, .int .i64 y.f1, .int .i64 y.f2] 48) = w8 at HI8a BYa ⊢
          generalize wr.heap.size = g2 at BYa ⊢
          have HI8 := HI8a
          have BKY := BYa
          clear HI8a BYa hxa hxb hxc hp' hq'
          have BKS := Aside0.mk (show Box3 w8 g1 s from blk_below BK6.out HI8.out)
          have ha_0 : w8.cell? ⟨g1, 0, none⟩ = some (.int .i64 s.f0) := (blk_cell BKS.out 0).trans rfl
          have ha_1 : w8.cell? ⟨g1, 1, none⟩ = some (.int .i64 s.f1) := (blk_cell BKS.out 1).trans rfl
          have ha_2 : w8.cell? ⟨g1, 2, none⟩ = some (.int .i64 s.f2) := (blk_cell BKS.out 2).trans rfl
          have hb_0 : w8.cell? ⟨g2, 0, none⟩ = some (.int .i64 y.f0) := (blk_cell BKY.out 0).trans rfl
          have hb_1 : w8.cell? ⟨g2, 1, none⟩ = some (.int .i64 y.f1) := (blk_cell BKY.out 1).trans rfl
          have hb_2 : w8.cell? ⟨g2, 2, none⟩ = some (.int .i64 y.f2) := (blk_cell BKY.out 2).trans rfl
          go_wp2_with (first
            | ((with_reducible refine gate_dst (N := 49) rfl ?_); refine Kd.R_lit Q.k48 _ 48 ?hg (N := 49) ?hd (xs := ([s, y] : List Tk)) (inner := [.int .i64 s.f0, .int .i64 s.f1, .int .i64 s.f2, .int .i64 y.f0, .int .i64 y.f1, .int .i64 y.f2]) (ok := fun _ => True) (okp := fun _ => True) ?hr ?hp (fun _ hk => hk) trivial (Below.refl _ _) (Nat.le_refl _) (by simp) ?_; (case hd => rfl); (case hg => rfl); (case hr => first | (go_simp; done) | (go_simp; rfl)); (case hp => exact (Reps.c3 (show Kd.M Q.k48 _ _ _ s [.int .i64 s.f0, .int .i64 s.f1, .int .i64 s.f2] from (Q.k48_mkM _ _ _ s)) (Reps.c3 (show Kd.M Q.k48 _ _ _ y [.int .i64 y.f0, .int .i64 y.f1, .int .i64 y.f2] from (Q.k48_mkM _ _ _ y)) (Reps.none _ _)))); intro v9 w9 ho9 hb hg_ hnew_; clear hg_ hnew_; have HI9 := Aside0.mk (below_step HI8.out hb); have BY9 := Aside0.mk (show Box3 w9 g2 y from blk_below BKY.out hb); obtain ⟨A9, c9, rfl⟩ := Kd.R_slice ho9; have HL9 := Aside0.mk (Kd.R_reads' ho9).2.2; have HC9 := Aside0.mk (Kd.R_reads' ho9).2.1; clear HI8 BKY BKS hb ho9 ha_0 ha_1 ha_2 hb_0 hb_1 hb_2))
          refine (Q.medium_Clear.calls 100 _ _ p _ _ [s, y] [c, c] 0 _ (Kd.C_below HP4.out (below_step HB6.out HI9.out)) HPc.out HL9.out HC9.out HCL.out).mono ?_
          rintro e w10 ⟨v10, rfl, hO, hb⟩
          obtain ⟨go, c10, rfl, _, _, _, _⟩ := Kd.R_form hO (by simp)
          have hrd := (Kd.R_reads' hO).2.2
          obtain ⟨ad3, hae, hr0⟩ := Kd.at_bool hrd 0 (by decide) (by simp)
          obtain rfl := Option.some.inj hae
          obtain ⟨ad4, hae2, hr1⟩ := Kd.at_bool hrd 1 (by decide) (by simp)
          obtain rfl := Option.some.inj hae2
          rw [add_plain] at hr0 hr1
          have hr0' : w10.cell? ⟨go, 0, none⟩ = some (.bool c) := hr0
          have hr1' : w10.cell? ⟨go, 1, none⟩ = some (.bool c) := hr1
          have HI10 := Aside0.mk (below_step HI9.out hb)
          have BY10 := Aside0.mk (show Box3 w10 g2 y from blk_below BY9.out hb)
          have BS10 := Aside0.mk (show Box3 w10 g1 s from blk_below BK6.out HI10.out)
          clear hrd hO hb hr0 hr1 hae hae2 HI9 BY9
          have ha_0 : w10.cell? ⟨g1, 0, none⟩ = some (.int .i64 s.f0) := (blk_cell BS10.out 0).trans rfl
          have ha_1 : w10.cell? ⟨g1, 1, none⟩ = some (.int .i64 s.f1) := (blk_cell BS10.out 1).trans rfl
          have ha_2 : w10.cell? ⟨g1, 2, none⟩ = some (.int .i64 s.f2) := (blk_cell BS10.out 2).trans rfl
          have hb_0 : w10.cell? ⟨g2, 0, none⟩ = some (.int .i64 y.f0) := (blk_cell BY10.out 0).trans rfl
          have hb_1 : w10.cell? ⟨g2, 1, none⟩ = some (.int .i64 y.f1) := (blk_cell BY10.out 1).trans rfl
          have hb_2 : w10.cell? ⟨g2, 2, none⟩ = some (.int .i64 y.f2) := (blk_cell BY10.out 2).trans rfl
          go_wp2_with (fail)
          have hkw : wrap64 ((j : Int) + 1) = ((j + 1 : Nat) : Int) := by unfold wrap64; have := HVX.out.1.1; omega
          cases c with
          | true =>
            go_quiet (fail)
            have HI11 := Aside0.mk (pw_below_drewN HI10.out nq)
            go_wp2
            go_roundw
            case rel => exact ⟨j + 1, hjk, by rw [hkw], HI11⟩
            case measure => rw [hkw]; simp only [intOf, Int.toNat_natCast]; omega
          | false =>
            go_quiet (fail)
            have hr2 : (w10.drewN nq).cell? ⟨go, 0, none⟩ = some (.bool false) := hr0'
            have HI11 := Aside0.mk (pw_below_drewN HI10.out nq)
            have BY11 := Aside0.mk (show Box3 (w10.drewN nq) g2 y from BY10.out)
            have BS11 := Aside0.mk (show Box3 (w10.drewN nq) g1 s from BS10.out)
            clear hr0' hr1' HI10 BY10 BS10
            clear ha_0 ha_1 ha_2 hb_0 hb_1 hb_2
            generalize w10.drewN nq = w11 at hr2 HI11 BY11 BS11 ⊢
            have ha_0 : w11.cell? ⟨g1, 0, none⟩ = some (.int .i64 s.f0) := (blk_cell BS11.out 0).trans rfl
            have ha_1 : w11.cell? ⟨g1, 1, none⟩ = some (.int .i64 s.f1) := (blk_cell BS11.out 1).trans rfl
            have ha_2 : w11.cell? ⟨g1, 2, none⟩ = some (.int .i64 s.f2) := (blk_cell BS11.out 2).trans rfl
            have hb_0 : w11.cell? ⟨g2, 0, none⟩ = some (.int .i64 y.f0) := (blk_cell BY11.out 0).trans rfl
            have hb_1 : w11.cell? ⟨g2, 1, none⟩ = some (.int .i64 y.f1) := (blk_cell BY11.out 1).trans rfl
            have hb_2 : w11.cell? ⟨g2, 2, none⟩ = some (.int .i64 y.f2) := (blk_cell BY11.out 2).trans rfl
            obtain ⟨m, hm⟩ : ∃ m : Int, (if y.f2 < s.f2 then y.f2 else s.f2) = m := ⟨_, rfl⟩
            have HM := Aside0.mk (show m ≤ y.f2 ∧ m ≤ s.f2 from by rw [← hm]; split <;> omega)
            have hfar2 : wrap64 (2 * far p) = 2 * far p := by
              have h := far_ok p HVP.out
              unfold wrap64 far
              omega
            by_cases hmf : m < 2 * far p
            · have hmd : decide (m < 2 * far p) = true := decide_eq_true hmf
              clear hmf
              go_wp2
              go_roundw
              case rel => exact ⟨j + 1, hjk, by rw [hkw], HI11⟩
              case measure => rw [hkw]; simp only [intOf, Int.toNat_natCast]; omega
            · have hmd : decide (m < 2 * far p) = false := decide_eq_false hmf
              have HF := Aside0.mk (show 2 * far p ≤ s.f2 ∧ 2 * far p ≤ y.f2 from by have := HM.out; omega)
              clear hmf
              go_wp2_with (first
                | ((with_reducible refine gate_dst (N := 88) rfl ?_); refine Kd.R_lit Q.k48 _ 48 ?hg (N := 88) ?hd (xs := ([y] : List Tk)) (inner := [.int .i64 y.f0, .int .i64 y.f1, .int .i64 y.f2]) (ok := fun _ => True) (okp := fun _ => True) ?hr ?hp (fun _ hk => hk) trivial (Below.refl _ _) (Nat.le_refl _) (by simp) ?_; (case hd => rfl); (case hg => rfl); (case hr => first | (go_simp; done) | (go_simp; rfl)); (case hp => exact (Reps.c3 (show Kd.M Q.k48 _ _ _ y [.int .i64 y.f0, .int .i64 y.f1, .int .i64 y.f2] from (Q.k48_mkM _ _ _ y)) (Reps.none _ _))); intro v9 w12 ho9 hb hg_ hnew_; clear hg_ hnew_; have HI12 := Aside0.mk (below_step HI11.out hb); have BY12 := Aside0.mk (show Box3 w12 g2 y from blk_below BY11.out hb); have BS12 := Aside0.mk (show Box3 w12 g1 s from blk_below BS11.out hb); obtain ⟨A12, c12, rfl⟩ := Kd.R_slice ho9; have HL12 := Aside0.mk (Kd.R_reads' ho9).2.2; have HC12 := Aside0.mk (Kd.R_reads' ho9).2.1; clear hb ho9; clear ha_0 ha_1 ha_2 hb_0 hb_1 hb_2; have ha_0 : w12.cell? ⟨g1, 0, none⟩ = some (.int .i64 s.f0) := (blk_cell BS12.out 0).trans rfl; have ha_1 : w12.cell? ⟨g1, 1, none⟩ = some (.int .i64 s.f1) := (blk_cell BS12.out 1).trans rfl; have ha_2 : w12.cell? ⟨g1, 2, none⟩ = some (.int .i64 s.f2) := (blk_cell BS12.out 2).trans rfl; have hb_0 : w12.cell? ⟨g2, 0, none⟩ = some (.int .i64 y.f0) := (blk_cell BY12.out 0).trans rfl; have hb_1 : w12.cell? ⟨g2, 1, none⟩ = some (.int .i64 y.f1) := (blk_cell BY12.out 1).trans rfl; have hb_2 : w12.cell? ⟨g2, 2, none⟩ = some (.int .i64 y.f2) := (blk_cell BY12.out 2).trans rfl))
              refine (Q.medium_Sense.calls 100 _ _ p _ _ [y] s.f0 s.f1 s1 0 _ (Kd.C_below HP4.out (below_step HB6.out HI12.out)) HPc.out HL12.out HC12.out HS1.out).mono ?_
              rintro e w13 ⟨rfl, hb⟩
              have HI13 := Aside0.mk (below_step HI12.out hb)
              have BY13 := Aside0.mk (show Box3 w13 g2 y from blk_below BY12.out hb)
              have BS13 := Aside0.mk (show Box3 w13 g1 s from blk_below BS12.out hb)
              clear hb HI12 BY12 BS12 HL12 HC12 HI11 BY11 BS11 hr2
              clear ha_0 ha_1 ha_2 hb_0 hb_1 hb_2
              have ha_0 : w13.cell? ⟨g1, 0, none⟩ = some (.int .i64 s.f0) := (blk_cell BS13.out 0).trans rfl
              have ha_1 : w13.cell? ⟨g1, 1, none⟩ = some (.int .i64 s.f1) := (blk_cell BS13.out 1).trans rfl
              have ha_2 : w13.cell? ⟨g1, 2, none⟩ = some (.int .i64 s.f2) := (blk_cell BS13.out 2).trans rfl
              have hb_0 : w13.cell? ⟨g2, 0, none⟩ = some (.int .i64 y.f0) := (blk_cell BY13.out 0).trans rfl
              have hb_1 : w13.cell? ⟨g2, 1, none⟩ = some (.int .i64 y.f1) := (blk_cell BY13.out 1).trans rfl
              have hb_2 : w13.cell? ⟨g2, 2, none⟩ = some (.int .i64 y.f2) := (blk_cell BY13.out 2).trans rfl
              go_wp2_with (first
                | ((with_reducible refine gate_dst (N := 99) rfl ?_); refine Kd.R_lit Q.k48 _ 48 ?hg (N := 99) ?hd (xs := ([s] : List Tk)) (inner := [.int .i64 s.f0, .int .i64 s.f1, .int .i64 s.f2]) (ok := fun _ => True) (okp := fun _ => True) ?hr ?hp (fun _ hk => hk) trivial (Below.refl _ _) (Nat.le_refl _) (by simp) ?_; (case hd => rfl); (case hg => rfl); (case hr => first | (go_simp; done) | (go_simp; rfl)); (case hp => exact (Reps.c3 (show Kd.M Q.k48 _ _ _ s [.int .i64 s.f0, .int .i64 s.f1, .int .i64 s.f2] from (Q.k48_mkM _ _ _ s)) (Reps.none _ _))); intro v9 w14 ho9 hb hg_ hnew_; clear hg_ hnew_; have HI14 := Aside0.mk (below_step HI13.out hb); have BY14 := Aside0.mk (show Box3 w14 g2 y from blk_below BY13.out hb); have BS14 := Aside0.mk (show Box3 w14 g1 s from blk_below BS13.out hb); obtain ⟨A14, c14, rfl⟩ := Kd.R_slice ho9; have HL14 := Aside0.mk (Kd.R_reads' ho9).2.2; have HC14 := Aside0.mk (Kd.R_reads' ho9).2.1; clear hb ho9; clear ha_0 ha_1 ha_2 hb_0 hb_1 hb_2; have ha_0 : w14.cell? ⟨g1, 0, none⟩ = some (.int .i64 s.f0) := (blk_cell BS14.out 0).trans rfl; have ha_1 : w14.cell? ⟨g1, 1, none⟩ = some (.int .i64 s.f1) := (blk_cell BS14.out 1).trans rfl; have ha_2 : w14.cell? ⟨g1, 2, none⟩ = some (.int .i64 s.f2) := (blk_cell BS14.out 2).trans rfl; have hb_0 : w14.cell? ⟨g2, 0, none⟩ = some (.int .i64 y.f0) := (blk_cell BY14.out 0).trans rfl; have hb_1 : w14.cell? ⟨g2, 1, none⟩ = some (.int .i64 y.f1) := (blk_cell BY14.out 1).trans rfl; have hb_2 : w14.cell? ⟨g2, 2, none⟩ = some (.int .i64 y.f2) := (blk_cell BY14.out 2).trans rfl))
              refine (Q.medium_Sense.calls 100 _ _ p _ _ [s] y.f0 y.f1 s2 0 _ (Kd.C_below HP4.out (below_step HB6.out HI14.out)) HPc.out HL14.out HC14.out HS2.out).mono ?_
              rintro e w15 ⟨rfl, hb⟩
              have HI15 := Aside0.mk (below_step HI14.out hb)
              have BY15 := Aside0.mk (show Box3 w15 g2 y from blk_below BY14.out hb)
              have BS15 := Aside0.mk (show Box3 w15 g1 s from blk_below BS14.out hb)
              clear hb HI14 BY14 BS14 HL14 HC14 HI13 BY13 BS13
              clear ha_0 ha_1 ha_2 hb_0 hb_1 hb_2
              have ha_0 : w15.cell? ⟨g1, 0, none⟩ = some (.int .i64 s.f0) := (blk_cell BS15.out 0).trans rfl
              have ha_1 : w15.cell? ⟨g1, 1, none⟩ = some (.int .i64 s.f1) := (blk_cell BS15.out 1).trans rfl
              have ha_2 : w15.cell? ⟨g1, 2, none⟩ = some (.int .i64 s.f2) := (blk_cell BS15.out 2).trans rfl
              have hb_0 : w15.cell? ⟨g2, 0, none⟩ = some (.int .i64 y.f0) := (blk_cell BY15.out 0).trans rfl
              have hb_1 : w15.cell? ⟨g2, 1, none⟩ = some (.int .i64 y.f1) := (blk_cell BY15.out 1).trans rfl
              have hb_2 : w15.cell? ⟨g2, 2, none⟩ = some (.int .i64 y.f2) := (blk_cell BY15.out 2).trans rfl
              cases s1 with
              | false =>
                go_wp2
                go_roundw
                case rel => exact ⟨j + 1, hjk, by rw [hkw], HI15⟩
                case measure => rw [hkw]; simp only [intOf, Int.toNat_natCast]; omega
              | true =>
                cases s2 with
                | false =>
                  go_wp2
                  go_roundw
                  case rel => exact ⟨j + 1, hjk, by rw [hkw], HI15⟩
                  case measure => rw [hkw]; simp only [intOf, Int.toNat_natCast]; omega
                | true =>
                  obtain ⟨e1, e2⟩ := HLAW.out (by first | trivial | rfl) HF.out.1 HF.out.2 (by first | trivial | rfl) (by first | trivial | rfl)
                  subst e1
                  subst e2
                  go_wp2_with (fail)
                  refine (Q.patchbaykeep1_heardDuring.calls kd1 _ _ p s.f0 s.f1 s.f2 y.f0 y.f1 y.f2 true _ (Kd.C_below HP4.out (below_step HB6.out HI15.out)) HPc.out HD1.out).mono ?_
                  rintro e w16 ⟨rfl, hb⟩
                  have HI16 := Aside0.mk (below_step HI15.out hb)
                  have BY16 := Aside0.mk (show Box3 w16 g2 y from blk_below BY15.out hb)
                  have BS16 := Aside0.mk (show Box3 w16 g1 s from blk_below BS15.out hb)
                  clear hb HI15 BY15 BS15
                  clear ha_0 ha_1 ha_2 hb_0 hb_1 hb_2
                  have ha_0 : w16.cell? ⟨g1, 0, none⟩ = some (.int .i64 s.f0) := (blk_cell BS16.out 0).trans rfl
                  have ha_1 : w16.cell? ⟨g1, 1, none⟩ = some (.int .i64 s.f1) := (blk_cell BS16.out 1).trans rfl
                  have ha_2 : w16.cell? ⟨g1, 2, none⟩ = some (.int .i64 s.f2) := (blk_cell BS16.out 2).trans rfl
                  have hb_0 : w16.cell? ⟨g2, 0, none⟩ = some (.int .i64 y.f0) := (blk_cell BY16.out 0).trans rfl
                  have hb_1 : w16.cell? ⟨g2, 1, none⟩ = some (.int .i64 y.f1) := (blk_cell BY16.out 1).trans rfl
                  have hb_2 : w16.cell? ⟨g2, 2, none⟩ = some (.int .i64 y.f2) := (blk_cell BY16.out 2).trans rfl
                  go_wp2_with (fail)
                  refine (Q.patchbaykeep1_heardDuring.calls kd2 _ _ p y.f0 y.f1 y.f2 s.f0 s.f1 s.f2 true _ (Kd.C_below HP4.out (below_step HB6.out HI16.out)) HPc.out HD2.out).mono ?_
                  rintro e w17 ⟨rfl, hb⟩
                  have HI17 := Aside0.mk (below_step HI16.out hb)
                  clear hb
                  go_wp2
                  go_roundw
                  case rel => exact ⟨j + 1, hjk, by rw [hkw], HI17⟩
                  case measure => rw [hkw]; simp only [intOf, Int.toNat_natCast]; omega
        · obtain rfl : k = j := by omega
          have hjb : decide ((k : Int) < (k : Int)) = false := decide_eq_false (by omega)
          have hkw : wrap64 ((k : Int) + 1) = ((k + 1 : Nat) : Int) := by unfold wrap64; have := HVX.out.1.1; omega
          have HB7 := Aside0.mk (below_step HB6.out HI.out)
          go_wp2
          go_roundw
          case rel => exact ⟨k + 1, hlt, by rw [hkw], HB7⟩
          case measure =>
            show x.length - (intOf (.int .i64 (wrap64 ((k : Int) + 1)))).toNat < x.length - (intOf (.int .i64 (k : Int))).toNat
            rw [hkw]
            simp only [intOf, Int.toNat_natCast]
            omega
    · obtain rfl : k = x.length := by omega
      have hlb : decide ((x.length : Int) < (x.length : Int)) = false := decide_eq_false (by omega)
      go_wp2
      go_ret
      exact ⟨rfl, below_step HB4.out HB.out⟩
end Go.Proofs.Ytkdncfbbhbmaaaa.Ext
