/- The walk of the law FrameDetects: for every frame, place and change it answers true. -/
import Derived.Test.YtkdncfbbhbmaaaaPWorks
import Derived.Test.YtkdncfbbhbmaaaaPDecode
import Derived.Test.YtkdncfbbhbmaaaaKDetect
import Derived.Test.YtkdncfbbhbmaaaaKWithin
import Derived.Test.YtkdncfbbhbmaaaaHMarked
import Derived.Test.YtkdncfbbhbmaaaaQf54
import Derived.Lib.Hide
namespace Go.Proofs.Ytkdncfbbhbmaaaa.Ext
open Go.RowKit Go.Proofs.YtkdncfbbhbmaaaaW.PrintWords Go.Proofs.YtkdncfbbhbmaaaaW.PrintLast Go.Proofs.YtkdncfbbhbmaaaaW.PrintMore Go.Proofs.Ytkdncfbbhbmaaaa.Br Go.Proofs.Ytkdncfbbhbmaaaa.K
theorem cut_200 (x : ByteArray) : Q.patchbaykeep1_cut.f x 200 = some (mkB ((lst x).take 200)) := by
  unfold Q.patchbaykeep1_cut.f mn
  have he : ∀ n : Nat, n = min x.size 200 → x.extract 0 n = mkB ((lst x).take 200) := fun n hn => by
    apply lst_inj
    rw [lst_extract, lst_mk, List.drop_zero, hn]
    rw [lst_size]
    rcases Nat.le_total (lst x).length 200 with z | z
    · rw [Nat.min_eq_left z, List.take_of_length_le (Nat.le_refl _), List.take_of_length_le z]
    · rw [Nat.min_eq_right z]
  by_cases c : (200 : Int) < (x.size : Int)
  · rw [if_pos c, if_pos (by decide), if_pos (by omega), he _ (by omega)]
  · rw [if_neg c, if_pos (by omega), if_pos (by omega), he _ (by omega)]
def FrameBox (w : World) (g : Nat) (d s t y : Int) (x : ByteArray) : Prop := w.heap[g]? = some (.cells #[.int .i64 d, .int .i64 s, .int .i64 t, .int .i64 y, .string x] 37 (0, 0))
set_option maxHeartbeats 1000000 in
set_option maxRecDepth 100000 in
theorem detects_any (d s t y : Int) (x : ByteArray) (at_ : Int) (c : UInt8) (w : World) :
    Calls Try.prog 18 #[.agg #[.int .i64 d, .int .i64 s, .int .i64 t, .int .i64 y, .string x], .int .i64 at_, .int .u8 (c.toNat : Int)] w fun e w' => e = .returned (.bool true) ∧ Below w.heap.size w w' := by
  have hu := Try.underlying37
  have HC := Aside0.mk (cut_200 x)
  go_enter Try.func18, Try.ntmps18
  go_wp2_with fail
  refine (Q.patchbaykeep1_frameWorks.calls 10 true _ (frameWorks_true 0)).mono ?_
  rintro e w1 ⟨rfl, hb1⟩
  have HK := Aside0.mk (show FrameBox w1 w.heap.size d s t y x from blk_below (heap_alloc_new _ _) hb1)
  have HB := Aside0.mk (below_step (below_alloc (Below.refl w.heap.size w) _) hb1)
  clear hb1
  have c4 : w1.cell? ⟨w.heap.size, 4, none⟩ = some (.string x) := (blk_cell HK.out 4).trans rfl
  have z4 := blk_frozen HK.out 4
  go_wp2_with fail
  refine (Q.patchbaykeep1_cut.calls x 200 _ _ HC.out).mono ?_
  rintro e w2 ⟨rfl, hb2⟩
  have HK2 := Aside0.mk (show FrameBox w2 w.heap.size d s t y x from blk_below HK.out hb2)
  have HB2 := Aside0.mk (below_step HB.out hb2)
  clear hb2 c4 z4
  have c0 : w2.cell? ⟨w.heap.size, 0, none⟩ = some (.int .i64 d) := (blk_cell HK2.out 0).trans rfl
  have c1 : w2.cell? ⟨w.heap.size, 1, none⟩ = some (.int .i64 s) := (blk_cell HK2.out 1).trans rfl
  have c2 : w2.cell? ⟨w.heap.size, 2, none⟩ = some (.int .i64 t) := (blk_cell HK2.out 2).trans rfl
  have c3 : w2.cell? ⟨w.heap.size, 3, none⟩ = some (.int .i64 y) := (blk_cell HK2.out 3).trans rfl
  have c4 : w2.cell? ⟨w.heap.size, 4, none⟩ = some (.string x) := (blk_cell HK2.out 4).trans rfl
  have z4 := blk_frozen HK2.out 4
  go_wp2_with fail
  have HB3 := Aside0.mk (show Below w.heap.size w (w2.setCell ⟨w.heap.size, 4, none⟩ (.string (mkB ((lst x).take 200)))) from HB2.out.setCell (Nat.le_refl _) _)
  clear c0 c1 c2 c3 c4 z4
  by_cases h : chk d s t y (mkB ((lst x).take 200)).size = 0
  · obtain ⟨f, hf, rfl, rfl, rfl, rfl, hb⟩ := good_chk d s t y _ h
    have HE := Aside0.mk (encode_ok 0 f hf)
    have HXB := Aside0.mk hb
    clear h hb
    refine (Q.frame_Encode.calls 10 _ _ _ _ _ _ _ _ (HXB.out ▸ HE.out)).mono ?_
    rintro e w4 ⟨rfl, hb4⟩
    have HB4 := Aside0.mk (below_step HB3.out hb4)
    clear hb4
    by_cases hc0 : c = 0
    · subst hc0
      go_wp2
      go_ret
      exact ⟨rfl, HB4.out⟩
    · have hcb : ((c.toNat : Int) == 0) = false := by
        rw [beq_eq_false_iff_ne]
        intro z
        exact hc0 (UInt8.toNat_inj.1 (by simpa using z))
      have HN := Aside0.mk hc0
      clear hc0
      have kb := fun (w : World) => run_bytes w (mkB (encL f))
      go_wp2_with fail
      obtain ⟨w5, hw5, hM, hb5⟩ := after_bytes HB4.out (mkB (encL f)) (grownCap w4 (mkB (encL f)).size 0 5)
      rw [← hw5]
      have HM := Aside0.mk (show MarkedAt w5 w4.heap.size (encL f) from hM)
      have HB5 := Aside0.mk hb5
      have HW := Aside0.mk (below_size HB4.out)
      clear hw5 hM hb5 kb
      have hlen : (bytesInts (mkB (encL f))).length = (encL f).length := by rw [bytesInts_length, mk_size]
      have hl1 := encL_length f
      have hl2 : 0 < (bytesInts (mkB (encL f))).length ∧ (bytesInts (mkB (encL f))).length ≤ 2000 := by
        have hb := hf.1.2.2.2.2.2
        rw [hlen, hl1]
        split <;> omega
      have HL := Aside0.mk hlen
      clear hl1 hlen
      refine (Q.patchbaykeep1_within.calls at_ _ _ _ (within_f at_ (bytesInts (mkB (encL f))).length hl2.1 (by omega))).mono ?_
      rintro e w' ⟨rfl, ⟨⟨nd, rfl⟩⟩⟩
      have hj := withinN_lt at_ (bytesInts (mkB (encL f))).length hl2.1
      generalize withinN at_ (bytesInts (mkB (encL f))).length = j at hj ⊢
      have hjl : j < (encL f).length := by have := HL.out; omega
      have hce : w5.cell? ⟨w4.heap.size, j, none⟩ = some (.int .u8 ((encL f)[j].toNat : Int)) := marked_cell HM.out j hjl
      have hfr : w5.frozen? ⟨w4.heap.size, j, none⟩ = false := marked_frozen HM.out j hjl
      have hxo : Go.bits .xor .u8 ((encL f)[j].toNat : Int) (c.toNat : Int) = (((encL f)[j].toNat ^^^ c.toNat : Nat) : Int) := xorU8 _ _ (UInt8.toNat_lt _) (UInt8.toNat_lt _)
      have hset := marked_set (marked_drewN HM.out nd) j ((encL f)[j] ^^^ c)
      have hl' : ((encL f).set j ((encL f)[j] ^^^ c)).length = (bytesInts (mkB (encL f))).length := by rw [List.length_set]; exact HL.out.symm
      have HD := Aside0.mk (show Q.frame_Decode.f 11 (mkB ((encL f).set j ((encL f)[j] ^^^ c))) = no 8 from by
        have hn : (mkB ((encL f).set j ((encL f)[j] ^^^ c))).size = (encL f).length := by rw [mk_size, List.length_set]
        have hb := hf.1.2.2.2.2.2
        have hlf := encL_length f
        refine decode_sum 11 _ (by rw [hn, hlf]; omega) (by rw [hn, hlf]; split <;> omega) ?_
        rw [lst_mk, mk_size]
        refine sealL_set (pad60 (encBody f)) j hjl _ ?_
        intro z
        refine HN.out ?_
        have z2 : ((encL f)[j] ^^^ c).toNat = (encL f)[j].toNat := congrArg UInt8.toNat z
        rw [UInt8.toNat_xor] at z2
        exact UInt8.toNat_inj.1 (xor_cancel_left _ _ _ (z2.trans (Nat.xor_zero _).symm)))
      generalize (encL f).set j ((encL f)[j] ^^^ c) = L' at hset hl' HD
      rw [UInt8.toNat_xor] at hset
      have hcv : (convert 81 9 (.slice (some ⟨w4.heap.size, 0, none⟩) (bytesInts (mkB (encL f))).length (grownCap w4 (mkB (encL f)).size 0 5))).run Try.prog ((w5.drewN nd).setCell ⟨w4.heap.size, j, none⟩ (.int .u8 (((encL f)[j].toNat ^^^ c.toNat : Nat) : Int))) = .ok (.string (mkB L')) ((w5.drewN nd).setCell ⟨w4.heap.size, j, none⟩ (.int .u8 (((encL f)[j].toNat ^^^ c.toNat : Nat) : Int))) := by
        have h0 := marked_string (c := grownCap w4 (mkB (encL f)).size 0 5) hset (by rw [hl']; omega)
        rw [hl'] at h0
        exact h0
      clear hset
      have HL2 := Aside0.mk hl'
      clear hl'
      go_wp2_with fail
      refine (Q.frame_Decode.calls 11 (mkB L') 0 0 0 0 _ 8 _ HD.out).mono ?_
      rintro e w7 ⟨rfl, hb7⟩
      have HB7 := Aside0.mk (below_step ((pw_below_drewN HB5.out nd).setCell HW.out _) hb7)
      clear hb7 hcv
      go_wp2
      go_ret
      exact ⟨rfl, HB7.out⟩
  · have hq : (chk d s t y (mkB ((lst x).take 200)).size != 0) = true := bne_iff_ne.mpr h
    refine (Q.frame_Encode.calls 10 _ _ _ _ _ _ _ _ (encode_bad 0 d s t y _ h)).mono ?_
    rintro e w4 ⟨rfl, hb4⟩
    have HB4 := Aside0.mk (below_step HB3.out hb4)
    clear h hb4
    go_wp2
    go_ret
    exact ⟨rfl, HB4.out⟩
end Go.Proofs.Ytkdncfbbhbmaaaa.Ext
