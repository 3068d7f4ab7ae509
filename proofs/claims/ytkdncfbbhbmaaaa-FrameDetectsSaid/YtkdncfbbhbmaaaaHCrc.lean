/- The calls crc.table and crc.Sum do what the plain register says: a walk. -/
import Derived.Test.YtkdncfbbhbmaaaaQf75
import Derived.Test.YtkdncfbbhbmaaaaKCrc
import Derived.Laws.NewBlocks
import Derived.Lib.Hide
namespace Go.Proofs.Ytkdncfbbhbmaaaa.Ext
open Go.RowKit Go.Proofs.YtkdncfbbhbmaaaaW.PrintWords Go.Proofs.YtkdncfbbhbmaaaaW.PrintLast Go.Proofs.YtkdncfbbhbmaaaaW.PrintMore Go.Proofs.Ytkdncfbbhbmaaaa.K
theorem half_f (c : Nat) (h : c < 4294967296) : Q.crc_half.f (c : Int) = some ((crcHalf c : Nat) : Int) := by
  unfold Q.crc_half.f crcHalf
  rw [andU32 c h]
  by_cases h1 : c % 2 = 1
  · rw [if_pos (by omega), if_pos h1, show ((c : Int) / 2) = ((c / 2 : Nat) : Int) by omega, show (3988292384 : Int) = ((3988292384 : Nat) : Int) from rfl, xorU32 _ _ (by omega) (by omega)]
  · rw [if_neg (by omega), if_neg h1]
    rfl
theorem half_run (a0 r : Int) (w : World) (h : Q.crc_half.f a0 = some r) : Calls Try.prog 75 #[.int .u32 a0] w fun e w' => e = .returned (.int .u32 r) ∧ w = w' := by
  unfold Q.crc_half.f at h
  by_cases c2 : (Go.bits .and .u32 a0 1) = 1
  · rw [if_pos c2] at h
    obtain rfl := Option.some.inj h
    have c2b : ((Go.bits .and .u32 a0 1) == 1) = true := beq_iff_eq.mpr c2
    clear c2 h
    go_enter Try.func75, Try.ntmps75
    go_wp2
    go_ret
    exact ⟨rfl, rfl⟩
  · rw [if_neg c2] at h
    obtain rfl := Option.some.inj h
    have c2b : ((Go.bits .and .u32 a0 1) == 1) = false := beq_eq_false_iff_ne.mpr c2
    clear c2 h
    go_enter Try.func75, Try.ntmps75
    go_wp2
    go_ret
    exact ⟨rfl, rfl⟩
theorem half_any (c : Nat) (w : World) (h : c < 4294967296) : Calls Try.prog 75 #[.int .u32 (c : Int)] w fun e w' => e = .returned (.int .u32 ((crcHalf c : Nat) : Int)) ∧ w = w' := half_run _ _ w (half_f c h)
/-- The table's first k rows; the others are 0. -/
def tabUpto (k : Nat) : Array Value := ((List.range 256).map fun i => Value.int .u32 (if i < k then ((crcIter 8 i : Nat) : Int) else 0)).toArray
theorem tabUpto_size (k : Nat) : (tabUpto k).size = 256 := by simp [tabUpto]
theorem tabUpto_get (k i : Nat) (h : i < 256) : (tabUpto k)[i]? = some (Value.int .u32 (if i < k then ((crcIter 8 i : Nat) : Int) else 0)) := by
  simp [tabUpto, h]
theorem tabUpto_set (k : Nat) : (tabUpto k).setIfInBounds k (Value.int .u32 ((crcIter 8 k : Nat) : Int)) = tabUpto (k + 1) := by
  apply Array.ext
  · simp [tabUpto]
  · intro i h1 h2
    have hi : i < 256 := by simpa [tabUpto] using h2
    simp only [tabUpto, List.getElem_toArray, List.getElem_map, List.getElem_range]
    by_cases e : k = i
    · subst e; simp
    · simp [e]
      congr 1
      exact propext ⟨fun _ => by omega, fun _ => by omega⟩
theorem tab0 : Try.zeroCells107 = tabUpto 0 := by kernel_rfl
theorem crcIter_wrap (i : Nat) (h : i < 256) : IntKind.u32.wrap (i : Int) = (i : Int) := by rw [IntKind.wrap_u32]; omega
theorem infoT : (Try.prog.info? 107).map (·.size) = some 256 := by kernel_rfl
theorem infoTk (k : Nat) : (Try.prog.info? 107).map (·.size) = some (tabUpto k).size := by rw [tabUpto_size]; exact infoT
theorem tabUpto_one (k : Nat) : (tabUpto k).all (·.oneCell') = true := by
  rw [Array.all_eq_true_iff_forall_mem]
  intro v hv
  simp only [tabUpto, List.mem_toArray, List.mem_map] at hv
  obtain ⟨i, _, rfl⟩ := hv
  rfl
theorem below_setRow {B : Nat} {w w1 : World} (h : Below B w w1) (g : Nat) (cs : Array Value) (hg : B ≤ g) : Below B w (w1.setRow g cs) :=
  ⟨h.os, h.tape, h.output, by simpa using h.size, fun k hk => (setRow_other w1 g k cs (by omega)).trans (h.block k hk)⟩
set_option maxHeartbeats 400000 in
set_option maxRecDepth 100000 in
theorem table_any (w : World) : Calls Try.prog 74 #[] w fun e w' => e = .returned (.agg (tabUpto 256)) ∧ Below w.heap.size w w' := by
  have Hz := Lib.hid tab0
  go_enter Try.func74, Try.ntmps74
  go_wp2
  go_loopw [3] (fun i wr => ∃ k : Nat, k ≤ 256 ∧ i = .int .i64 k ∧ wr = w.alloc (.cells (tabUpto k) 107)) (fun i _ => 256 - (intOf i).toNat)
  case atStart => exact ⟨0, by omega, rfl, by rw [Hz.out]⟩
  case round =>
    obtain ⟨k, hk, rfl, rfl⟩ := hrel
    by_cases hlt : k < 256
    · have hw := crcIter_wrap k hlt
      have hb : decide ((k : Int) < 256) = true := by simp; omega
      go_wp2
      go_loop [2, 8] (fun c j => ∃ m : Nat, m ≤ 8 ∧ j = .int .i64 m ∧ c = .int .u32 ((crcIter m k : Nat) : Int)) (fun _ j => 8 - (intOf j).toNat)
      case atStart => exact ⟨0, by omega, rfl, rfl⟩
      case round =>
        obtain ⟨m, hm, rfl, rfl⟩ := hrel
        by_cases hl8 : m < 8
        · go_wp2_with (go_at_call 75; refine (half_any _ _ (crcIter_lt m k (by omega))).mono ?_; rintro e w' ⟨rfl, rfl⟩)
          go_round
          case rel => exact ⟨m + 1, by omega, by go_num, rfl⟩
          case measure => simp [intOf]; omega
        · obtain rfl : m = 8 := by omega
          have Hs := Lib.hid (tabUpto_set k)
          have hc := tabUpto_get k k hlt
          go_wp2
          go_roundw
          case rel => exact ⟨k + 1, by omega, by go_num, by rw [← Hs.out]⟩
          case measure => simp [intOf]; omega
    · obtain rfl : k = 256 := by omega
      go_wp2_with (first | (with_reducible refine wpList_load_row rfl 107 (.tmp 0) rfl w.heap.size rfl 107 (tabUpto 256) (0, 0) _ (heap_alloc_new _ _) Try.underlying107 rfl (infoTk 256) ?_) | (with_reducible refine wpList_store_row rfl 107 (.tmp 0) (.tmp 17) rfl w.heap.size (tabUpto 256) rfl rfl 107 (tabUpto 256) (heap_alloc_new _ _) (infoTk 256) rfl (tabUpto_one 256) ?_))
      refine bodyPost_ret (v := .agg (tabUpto 256)) (results_cell_row rfl _ _ w.heap.size 107 (tabUpto 256) (0, 0) _ rfl (setRow_heap _ _ _ _ _ _ (heap_alloc_new _ _)) Try.underlying107 rfl (infoTk 256)) rfl ⟨rfl, ?_⟩
      exact below_setRow (below_alloc (Below.refl _ _) _) _ _ (Nat.le_refl _)
theorem after_table {w w1 : World} (hb : Below w.heap.size w w1) : ∃ W2, W2 = (w1.alloc (.cells Try.zeroCells107 107)).setRow w1.heap.size (tabUpto 256) ∧ Below w.heap.size w W2 ∧ (∀ i : Nat, i < 256 → W2.cell? ⟨w1.heap.size, i, none⟩ = some (.int .u32 ((crcIter 8 i : Nat) : Int))) :=
  ⟨_, rfl, below_setRow (below_alloc hb _) _ _ hb.size, fun i hi => by
    rw [cell_setRow_same _ _ _ _ _ _ _ (heap_alloc_new _ _), tabUpto_get 256 i hi, if_pos hi]⟩
theorem ret_int {k : IntKind} {a b : Int} (h : a = b) : Ending.returned (.int k a) = .returned (.int k b) := by rw [h]
theorem not_reg (l : List UInt8) : Go.bits .xor .u32 IntKind.u32.max (crcReg l : Int) = ((crcOf l : Nat) : Int) := by
  rw [show IntKind.u32.max = ((4294967295 : Nat) : Int) from rfl, xorU32 _ _ (by decide) (crcReg_lt l), Nat.xor_comm]
  rfl
theorem zeroT_size : Try.zeroCells107.size = 256 := by kernel_rfl
theorem take_snoc (s : ByteArray) (k : Nat) (h : k < s.size) : s.data.toList.take (k + 1) = s.data.toList.take k ++ [s[k]] := by
  rw [List.take_succ_eq_append_getElem (by simpa using h)]; rfl
set_option maxHeartbeats 400000 in
set_option maxRecDepth 100000 in
theorem sum_any (s : ByteArray) (w : World) (hs : s.size ≤ 9223372036854775807) : Calls Try.prog 57 #[.string s] w fun e w' => e = .returned (.int .u32 ((crcOf s.data.toList : Nat) : Int)) ∧ Below w.heap.size w w' := by
  go_enter Try.func57, Try.ntmps57
  go_wp2_with fail
  refine (table_any _).mono ?_
  rintro e w1 ⟨rfl, hb⟩
  obtain ⟨W2, hW2, hbel, hcell⟩ := after_table hb
  have HW := Lib.hid hW2
  clear hW2 hb
  go_wp2_with (refine wpList_store_row rfl 107 (.tmp 4) (.tmp 6) rfl w1.heap.size (tabUpto 256) rfl rfl 107 Try.zeroCells107 (heap_alloc_new _ _) (infoTk 256) (by rw [tabUpto_size, zeroT_size]) (tabUpto_one 256) ?_; rw [← HW.out])
  have HB := Aside0.mk hbel
  have HC := Aside0.mk hcell
  clear HW hbel hcell
  go_loop [3, 9] (fun c i => ∃ k : Nat, k ≤ s.size ∧ i = .int .i64 k ∧ c = .int .u32 ((crcReg (s.data.toList.take k) : Nat) : Int)) (fun _ i => s.size - (intOf i).toNat)
  case atStart => exact ⟨0, Nat.zero_le _, rfl, rfl⟩
  case round =>
    obtain ⟨k, hk, rfl, rfl⟩ := hrel
    by_cases hlt : k < s.size
    · have hr := crcReg_lt (s.data.toList.take k)
      have HS := Lib.hid (show crcReg (s.data.toList.take (k + 1)) = crcReg (s.data.toList.take k) / 256 ^^^ crcIter 8 (crcReg (s.data.toList.take k) % 256 ^^^ s[k].toNat) by rw [take_snoc s k hlt, crcReg_snoc, byte_step])
      obtain ⟨c, hc⟩ : ∃ c, c = crcReg (s.data.toList.take k) := ⟨_, rfl⟩
      rw [← hc] at HS hr ⊢
      clear hc
      have h1 := xor_byte (c % 256) s[k].toNat (Nat.mod_lt _ (by decide)) (UInt8.toNat_lt _)
      obtain ⟨j, hj⟩ : ∃ j, j = c % 256 ^^^ s[k].toNat := ⟨_, rfl⟩
      have hx := xorU8 (c % 256) s[k].toNat (Nat.mod_lt _ (by decide)) (UInt8.toNat_lt _)
      rw [← hj] at HS h1 hx
      clear hj
      rw [show (((c % 256 : Nat)) : Int) = (c : Int) % 256 by omega] at hx
      have hce := HC.out j h1
      have hy := xorU32 (c / 256) (crcIter 8 j) (by omega) (crcIter_lt 8 j (by omega))
      rw [show (((c / 256 : Nat)) : Int) = (c : Int) / 256 by omega] at hy
      go_wp2
      go_round
      case rel => exact ⟨k + 1, by omega, by go_num, by rw [HS.out]⟩
      case measure => simp [intOf]; omega
    · go_wp2
      go_ret
      exact ⟨ret_int (by rw [List.take_of_length_le (by simp; omega)]; exact not_reg _), HB.out⟩
/-- What crc.Sum tells of a string. -/
def crc_Sum.f (a0 : ByteArray) : Option Int := if a0.size ≤ 9223372036854775807 then some ((crcOf a0.data.toList : Nat) : Int) else none
theorem crc_Sum.calls (a0 : ByteArray) (r : Int) (w : World) (h : crc_Sum.f a0 = some r) : Calls Try.prog 57 #[.string a0] w fun e w' => e = .returned (.int .u32 r) ∧ Below w.heap.size w w' := by
  unfold crc_Sum.f at h
  by_cases hs : a0.size ≤ 9223372036854775807
  · rw [if_pos hs] at h
    obtain rfl := Option.some.inj h
    exact sum_any a0 w hs
  · rw [if_neg hs] at h
    cases h
end Go.Proofs.Ytkdncfbbhbmaaaa.Ext
