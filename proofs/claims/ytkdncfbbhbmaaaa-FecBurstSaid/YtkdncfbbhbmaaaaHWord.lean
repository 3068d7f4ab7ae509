/- The call fec.word gives a value's code word: a walk for each of the sixteen values; and fec.Word hands it back as a string. -/
import Derived.Test.YtkdncfbbhbmaaaaQ0
import Derived.Laws.NewBlocks
import Derived.Lib.Hide
import Derived.Lib.SlBytesConst
namespace Go.Proofs.Ytkdncfbbhbmaaaa.Ext
open Go.RowKit Go.Proofs.YtkdncfbbhbmaaaaW.PrintWords Go.Proofs.YtkdncfbbhbmaaaaW.PrintLast Go.Proofs.YtkdncfbbhbmaaaaW.PrintMore
theorem marked_get (w : World) (c : Array Value) (t : TypeId) (m : Nat × Nat) : (w.alloc (.cells c t m)).heap[w.heap.size]? = some (.cells c t m) := heap_alloc_new _ _
theorem setCell_marked {w : World} (c : Array Value) (t : TypeId) (m : Nat × Nat) (n i : Nat) (v : Value) (hn : n = w.heap.size) :
    (w.alloc (.cells c t m)).setCell ⟨n, i, none⟩ v = w.alloc (.cells (c.setIfInBounds i v) t m) := by
  subst hn
  unfold World.setCell World.alloc
  congr 1
  apply Array.ext_getElem?
  intro k
  simp only [Array.getElem?_modify, Array.getElem?_push]
  by_cases hk : w.heap.size = k
  · subst hk
    simp
  · rw [if_neg hk, if_neg (fun e => hk e.symm), if_neg (fun e => hk e.symm)]
theorem cell?_marked {w : World} (c : Array Value) (t : TypeId) (m : Nat × Nat) (n i : Nat) (hn : n = w.heap.size) : (w.alloc (.cells c t m)).cell? ⟨n, i, none⟩ = c[i]? := by
  subst hn
  unfold World.cell?
  rw [marked_get]
  rfl
theorem frozen?_marked {w : World} (c : Array Value) (t : TypeId) (m : Nat × Nat) (n i : Nat) (hn : n = w.heap.size) : (w.alloc (.cells c t m)).frozen? ⟨n, i, none⟩ = (decide (m.1 ≤ i) && decide (i < m.2)) := by
  subst hn
  unfold World.frozen?
  rw [marked_get]
attribute [local go_sem] setCell_marked cell?_marked frozen?_marked
theorem and_0 : Go.bits .and .i64 0 1 = 0 := by decide
theorem and_1 : Go.bits .and .i64 1 1 = 1 := by decide
theorem and_2 : Go.bits .and .i64 2 1 = 0 := by decide
theorem and_3 : Go.bits .and .i64 3 1 = 1 := by decide
theorem and_4 : Go.bits .and .i64 4 1 = 0 := by decide
theorem and_5 : Go.bits .and .i64 5 1 = 1 := by decide
theorem and_6 : Go.bits .and .i64 6 1 = 0 := by decide
theorem and_7 : Go.bits .and .i64 7 1 = 1 := by decide
theorem and_8 : Go.bits .and .i64 8 1 = 0 := by decide
theorem and_9 : Go.bits .and .i64 9 1 = 1 := by decide
theorem and_10 : Go.bits .and .i64 10 1 = 0 := by decide
theorem and_11 : Go.bits .and .i64 11 1 = 1 := by decide
theorem and_12 : Go.bits .and .i64 12 1 = 0 := by decide
theorem and_13 : Go.bits .and .i64 13 1 = 1 := by decide
theorem and_14 : Go.bits .and .i64 14 1 = 0 := by decide
theorem and_15 : Go.bits .and .i64 15 1 = 1 := by decide
theorem xor_0_3 : Go.bits .xor .i64 0 3 = 3 := by decide
theorem xor_0_5 : Go.bits .xor .i64 0 5 = 5 := by decide
theorem xor_0_6 : Go.bits .xor .i64 0 6 = 6 := by decide
theorem xor_0_7 : Go.bits .xor .i64 0 7 = 7 := by decide
theorem xor_1_3 : Go.bits .xor .i64 1 3 = 2 := by decide
theorem xor_1_5 : Go.bits .xor .i64 1 5 = 4 := by decide
theorem xor_1_6 : Go.bits .xor .i64 1 6 = 7 := by decide
theorem xor_1_7 : Go.bits .xor .i64 1 7 = 6 := by decide
theorem xor_2_3 : Go.bits .xor .i64 2 3 = 1 := by decide
theorem xor_2_5 : Go.bits .xor .i64 2 5 = 7 := by decide
theorem xor_2_6 : Go.bits .xor .i64 2 6 = 4 := by decide
theorem xor_2_7 : Go.bits .xor .i64 2 7 = 5 := by decide
theorem xor_3_3 : Go.bits .xor .i64 3 3 = 0 := by decide
theorem xor_3_5 : Go.bits .xor .i64 3 5 = 6 := by decide
theorem xor_3_6 : Go.bits .xor .i64 3 6 = 5 := by decide
theorem xor_3_7 : Go.bits .xor .i64 3 7 = 4 := by decide
theorem xor_4_3 : Go.bits .xor .i64 4 3 = 7 := by decide
theorem xor_4_5 : Go.bits .xor .i64 4 5 = 1 := by decide
theorem xor_4_6 : Go.bits .xor .i64 4 6 = 2 := by decide
theorem xor_4_7 : Go.bits .xor .i64 4 7 = 3 := by decide
theorem xor_5_3 : Go.bits .xor .i64 5 3 = 6 := by decide
theorem xor_5_5 : Go.bits .xor .i64 5 5 = 0 := by decide
theorem xor_5_6 : Go.bits .xor .i64 5 6 = 3 := by decide
theorem xor_5_7 : Go.bits .xor .i64 5 7 = 2 := by decide
theorem xor_6_3 : Go.bits .xor .i64 6 3 = 5 := by decide
theorem xor_6_5 : Go.bits .xor .i64 6 5 = 3 := by decide
theorem xor_6_6 : Go.bits .xor .i64 6 6 = 0 := by decide
theorem xor_6_7 : Go.bits .xor .i64 6 7 = 1 := by decide
theorem xor_7_3 : Go.bits .xor .i64 7 3 = 4 := by decide
theorem xor_7_5 : Go.bits .xor .i64 7 5 = 2 := by decide
theorem xor_7_6 : Go.bits .xor .i64 7 6 = 1 := by decide
theorem xor_7_7 : Go.bits .xor .i64 7 7 = 0 := by decide
attribute [local go_sem] and_0 and_1 and_2 and_3 and_4 and_5 and_6 and_7 and_8 and_9 and_10 and_11 and_12 and_13 and_14 and_15 xor_0_3 xor_0_5 xor_0_6 xor_0_7 xor_1_3 xor_1_5 xor_1_6 xor_1_7 xor_2_3 xor_2_5 xor_2_6 xor_2_7 xor_3_3 xor_3_5 xor_3_6 xor_3_7 xor_4_3 xor_4_5 xor_4_6 xor_4_7 xor_5_3 xor_5_5 xor_5_6 xor_5_7 xor_6_3 xor_6_5 xor_6_6 xor_6_7 xor_7_3 xor_7_5 xor_7_6 xor_7_7
/-- The seven characters of a value's code word. -/
def wordBits (n : Nat) : List Int := [48 + (n / 8 % 2 + n / 4 % 2 + n % 2 : Nat) % 2, 48 + (n / 8 % 2 + n / 2 % 2 + n % 2 : Nat) % 2, 48 + (n / 8 % 2 : Nat), 48 + (n / 4 % 2 + n / 2 % 2 + n % 2 : Nat) % 2, 48 + (n / 4 % 2 : Nat), 48 + (n / 2 % 2 : Nat), 48 + (n % 2 : Nat)]
def wordCells (n : Nat) : Array Value := ((wordBits n).map (Value.int .u8)).toArray
theorem back3 (w : World) (A B C : Obj) : (((w.alloc A).alloc B).alloc C).heap[w.heap.size]? = some A := by
  show (((w.heap.push A).push B).push C)[w.heap.size]? = some A
  rw [Array.getElem?_push, if_neg (by simp; omega), Array.getElem?_push, if_neg (by simp), Array.getElem?_push, if_pos rfl]
def WordAt (n : Nat) (w w' : World) (e : Ending) : Prop := ∃ B, e = .returned (.slice (some ⟨B, 0, none⟩) 7 7) ∧ w.heap.size ≤ B ∧ w'.heap[B]? = some (.cells (wordCells n) 5 (7, 8)) ∧ Below w.heap.size w w'
set_option maxHeartbeats 1000000 in
set_option maxRecDepth 100000 in
theorem word_0 (w : World) : Calls Try.prog 59 #[.int .i64 0] w fun e w' => WordAt 0 w w' e := by
  have kc := fun (w : World) (C : Array Value) (n c : Nat) => Lib.run_convert_bytes_const (P := Try.prog) w 81 5 C n c Try.underlying81 Try.underlying5
  go_enter Try.func59, Try.ntmps59
  go_wp2
  refine wp_loop_rounds 5 ?_
  iterate 5 (rw [rounds_succ]; go_wp2)
  refine wp_loop_rounds 4 ?_
  iterate 4 (rw [rounds_succ]; go_wp2)
  go_ret
  exact ⟨w.heap.size, rfl, Nat.le_refl _, back3 _ _ _ _, below_alloc (below_alloc (below_alloc (Below.refl _ _) _) _) _⟩
set_option maxHeartbeats 1000000 in
set_option maxRecDepth 100000 in
theorem word_1 (w : World) : Calls Try.prog 59 #[.int .i64 1] w fun e w' => WordAt 1 w w' e := by
  have kc := fun (w : World) (C : Array Value) (n c : Nat) => Lib.run_convert_bytes_const (P := Try.prog) w 81 5 C n c Try.underlying81 Try.underlying5
  go_enter Try.func59, Try.ntmps59
  go_wp2
  refine wp_loop_rounds 5 ?_
  iterate 5 (rw [rounds_succ]; go_wp2)
  refine wp_loop_rounds 4 ?_
  iterate 4 (rw [rounds_succ]; go_wp2)
  go_ret
  exact ⟨w.heap.size, rfl, Nat.le_refl _, back3 _ _ _ _, below_alloc (below_alloc (below_alloc (Below.refl _ _) _) _) _⟩
set_option maxHeartbeats 1000000 in
set_option maxRecDepth 100000 in
theorem word_2 (w : World) : Calls Try.prog 59 #[.int .i64 2] w fun e w' => WordAt 2 w w' e := by
  have kc := fun (w : World) (C : Array Value) (n c : Nat) => Lib.run_convert_bytes_const (P := Try.prog) w 81 5 C n c Try.underlying81 Try.underlying5
  go_enter Try.func59, Try.ntmps59
  go_wp2
  refine wp_loop_rounds 5 ?_
  iterate 5 (rw [rounds_succ]; go_wp2)
  refine wp_loop_rounds 4 ?_
  iterate 4 (rw [rounds_succ]; go_wp2)
  go_ret
  exact ⟨w.heap.size, rfl, Nat.le_refl _, back3 _ _ _ _, below_alloc (below_alloc (below_alloc (Below.refl _ _) _) _) _⟩
set_option maxHeartbeats 1000000 in
set_option maxRecDepth 100000 in
theorem word_3 (w : World) : Calls Try.prog 59 #[.int .i64 3] w fun e w' => WordAt 3 w w' e := by
  have kc := fun (w : World) (C : Array Value) (n c : Nat) => Lib.run_convert_bytes_const (P := Try.prog) w 81 5 C n c Try.underlying81 Try.underlying5
  go_enter Try.func59, Try.ntmps59
  go_wp2
  refine wp_loop_rounds 5 ?_
  iterate 5 (rw [rounds_succ]; go_wp2)
  refine wp_loop_rounds 4 ?_
  iterate 4 (rw [rounds_succ]; go_wp2)
  go_ret
  exact ⟨w.heap.size, rfl, Nat.le_refl _, back3 _ _ _ _, below_alloc (below_alloc (below_alloc (Below.refl _ _) _) _) _⟩
set_option maxHeartbeats 1000000 in
set_option maxRecDepth 100000 in
theorem word_4 (w : World) : Calls Try.prog 59 #[.int .i64 4] w fun e w' => WordAt 4 w w' e := by
  have kc := fun (w : World) (C : Array Value) (n c : Nat) => Lib.run_convert_bytes_const (P := Try.prog) w 81 5 C n c Try.underlying81 Try.underlying5
  go_enter Try.func59, Try.ntmps59
  go_wp2
  refine wp_loop_rounds 5 ?_
  iterate 5 (rw [rounds_succ]; go_wp2)
  refine wp_loop_rounds 4 ?_
  iterate 4 (rw [rounds_succ]; go_wp2)
  go_ret
  exact ⟨w.heap.size, rfl, Nat.le_refl _, back3 _ _ _ _, below_alloc (below_alloc (below_alloc (Below.refl _ _) _) _) _⟩
set_option maxHeartbeats 1000000 in
set_option maxRecDepth 100000 in
theorem word_5 (w : World) : Calls Try.prog 59 #[.int .i64 5] w fun e w' => WordAt 5 w w' e := by
  have kc := fun (w : World) (C : Array Value) (n c : Nat) => Lib.run_convert_bytes_const (P := Try.prog) w 81 5 C n c Try.underlying81 Try.underlying5
  go_enter Try.func59, Try.ntmps59
  go_wp2
  refine wp_loop_rounds 5 ?_
  iterate 5 (rw [rounds_succ]; go_wp2)
  refine wp_loop_rounds 4 ?_
  iterate 4 (rw [rounds_succ]; go_wp2)
  go_ret
  exact ⟨w.heap.size, rfl, Nat.le_refl _, back3 _ _ _ _, below_alloc (below_alloc (below_alloc (Below.refl _ _) _) _) _⟩
set_option maxHeartbeats 1000000 in
set_option maxRecDepth 100000 in
theorem word_6 (w : World) : Calls Try.prog 59 #[.int .i64 6] w fun e w' => WordAt 6 w w' e := by
  have kc := fun (w : World) (C : Array Value) (n c : Nat) => Lib.run_convert_bytes_const (P := Try.prog) w 81 5 C n c Try.underlying81 Try.underlying5
  go_enter Try.func59, Try.ntmps59
  go_wp2
  refine wp_loop_rounds 5 ?_
  iterate 5 (rw [rounds_succ]; go_wp2)
  refine wp_loop_rounds 4 ?_
  iterate 4 (rw [rounds_succ]; go_wp2)
  go_ret
  exact ⟨w.heap.size, rfl, Nat.le_refl _, back3 _ _ _ _, below_alloc (below_alloc (below_alloc (Below.refl _ _) _) _) _⟩
set_option maxHeartbeats 1000000 in
set_option maxRecDepth 100000 in
theorem word_7 (w : World) : Calls Try.prog 59 #[.int .i64 7] w fun e w' => WordAt 7 w w' e := by
  have kc := fun (w : World) (C : Array Value) (n c : Nat) => Lib.run_convert_bytes_const (P := Try.prog) w 81 5 C n c Try.underlying81 Try.underlying5
  go_enter Try.func59, Try.ntmps59
  go_wp2
  refine wp_loop_rounds 5 ?_
  iterate 5 (rw [rounds_succ]; go_wp2)
  refine wp_loop_rounds 4 ?_
  iterate 4 (rw [rounds_succ]; go_wp2)
  go_ret
  exact ⟨w.heap.size, rfl, Nat.le_refl _, back3 _ _ _ _, below_alloc (below_alloc (below_alloc (Below.refl _ _) _) _) _⟩
set_option maxHeartbeats 1000000 in
set_option maxRecDepth 100000 in
theorem word_8 (w : World) : Calls Try.prog 59 #[.int .i64 8] w fun e w' => WordAt 8 w w' e := by
  have kc := fun (w : World) (C : Array Value) (n c : Nat) => Lib.run_convert_bytes_const (P := Try.prog) w 81 5 C n c Try.underlying81 Try.underlying5
  go_enter Try.func59, Try.ntmps59
  go_wp2
  refine wp_loop_rounds 5 ?_
  iterate 5 (rw [rounds_succ]; go_wp2)
  refine wp_loop_rounds 4 ?_
  iterate 4 (rw [rounds_succ]; go_wp2)
  go_ret
  exact ⟨w.heap.size, rfl, Nat.le_refl _, back3 _ _ _ _, below_alloc (below_alloc (below_alloc (Below.refl _ _) _) _) _⟩
set_option maxHeartbeats 1000000 in
set_option maxRecDepth 100000 in
theorem word_9 (w : World) : Calls Try.prog 59 #[.int .i64 9] w fun e w' => WordAt 9 w w' e := by
  have kc := fun (w : World) (C : Array Value) (n c : Nat) => Lib.run_convert_bytes_const (P := Try.prog) w 81 5 C n c Try.underlying81 Try.underlying5
  go_enter Try.func59, Try.ntmps59
  go_wp2
  refine wp_loop_rounds 5 ?_
  iterate 5 (rw [rounds_succ]; go_wp2)
  refine wp_loop_rounds 4 ?_
  iterate 4 (rw [rounds_succ]; go_wp2)
  go_ret
  exact ⟨w.heap.size, rfl, Nat.le_refl _, back3 _ _ _ _, below_alloc (below_alloc (below_alloc (Below.refl _ _) _) _) _⟩
set_option maxHeartbeats 1000000 in
set_option maxRecDepth 100000 in
theorem word_10 (w : World) : Calls Try.prog 59 #[.int .i64 10] w fun e w' => WordAt 10 w w' e := by
  have kc := fun (w : World) (C : Array Value) (n c : Nat) => Lib.run_convert_bytes_const (P := Try.prog) w 81 5 C n c Try.underlying81 Try.underlying5
  go_enter Try.func59, Try.ntmps59
  go_wp2
  refine wp_loop_rounds 5 ?_
  iterate 5 (rw [rounds_succ]; go_wp2)
  refine wp_loop_rounds 4 ?_
  iterate 4 (rw [rounds_succ]; go_wp2)
  go_ret
  exact ⟨w.heap.size, rfl, Nat.le_refl _, back3 _ _ _ _, below_alloc (below_alloc (below_alloc (Below.refl _ _) _) _) _⟩
set_option maxHeartbeats 1000000 in
set_option maxRecDepth 100000 in
theorem word_11 (w : World) : Calls Try.prog 59 #[.int .i64 11] w fun e w' => WordAt 11 w w' e := by
  have kc := fun (w : World) (C : Array Value) (n c : Nat) => Lib.run_convert_bytes_const (P := Try.prog) w 81 5 C n c Try.underlying81 Try.underlying5
  go_enter Try.func59, Try.ntmps59
  go_wp2
  refine wp_loop_rounds 5 ?_
  iterate 5 (rw [rounds_succ]; go_wp2)
  refine wp_loop_rounds 4 ?_
  iterate 4 (rw [rounds_succ]; go_wp2)
  go_ret
  exact ⟨w.heap.size, rfl, Nat.le_refl _, back3 _ _ _ _, below_alloc (below_alloc (below_alloc (Below.refl _ _) _) _) _⟩
set_option maxHeartbeats 1000000 in
set_option maxRecDepth 100000 in
theorem word_12 (w : World) : Calls Try.prog 59 #[.int .i64 12] w fun e w' => WordAt 12 w w' e := by
  have kc := fun (w : World) (C : Array Value) (n c : Nat) => Lib.run_convert_bytes_const (P := Try.prog) w 81 5 C n c Try.underlying81 Try.underlying5
  go_enter Try.func59, Try.ntmps59
  go_wp2
  refine wp_loop_rounds 5 ?_
  iterate 5 (rw [rounds_succ]; go_wp2)
  refine wp_loop_rounds 4 ?_
  iterate 4 (rw [rounds_succ]; go_wp2)
  go_ret
  exact ⟨w.heap.size, rfl, Nat.le_refl _, back3 _ _ _ _, below_alloc (below_alloc (below_alloc (Below.refl _ _) _) _) _⟩
set_option maxHeartbeats 1000000 in
set_option maxRecDepth 100000 in
theorem word_13 (w : World) : Calls Try.prog 59 #[.int .i64 13] w fun e w' => WordAt 13 w w' e := by
  have kc := fun (w : World) (C : Array Value) (n c : Nat) => Lib.run_convert_bytes_const (P := Try.prog) w 81 5 C n c Try.underlying81 Try.underlying5
  go_enter Try.func59, Try.ntmps59
  go_wp2
  refine wp_loop_rounds 5 ?_
  iterate 5 (rw [rounds_succ]; go_wp2)
  refine wp_loop_rounds 4 ?_
  iterate 4 (rw [rounds_succ]; go_wp2)
  go_ret
  exact ⟨w.heap.size, rfl, Nat.le_refl _, back3 _ _ _ _, below_alloc (below_alloc (below_alloc (Below.refl _ _) _) _) _⟩
set_option maxHeartbeats 1000000 in
set_option maxRecDepth 100000 in
theorem word_14 (w : World) : Calls Try.prog 59 #[.int .i64 14] w fun e w' => WordAt 14 w w' e := by
  have kc := fun (w : World) (C : Array Value) (n c : Nat) => Lib.run_convert_bytes_const (P := Try.prog) w 81 5 C n c Try.underlying81 Try.underlying5
  go_enter Try.func59, Try.ntmps59
  go_wp2
  refine wp_loop_rounds 5 ?_
  iterate 5 (rw [rounds_succ]; go_wp2)
  refine wp_loop_rounds 4 ?_
  iterate 4 (rw [rounds_succ]; go_wp2)
  go_ret
  exact ⟨w.heap.size, rfl, Nat.le_refl _, back3 _ _ _ _, below_alloc (below_alloc (below_alloc (Below.refl _ _) _) _) _⟩
set_option maxHeartbeats 1000000 in
set_option maxRecDepth 100000 in
theorem word_15 (w : World) : Calls Try.prog 59 #[.int .i64 15] w fun e w' => WordAt 15 w w' e := by
  have kc := fun (w : World) (C : Array Value) (n c : Nat) => Lib.run_convert_bytes_const (P := Try.prog) w 81 5 C n c Try.underlying81 Try.underlying5
  go_enter Try.func59, Try.ntmps59
  go_wp2
  refine wp_loop_rounds 5 ?_
  iterate 5 (rw [rounds_succ]; go_wp2)
  refine wp_loop_rounds 4 ?_
  iterate 4 (rw [rounds_succ]; go_wp2)
  go_ret
  exact ⟨w.heap.size, rfl, Nat.le_refl _, back3 _ _ _ _, below_alloc (below_alloc (below_alloc (Below.refl _ _) _) _) _⟩
theorem word_any (n : Nat) (hn : n < 16) (w : World) : Calls Try.prog 59 #[.int .i64 (n : Int)] w fun e w' => WordAt n w w' e := by
  rcases (by omega : n = 0 ∨ n = 1 ∨ n = 2 ∨ n = 3 ∨ n = 4 ∨ n = 5 ∨ n = 6 ∨ n = 7 ∨ n = 8 ∨ n = 9 ∨ n = 10 ∨ n = 11 ∨ n = 12 ∨ n = 13 ∨ n = 14 ∨ n = 15) with rfl | rfl | rfl | rfl | rfl | rfl | rfl | rfl | rfl | rfl | rfl | rfl | rfl | rfl | rfl | rfl
  · exact word_0 w
  · exact word_1 w
  · exact word_2 w
  · exact word_3 w
  · exact word_4 w
  · exact word_5 w
  · exact word_6 w
  · exact word_7 w
  · exact word_8 w
  · exact word_9 w
  · exact word_10 w
  · exact word_11 w
  · exact word_12 w
  · exact word_13 w
  · exact word_14 w
  · exact word_15 w
/-- The row that fec.word makes, as it is read. -/
theorem word_reads {n : Nat} {w : World} {B : Nat} (h : w.heap[B]? = some (.cells (wordCells n) 5 (7, 8))) : ReadsInt w .u8 (some ⟨B, 0, none⟩) 7 (wordBits n) := by
  refine ⟨rfl, by decide, fun _ => ⟨_, rfl, fun j hj => ?_⟩⟩
  have ha : (⟨B, 0, none⟩ : Addr).add j = ⟨B, j, none⟩ := by unfold Addr.add; split <;> simp_all
  rw [ha, cell_of_row w B j _ _ _ h]
  unfold wordCells
  rw [List.getElem?_toArray, List.getElem?_map, List.getElem?_eq_getElem (show j < (wordBits n).length from hj), List.getD_eq_getElem?_getD, List.getElem?_eq_getElem (show j < (wordBits n).length from hj)]
  rfl
/-- What fec.Word tells of a value. -/
def fec_Word.f (a0 : Int) : Option (ByteArray × Int) := if a0 < 0 then some ((⟨#[]⟩ : ByteArray), 10) else if a0 > 15 then some ((⟨#[]⟩ : ByteArray), 10) else some (strOfNums (wordBits a0.toNat), 0)
set_option maxHeartbeats 1000000 in
set_option maxRecDepth 100000 in
theorem fec_Word.calls (a0 : Int) (r1 : ByteArray) (r2 : Int) (w : World) (h : fec_Word.f a0 = some (r1, r2)) :
    Calls Try.prog 25 #[.int .i64 a0] w fun e w' => e = .returned (.tuple #[.string r1, .int .i64 r2]) ∧ Below w.heap.size w w' := by
  unfold fec_Word.f at h
  by_cases h0 : a0 < 0
  · rw [if_pos h0] at h
    simp only [Option.some.injEq, Prod.mk.injEq] at h
    obtain ⟨rfl, rfl⟩ := h
    go_enter Try.func25, Try.ntmps25
    go_wp2
    go_ret2
    exact ⟨rfl, Below.refl _ _⟩
  · by_cases h1 : a0 > 15
    · rw [if_neg h0, if_pos h1] at h
      simp only [Option.some.injEq, Prod.mk.injEq] at h
      obtain ⟨rfl, rfl⟩ := h
      go_enter Try.func25, Try.ntmps25
      go_wp2
      go_ret2
      exact ⟨rfl, Below.refl _ _⟩
    · rw [if_neg h0, if_neg h1] at h
      simp only [Option.some.injEq, Prod.mk.injEq] at h
      obtain ⟨rfl, rfl⟩ := h
      obtain ⟨n, rfl⟩ : ∃ n : Nat, a0 = n := ⟨a0.toNat, by omega⟩
      go_enter Try.func25, Try.ntmps25
      go_wp2_with fail
      refine (word_any n (by omega) _).mono ?_
      rintro e w1 ⟨B, rfl, hB, hcell, hb⟩
      have hcv := string_of_reads (P := Try.prog) (src := 81) (dst := 9) (c := 7) Try.underlying81 Try.underlying5 Try.underlying9 (word_reads hcell)
      have HB := Aside0.mk hb
      clear hcell hb
      go_wp2
      go_ret2
      exact ⟨rfl, HB.out⟩
end Go.Proofs.Ytkdncfbbhbmaaaa.Ext
