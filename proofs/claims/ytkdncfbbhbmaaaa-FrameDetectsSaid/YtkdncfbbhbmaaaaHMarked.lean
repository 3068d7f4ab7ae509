/- A row of bytes that a string was turned into ([]byte(s), written afterwards): its block bears a mark behind its last place; how it is read, written and turned back. -/
import Derived.Test.YtkdncfbbhbmaaaaHBytes
namespace Go.Proofs.Ytkdncfbbhbmaaaa.Ext
open Go.RowKit Go.Proofs.YtkdncfbbhbmaaaaW.PrintWords Go.Proofs.YtkdncfbbhbmaaaaW.PrintLast Go.Proofs.YtkdncfbbhbmaaaaW.PrintMore
/-- The block B holds these bytes (and perhaps spare ones), with the mark behind its last place. -/
def MarkedAt (W : World) (B : Nat) (l : List UInt8) : Prop := ∃ C : Array Value, W.heap[B]? = some (.cells C 5 (C.size, C.size + 1)) ∧ l.length ≤ C.size ∧ ∀ j (h : j < l.length), C[j]? = some (.int .u8 (l[j].toNat : Int))
theorem bytesRow_size (s : ByteArray) (cap : Nat) : s.size ≤ (bytesRow s cap).size := by
  unfold bytesRow
  rw [Array.size_append, Array.size_map]
  exact Nat.le_add_right _ _
theorem marked_new (W : World) (s : ByteArray) (cap : Nat) : MarkedAt (W.drew.alloc (.cells (bytesRow s cap) 5 ((bytesRow s cap).size, (bytesRow s cap).size + 1))) W.heap.size s.data.toList :=
  ⟨bytesRow s cap, heap_alloc_new _ _, by rw [Array.length_toList]; exact bytesRow_size s cap, fun j h => by
    rw [Array.length_toList] at h
    rw [bytesRow_at s cap j h, Array.getElem_toList]⟩
theorem marked_cell {W : World} {B : Nat} {l : List UInt8} (h : MarkedAt W B l) (j : Nat) (hj : j < l.length) : W.cell? ⟨B, j, none⟩ = some (.int .u8 (l[j].toNat : Int)) := by
  obtain ⟨C, hC, _, hc⟩ := h
  rw [cell_of_row W B j _ _ _ hC, hc j hj]
theorem marked_frozen {W : World} {B : Nat} {l : List UInt8} (h : MarkedAt W B l) (j : Nat) (hj : j < l.length) : W.frozen? ⟨B, j, none⟩ = false := by
  obtain ⟨C, hC, hl, _⟩ := h
  unfold World.frozen?
  rw [hC]
  show (decide (C.size ≤ j) && decide (j < C.size + 1)) = false
  rw [decide_eq_false (by omega)]
  rfl
theorem marked_set {W : World} {B : Nat} {l : List UInt8} (h : MarkedAt W B l) (j : Nat) (b : UInt8) : MarkedAt (W.setCell ⟨B, j, none⟩ (.int .u8 (b.toNat : Int))) B (l.set j b) := by
  obtain ⟨C, hC, hl, hc⟩ := h
  refine ⟨C.setIfInBounds j (.int .u8 (b.toNat : Int)), ?_, by simpa using hl, fun i hi => ?_⟩
  · rw [setCell_eq_setRow W B j C _ _ _ hC, setRow_heap W B C _ _ _ hC, Array.size_setIfInBounds]
  · have hi' : i < l.length := by simpa using hi
    by_cases e : j = i
    · subst e
      rw [Array.getElem?_setIfInBounds_self_of_lt (by omega), List.getElem_set_self]
    · rw [Array.getElem?_setIfInBounds_ne e, hc i hi', List.getElem_set_ne e]
theorem marked_drewN {W : World} {B : Nat} {l : List UInt8} (h : MarkedAt W B l) (n : Nat) : MarkedAt (W.drewN n) B l := h
theorem marked_reads {W : World} {B : Nat} {l : List UInt8} (h : MarkedAt W B l) (hl : l.length ≤ 9223372036854775807) : ReadsInt W .u8 (some ⟨B, 0, none⟩) l.length (l.map fun b => (b.toNat : Int)) := by
  refine ⟨by simp, hl, fun _ => ⟨_, rfl, fun j hj => ?_⟩⟩
  have ha : (⟨B, 0, none⟩ : Addr).add j = ⟨B, j, none⟩ := by unfold Addr.add; split <;> simp_all
  rw [ha, marked_cell h j hj, List.getD_eq_getElem?_getD, List.getElem?_map, List.getElem?_eq_getElem hj]
  rfl
theorem strOf_bytes (l : List UInt8) : strOfNums (l.map fun b => (b.toNat : Int)) = ⟨l.toArray⟩ := by
  unfold strOfNums
  rw [List.map_map]
  congr 2
  have : ((fun n : Int => UInt8.ofNat n.toNat) ∘ fun b : UInt8 => (b.toNat : Int)) = id := by
    funext b
    simp
  rw [this, List.map_id]
theorem marked_string {W : World} {B c : Nat} {l : List UInt8} (h : MarkedAt W B l) (hl : l.length ≤ 9223372036854775807) :
    (convert 81 9 (.slice (some ⟨B, 0, none⟩) l.length c)).run Try.prog W = .ok (.string ⟨l.toArray⟩) W := by
  rw [← strOf_bytes]
  exact string_of_reads (P := Try.prog) Try.underlying81 Try.underlying5 Try.underlying9 (marked_reads h hl)
theorem after_bytes {w w4 : World} (hb : Below w.heap.size w w4) (s : ByteArray) (cap : Nat) : ∃ w5, w5 = (w4.alloc (.cells (bytesRow s cap) 5 ((bytesRow s cap).size, (bytesRow s cap).size + 1))).drew ∧ MarkedAt w5 w4.heap.size s.data.toList ∧ Below w.heap.size w w5 :=
  ⟨_, rfl, marked_new w4 s cap, below_drew_alloc hb _⟩
end Go.Proofs.Ytkdncfbbhbmaaaa.Ext
