/- A string as a row of bytes ([]byte(s)): what the new row reads as, and how it is written. -/
import Derived.Test.YtkdncfbbhbmaaaaQ0
import Derived.Laws.IdiomStrings
import Derived.Laws.NewBlocks
namespace Go.Proofs.Ytkdncfbbhbmaaaa.Ext
open Go.RowKit Go.Proofs.YtkdncfbbhbmaaaaW.PrintWords Go.Proofs.YtkdncfbbhbmaaaaW.PrintLast Go.Proofs.YtkdncfbbhbmaaaaW.PrintMore
/-- A string's bytes as whole numbers. -/
def bytesInts (s : ByteArray) : List Int := s.data.toList.map fun b => (b.toNat : Int)
theorem bytesInts_length (s : ByteArray) : (bytesInts s).length = s.size := by simp [bytesInts]
theorem bytes_reads (W : World) (s : ByteArray) (cap : Nat) (e : TypeId) (m : Nat × Nat) (hm : s.size ≤ 9223372036854775807) :
    ReadsInt (W.drew.alloc (.cells (bytesRow s cap) e m)) .u8 (some ⟨W.heap.size, 0, none⟩) s.size (bytesInts s) := by
  refine ⟨bytesInts_length s, hm, fun _ => ⟨_, rfl, fun j hj => ?_⟩⟩
  have ha : (⟨W.heap.size, 0, none⟩ : Addr).add j = ⟨W.heap.size, j, none⟩ := by unfold Addr.add; split <;> simp_all
  have hg : (W.drew.alloc (.cells (bytesRow s cap) e m)).heap[W.heap.size]? = some (.cells (bytesRow s cap) e m) := heap_alloc_new _ _
  rw [ha, cell_of_row _ _ j _ _ _ hg, bytesRow_at s cap j hj]
  rw [List.getD_eq_getElem?_getD, List.getElem?_eq_getElem (by rw [bytesInts_length]; exact hj)]
  simp [bytesInts]
/-- []byte(s), as the walk meets it. -/
theorem run_bytes (w : World) (s : ByteArray) : (convert 9 81 (.string s)).run Try.prog w = .ok (.slice (some ⟨w.heap.size, 0, none⟩) (bytesInts s).length (grownCap w s.size 0 5))
    (w.drew.alloc (.cells (bytesRow s (grownCap w s.size 0 5)) 5 ((bytesRow s (grownCap w s.size 0 5)).size, (bytesRow s (grownCap w s.size 0 5)).size + 1))) := by
  rw [bytesInts_length]
  exact run_bytes_of_string (P := Try.prog) w 9 81 5 s Try.underlying9 Try.underlying81 Try.underlying5
theorem bytes_C (W : World) (s : ByteArray) (cap : Nat) (e : TypeId) (m : Nat × Nat) (hm : s.size ≤ 9223372036854775807) :
    Kd.C (Kd.int .u8) (W.drew.alloc (.cells (bytesRow s cap) e m)) (some ⟨W.heap.size, 0, none⟩) (bytesInts s).length (bytesInts s) := by
  rw [bytesInts_length]
  exact Kd.C_of_reads (d := (0 : Int)) (h1 := fun _ => rfl) (bytes_reads W s cap e m hm)
theorem bytes_cap (W : World) (s : ByteArray) (e : TypeId) : (bytesInts s).length ≤ grownCap W s.size 0 e := by rw [bytesInts_length]; exact grownCap_ge _ _ _ _
theorem below_drew_alloc {w W : World} (h : Below w.heap.size w W) (o : Obj) : Below w.heap.size w (W.drew.alloc o) := below_alloc (below_drew1 h) o
end Go.Proofs.Ytkdncfbbhbmaaaa.Ext
