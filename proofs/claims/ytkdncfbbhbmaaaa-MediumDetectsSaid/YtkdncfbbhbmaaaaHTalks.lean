/- A list of transmissions as an argument, opened to a Lean list. -/
import Derived.Test.YtkdncfbbhbmaaaaHOpen
namespace Go.Proofs.Ytkdncfbbhbmaaaa.Ext
set_option maxRecDepth 100000
open Go.RowKit Go.Proofs.YtkdncfbbhbmaaaaW.PrintWords Go.Proofs.YtkdncfbbhbmaaaaW.PrintLast Go.Proofs.YtkdncfbbhbmaaaaW.PrintMore
open Go.Joins Go.ChangeShapes Go.WideShapes Go.Deep
section
variable {H : Type} {enc : TypeId × Value → H} {w : World} {b0 : Nat} {r : Reach} {v : Value} {d : DataW H} {p : List MemPlace}
def cellInt (w : World) (a : Addr) : Int := match w.cell? a with
  | some (.int _ n) => n
  | _ => 0
def talkAt (w : World) (a : Addr) (i : Nat) : Q.S48 := ⟨cellInt w (a.add (i * 3)), cellInt w (a.add (i * 3 + 1)), cellInt w (a.add (i * 3 + 2))⟩
/-- A list of transmissions, as a call reads it. -/
def TalksAt (w : World) (c : Value) (A : Option Addr) (cap : Nat) (l : List Q.S48) : Prop :=
  c = .slice A l.length cap ∧ Kd.C Q.k48 w A l.length l ∧ l.length ≤ cap ∧ l.length ≤ maxLen ∧ ∀ x ∈ l, (Lit.int .i64 x.f0).wf = true ∧ (Lit.int .i64 x.f1).wf = true ∧ (Lit.int .i64 x.f2).wf = true
theorem talk_cell {a : Addr} {k : Nat} {n : Nat} {u : Value} {y : DataW H × List MemPlace} (hc : w.cell? (a.add k) = some u) (h : DataW.trod enc Try.prog w 0 (fun _ => true) true n 3 [u] = some y) :
    w.cell? (a.add k) = some (.int .i64 (cellInt w (a.add k))) ∧ (Lit.int .i64 (cellInt w (a.add k))).wf = true := by
  obtain ⟨z, rfl, hw⟩ := int_field h
  have e : cellInt w (a.add k) = z := by unfold cellInt; rw [hc]
  rw [e]
  exact ⟨hc, hw⟩
theorem talks_open (hv : Value.okWide Try.prog w r b0 41 v) (h : DataW.Trod enc Try.prog w 0 (fun _ => true) true 41 v d p) : ∃ A cap l, TalksAt w v A cap l := by
  obtain ⟨a0, len, cap, rfl⟩ := okWide_slice Try.underlying41 hv
  obtain ⟨fuel, hf⟩ := h
  rcases open_slice_fields Try.underlying41 Try.underlying48 (by kernel_rfl) (by kernel_rfl) hf with ⟨hcs, _⟩ | ⟨a, l, c, m, D, Pl, hcs, _, hl, hm, hmm, _, hi⟩
  · simp [Value.cells] at hcs
    obtain ⟨rfl, rfl, rfl⟩ := hcs
    exact ⟨none, 0, [], rfl, ⟨rfl, by simp, fun h => absurd h (Nat.lt_irrefl 0)⟩, Nat.le_refl _, Nat.zero_le _, fun x hx => by cases hx⟩
  · simp [Value.cells] at hcs
    obtain ⟨rfl, rfl, rfl⟩ := hcs
    have hmm' : m = cap := by simpa using hmm
    have key : ∀ i, i < len → (w.cell? (a.add (i * 3)) = some (.int .i64 (talkAt w a i).f0) ∧ (Lit.int .i64 (talkAt w a i).f0).wf = true) ∧ (w.cell? (a.add (i * 3 + 1)) = some (.int .i64 (talkAt w a i).f1) ∧ (Lit.int .i64 (talkAt w a i).f1).wf = true) ∧ (w.cell? (a.add (i * 3 + 2)) = some (.int .i64 (talkAt w a i).f2) ∧ (Lit.int .i64 (talkAt w a i).f2).wf = true) := by
      intro i hil
      obtain ⟨ys, n, _, _, _, hfs⟩ := hi i (by omega)
      obtain ⟨u0, y0, hc0, _, t0⟩ := hfs 0 _ rfl
      obtain ⟨u1, y1, hc1, _, t1⟩ := hfs 1 _ rfl
      obtain ⟨u2, y2, hc2, _, t2⟩ := hfs 2 _ rfl
      exact ⟨talk_cell hc0 t0, talk_cell hc1 t1, talk_cell hc2 t2⟩
    have hlen : ((List.range len).map (talkAt w a)).length = len := by simp
    refine ⟨some a, cap, (List.range len).map (talkAt w a), by rw [hlen], ⟨rfl, by rw [hlen]; unfold maxLen at hm; omega, fun _ => ⟨a, rfl, fun j q hj => ?_⟩⟩, by rw [hlen]; exact hl, by rw [hlen]; exact Nat.le_trans hl hm, fun x hx => ?_⟩
    · obtain ⟨hjl, rfl⟩ := List.getElem?_eq_some_iff.1 hj
      rw [hlen] at hjl
      obtain ⟨⟨k0, _⟩, ⟨k1, _⟩, k2, _⟩ := key j hjl
      refine ⟨_, rfl, by simpa using Q.k48_mk w (talkAt w a j), fun i u hu => ?_⟩
      show w.cell? (a.add (j * 3 + i)) = some u
      match i, hu with
      | 0, hu => simp at hu; rw [← hu]; exact k0
      | 1, hu => simp at hu; rw [← hu]; exact k1
      | 2, hu => simp at hu; rw [← hu]; exact k2
      | i + 3, hu => simp at hu
    · obtain ⟨j, hj, rfl⟩ := List.mem_map.1 hx
      obtain ⟨⟨_, k0⟩, ⟨_, k1⟩, _, k2⟩ := key j (List.mem_range.1 hj)
      exact ⟨k0, k1, k2⟩
end
end Go.Proofs.Ytkdncfbbhbmaaaa.Ext
