/- Texts of this session and of its printer, one behind the other (wip/merge.py): functions of the program as Lean functions, walks and plain lemmas for the law of this claim. -/
import Derived.Test.YtkdncfbbhbmaaaaDoorProg
import Derived.Below
import Derived.Deep.Draws
import Derived.Deep.AppendLies
import Derived.Maps.AppendAt
import Derived.OwnWalk
import Derived.Laws.BytesArg
import Derived.Laws.MakeOwn
import Derived.Laws.OwnMore
import Derived.Deep.OwnRows
import Derived.Tactics
import Derived.Lib.ConvBytes
import Derived.Laws.Slices
import Derived.WalkKit
import Derived.KernelRfl
import Derived.RowKit3
import Derived.Deep.LoopGhost
import Derived.Deep.QuietTactic
import Derived.BigQuiet
import Derived.WideLaws
import Derived.Deep.DeepCutAuto
import Derived.Deep.CutBlock
import Derived.Deep.RegionHeld3
import Derived.Laws.Rows
import Derived.Lib.AppendStr
import Derived.ArgAppend
import Derived.Laws.IdiomCopy
import Derived.OrdersHeld
import Derived.Laws.BitsLemmas
import Derived.RowKit
import Derived.Test.YtkdncfbbhbmaaaaDoorWWords
import Derived.Test.YtkdncfbbhbmaaaaDoorWLast
import Derived.Test.YtkdncfbbhbmaaaaDoorWTab
import Derived.Test.YtkdncfbbhbmaaaaDoorWFour
import Derived.Test.YtkdncfbbhbmaaaaDoorWQPut
import Derived.Test.YtkdncfbbhbmaaaaDoorWApart
import Derived.Test.YtkdncfbbhbmaaaaDoorWArr
import Derived.Test.YtkdncfbbhbmaaaaDoorWZeros
import Derived.Test.YtkdncfbbhbmaaaaDoorWFoot
import Derived.Test.YtkdncfbbhbmaaaaDoorWKept
import Derived.Test.YtkdncfbbhbmaaaaDoorWShare
import Derived.Test.YtkdncfbbhbmaaaaDoorWN
import Derived.Test.YtkdncfbbhbmaaaaDoorWFootNe
import Derived.Test.YtkdncfbbhbmaaaaDoorWAt
import Derived.Test.YtkdncfbbhbmaaaaDoorWEqStruct
import Derived.Test.YtkdncfbbhbmaaaaDoorWRepsOne
import Derived.Test.YtkdncfbbhbmaaaaDoorWInv
import Derived.Test.YtkdncfbbhbmaaaaDoorWInvWords
import Derived.Test.YtkdncfbbhbmaaaaDoorWGuard
import Derived.Test.YtkdncfbbhbmaaaaDoorWNEv
import Derived.Test.YtkdncfbbhbmaaaaDoorWMore
import Derived.Laws.NewBlocks
import Derived.Lib.Hide
import Derived.Lib.SlBytesConst
namespace Go.Proofs.YtkdncfbbhbmaaaaDoor.Q
open Go.RowKit Go.Proofs.YtkdncfbbhbmaaaaDoorW.PrintWords Go.Proofs.YtkdncfbbhbmaaaaDoorW.PrintLast Go.Proofs.YtkdncfbbhbmaaaaDoorW.PrintMore
attribute [local go_sem] max2_int min2_int max_two min_two max_three min_three max_four min_four   -- for this text's walks alone
set_option linter.unusedVariables false
set_option linter.unusedSimpArgs false



def errW : Option Int → Value
  | none => .nilIface
  | some c => .iface 0 (.int .i64 c)
theorem errW_none : errW none = .nilIface := rfl
theorem errW_some (c : Int) : errW (some c) = .iface 0 (.int .i64 c) := rfl

theorem info3 : (Tryd.prog.info? 3).map (fun i => (i.zero, i.size, i.bytes)) = some (some (.int .i64 0), 1, 8) := by kernel_rfl
theorem info5 : (Tryd.prog.info? 5).map (fun i => (i.zero, i.size, i.bytes)) = some (some (.int .u8 0), 1, 1) := by kernel_rfl
-- the values' own types

end Go.Proofs.YtkdncfbbhbmaaaaDoor.Q
namespace Go.Proofs.YtkdncfbbhbmaaaaDoor.Q
open Go.RowKit Go.Proofs.YtkdncfbbhbmaaaaDoorW.PrintWords Go.Proofs.YtkdncfbbhbmaaaaDoorW.PrintLast Go.Proofs.YtkdncfbbhbmaaaaDoorW.PrintMore
attribute [local go_sem] max2_int min2_int max_two min_two max_three min_three max_four min_four   -- for this text's walks alone
set_option linter.unusedVariables false
set_option linter.unusedSimpArgs false

/-! ### fec_good: function 24 -/
def fec_good.l0 : Nat → ByteArray → Int → Int → Option (Bool)
  | 0, _, _, _ => none
  | k + 1, x0, x5, x6 => if x6 < x5 then (if 0 ≤ x6 then (if x6 < (x0.size : Int) then (if (bt x0 x6) = 48 then (fec_good.l0 k x0 x5 (wrap64 (x6 + 1))) else (if (bt x0 x6) = 49 then (fec_good.l0 k x0 x5 (wrap64 (x6 + 1))) else (some false))) else (none)) else (none)) else (some true)
def fec_good.f (k : Nat) (a0 : ByteArray) : Option (Bool) := fec_good.l0 k a0 (a0.size : Int) 0
theorem fec_good.mono_l : ∀ k, (∀ y0 y1 y2, LeO (fec_good.l0 k y0 y1 y2) (fec_good.l0 (k + 1) y0 y1 y2))
  | 0 => fun _ _ _ r h => by simp [fec_good.l0] at h
  | k + 1 => by
    have ih0 := fec_good.mono_l k
    · intro y0 y1 y2
      unfold fec_good.l0
      repeat' first
      | (with_reducible exact ih0 _ _ _)
      | (with_reducible exact LeO.refl _)
      | (with_reducible exact LeO.none _)
      | (with_reducible refine LeO.ite ?_ ?_)
      | (with_reducible refine LeO.bind ?_ (fun _ => ?_))
      | exact ih0 _ _ _
      | exact LeO.none _
      | refine LeO.ite ?_ ?_
      | refine LeO.bind ?_ (fun _ => ?_)
theorem fec_good.mono : ∀ a0 k, LeO (fec_good.f k a0) (fec_good.f (k + 1) a0) := by
  intro a0 k
  have ih0 := fec_good.mono_l k
  unfold fec_good.f
  repeat' first
      | (with_reducible exact ih0 _ _ _)
      | (with_reducible exact LeO.refl _)
      | (with_reducible exact LeO.none _)
      | (with_reducible refine LeO.ite ?_ ?_)
      | (with_reducible refine LeO.bind ?_ (fun _ => ?_))
      | exact ih0 _ _ _
      | exact LeO.none _
      | refine LeO.ite ?_ ?_
      | refine LeO.bind ?_ (fun _ => ?_)
set_option maxHeartbeats 8000000 in
set_option maxRecDepth 100000 in
theorem fec_good.calls (k : Nat) (a0 : ByteArray) (r : Bool) (w : World) (h : fec_good.f k a0 = some r) :
    Calls Tryd.prog 24 #[.string a0] w fun e w' => e = .returned (.bool r) ∧ Drawn0 w w' := by
  have H : (fec_good.l0 k a0 (a0.size : Int) 0) = some r := h
  clear h
  have H' := Aside0.mk H
  clear H
  go_enter Tryd.func24, Tryd.ntmps24
  go_wp2
  go_loopg [6] k (fun kq v6 w' => ∃ (x6_1 : Int), v6 = .int .i64 x6_1 ∧ Aside0 (fec_good.l0 kq a0 (a0.size : Int) x6_1 = some r) ∧ Aside0 (kq ≤ k) ∧ Drawn0 w w')
  case atStart => exact ⟨(0), (by first | rfl | (simp; done) | (simp [*]; done)), H', ⟨Nat.le_refl _⟩, by repeat (first | exact Drawn0.refl _ | apply Drawn0.step)⟩
  case round =>
    clear H'
    obtain ⟨x6_1, rfl, HA, HK1, ⟨m1, rfl⟩⟩ := hrel
    cases gk with
    | zero => exact absurd HA.out (by simp [fec_good.l0])
    | succ k1 =>
      have H := HA.out
      clear HA
      simp only [fec_good.l0] at H
      by_cases c2 : x6_1 < (a0.size : Int)
      · rw [if_pos c2] at H
        have c2b0 : decide (x6_1 < (a0.size : Int)) = true := decide_eq_true c2
        clear c2
        by_cases c3 : 0 ≤ x6_1
        · rw [if_pos c3] at H
          have c3b0 : decide (0 ≤ x6_1) = true := decide_eq_true c3
          clear c3
          by_cases c4 : x6_1 < (a0.size : Int)
          · rw [if_pos c4] at H
            have c4b0 : decide (x6_1 < (a0.size : Int)) = true := decide_eq_true c4
            clear c4
            by_cases c6 : (bt a0 x6_1) = 48
            · rw [if_pos c6] at H
              have c6b0 : ((bt a0 x6_1) == 48) = true := beq_iff_eq.mpr c6
              have c6b1 : ((bt a0 x6_1) != 48) = false := bne_eq_false_iff_eq.mpr c6
              clear c6
              have H' := Aside0.mk H
              clear H
              have p5 : 0 ≤ (x6_1 : Int) := of_decide_eq_true (by first | (with_reducible assumption) | assumption)
              have q5 : x6_1 < (a0.size : Int) := of_decide_eq_true (by first | (with_reducible assumption) | assumption)
              have hx5 := bt_at a0 x6_1
              replace p5 := eq_true p5
              replace q5 := eq_true q5
              go_wp2
              go_roundg k1
              case measure => have := HK1.out; omega
              case rel => exact ⟨(wrap64 (x6_1 + 1)), (by first | rfl | (simp; done) | (simp [*]; done)), H', ⟨by have := HK1.out; omega⟩, by repeat (first | exact Drawn0.refl _ | apply Drawn0.step)⟩
            · rw [if_neg c6] at H
              have c6b0 : ((bt a0 x6_1) == 48) = false := beq_eq_false_iff_ne.mpr c6
              have c6b1 : ((bt a0 x6_1) != 48) = true := bne_iff_ne.mpr c6
              by_cases c8 : (bt a0 x6_1) = 49
              · rw [if_pos c8] at H
                have c8b0 : ((bt a0 x6_1) == 49) = true := beq_iff_eq.mpr c8
                have c8b1 : ((bt a0 x6_1) != 49) = false := bne_eq_false_iff_eq.mpr c8
                clear c8
                have H' := Aside0.mk H
                clear H
                have p5 : 0 ≤ (x6_1 : Int) := of_decide_eq_true (by first | (with_reducible assumption) | assumption)
                have q5 : x6_1 < (a0.size : Int) := of_decide_eq_true (by first | (with_reducible assumption) | assumption)
                have hx5 := bt_at a0 x6_1
                replace p5 := eq_true p5
                replace q5 := eq_true q5
                have p7 : 0 ≤ (x6_1 : Int) := of_decide_eq_true (by first | (with_reducible assumption) | assumption)
                have q7 : x6_1 < (a0.size : Int) := of_decide_eq_true (by first | (with_reducible assumption) | assumption)
                have hx7 := bt_at a0 x6_1
                replace p7 := eq_true p7
                replace q7 := eq_true q7
                go_wp2
                go_roundg k1
                case measure => have := HK1.out; omega
                case rel => exact ⟨(wrap64 (x6_1 + 1)), (by first | rfl | (simp; done) | (simp [*]; done)), H', ⟨by have := HK1.out; omega⟩, by repeat (first | exact Drawn0.refl _ | apply Drawn0.step)⟩
              · rw [if_neg c8] at H
                have c8b0 : ((bt a0 x6_1) == 49) = false := beq_eq_false_iff_ne.mpr c8
                have c8b1 : ((bt a0 x6_1) != 49) = true := bne_iff_ne.mpr c8
                obtain rfl := Option.some.inj H
                have p5 : 0 ≤ (x6_1 : Int) := of_decide_eq_true (by first | (with_reducible assumption) | assumption)
                have q5 : x6_1 < (a0.size : Int) := of_decide_eq_true (by first | (with_reducible assumption) | assumption)
                have hx5 := bt_at a0 x6_1
                replace p5 := eq_true p5
                replace q5 := eq_true q5
                have p7 : 0 ≤ (x6_1 : Int) := of_decide_eq_true (by first | (with_reducible assumption) | assumption)
                have q7 : x6_1 < (a0.size : Int) := of_decide_eq_true (by first | (with_reducible assumption) | assumption)
                have hx7 := bt_at a0 x6_1
                replace p7 := eq_true p7
                replace q7 := eq_true q7
                go_wp2
                go_ret
                exact ⟨by first | rfl | (simp; done) | (simp [*]; done), by repeat (first | exact Drawn0.refl _ | apply Drawn0.step)⟩
          · rw [if_neg c4] at H
            exact absurd H (by simp)
        · rw [if_neg c3] at H
          exact absurd H (by simp)
      · rw [if_neg c2] at H
        have c2b0 : decide (x6_1 < (a0.size : Int)) = false := decide_eq_false c2
        clear c2
        obtain rfl := Option.some.inj H
        go_wp2
        go_ret
        exact ⟨by first | rfl | (simp; done) | (simp [*]; done), by repeat (first | exact Drawn0.refl _ | apply Drawn0.step)⟩

end Go.Proofs.YtkdncfbbhbmaaaaDoor.Q
namespace Go.Proofs.YtkdncfbbhbmaaaaDoor.Q
open Go.RowKit Go.Proofs.YtkdncfbbhbmaaaaDoorW.PrintWords Go.Proofs.YtkdncfbbhbmaaaaDoorW.PrintLast Go.Proofs.YtkdncfbbhbmaaaaDoorW.PrintMore
attribute [local go_sem] max2_int min2_int max_two min_two max_three min_three max_four min_four   -- for this text's walks alone
set_option linter.unusedVariables false
set_option linter.unusedSimpArgs false

/-! ### fec_fix: function 25 -/
mutual
def fec_fix.l0 : Nat → List Int → Int → List Int → Int → Int → Option (Int × Int)
  | 0, _, _, _, _, _ => none
  | k + 1, x0, x4, x11, x12, x13 => if x13 < x12 then (if 0 ≤ x13 then (if x13 < (x11.length : Int) then (if (rd x11 x13) = 49 then (fec_fix.l0 k x0 (Go.bits .xor .i64 x4 (wrap64 (x13 + 1))) x11 x12 (wrap64 (x13 + 1))) else (fec_fix.l0 k x0 x4 x11 x12 (wrap64 (x13 + 1)))) else (none)) else (none)) else ((some (([3, 5, 6, 7] : List Int) : List Int)).bind fun y148 => (fec_fix.l1 k x0 x4 0 y148 (y148.length : Int) 0))
def fec_fix.l1 : Nat → List Int → Int → Int → List Int → Int → Int → Option (Int × Int)
  | 0, _, _, _, _, _, _ => none
  | k + 1, x0, x4, x7, x25, x26, x27 => if x27 < x26 then (if 0 ≤ x27 then (if x27 < (x25.length : Int) then (if 0 ≤ (wrap64 ((rd x25 x27) - 1)) then (if (wrap64 ((rd x25 x27) - 1)) < (x0.length : Int) then (if (rd x25 x27) = x4 then (fec_fix.l1 k x0 x4 (wrap64 ((wrap64 (2 * x7)) + (Go.bits .xor .i64 (((rd x0 (wrap64 ((rd x25 x27) - 1))) - 48) % 256) 1))) x25 x26 (wrap64 (x27 + 1))) else (fec_fix.l1 k x0 x4 (wrap64 ((wrap64 (2 * x7)) + (((rd x0 (wrap64 ((rd x25 x27) - 1))) - 48) % 256))) x25 x26 (wrap64 (x27 + 1)))) else (none)) else (none)) else (none)) else (none)) else (some (x7, x4))
end
def fec_fix.f (k : Nat) (l0 : List Int) : Option (Int × Int) := fec_fix.l0 k l0 0 l0 (l0.length : Int) 0
theorem fec_fix.mono_l : ∀ k, (∀ y0 y1 y2 y3 y4, LeO (fec_fix.l0 k y0 y1 y2 y3 y4) (fec_fix.l0 (k + 1) y0 y1 y2 y3 y4)) ∧ (∀ y0 y1 y2 y3 y4 y5, LeO (fec_fix.l1 k y0 y1 y2 y3 y4 y5) (fec_fix.l1 (k + 1) y0 y1 y2 y3 y4 y5))
  | 0 => ⟨fun _ _ _ _ _ r h => by simp [fec_fix.l0] at h, fun _ _ _ _ _ _ r h => by simp [fec_fix.l1] at h⟩
  | k + 1 => by
    obtain ⟨ih0, ih1⟩ := fec_fix.mono_l k
    refine ⟨?_, ?_⟩
    · intro y0 y1 y2 y3 y4
      unfold fec_fix.l0
      repeat' first
      | (with_reducible exact ih0 _ _ _ _ _)
      | (with_reducible exact ih1 _ _ _ _ _ _)
      | (with_reducible exact LeO.refl _)
      | (with_reducible exact LeO.none _)
      | (with_reducible refine LeO.ite ?_ ?_)
      | (with_reducible refine LeO.bind ?_ (fun _ => ?_))
      | exact ih0 _ _ _ _ _
      | exact ih1 _ _ _ _ _ _
      | exact LeO.none _
      | refine LeO.ite ?_ ?_
      | refine LeO.bind ?_ (fun _ => ?_)
    · intro y0 y1 y2 y3 y4 y5
      unfold fec_fix.l1
      repeat' first
      | (with_reducible exact ih0 _ _ _ _ _)
      | (with_reducible exact ih1 _ _ _ _ _ _)
      | (with_reducible exact LeO.refl _)
      | (with_reducible exact LeO.none _)
      | (with_reducible refine LeO.ite ?_ ?_)
      | (with_reducible refine LeO.bind ?_ (fun _ => ?_))
      | exact ih0 _ _ _ _ _
      | exact ih1 _ _ _ _ _ _
      | exact LeO.none _
      | refine LeO.ite ?_ ?_
      | refine LeO.bind ?_ (fun _ => ?_)
theorem fec_fix.mono : ∀ a0 k, LeO (fec_fix.f k a0) (fec_fix.f (k + 1) a0) := by
  intro a0 k
  obtain ⟨ih0, ih1⟩ := fec_fix.mono_l k
  unfold fec_fix.f
  repeat' first
      | (with_reducible exact ih0 _ _ _ _ _)
      | (with_reducible exact ih1 _ _ _ _ _ _)
      | (with_reducible exact LeO.refl _)
      | (with_reducible exact LeO.none _)
      | (with_reducible refine LeO.ite ?_ ?_)
      | (with_reducible refine LeO.bind ?_ (fun _ => ?_))
      | exact ih0 _ _ _ _ _
      | exact ih1 _ _ _ _ _ _
      | exact LeO.none _
      | refine LeO.ite ?_ ?_
      | refine LeO.bind ?_ (fun _ => ?_)
set_option maxHeartbeats 8000000 in
set_option maxRecDepth 100000 in
theorem fec_fix.calls (k : Nat) (A0 : Option Addr) (c0 : Nat) (l0 : List Int) (r1 : Int) (r2 : Int) (w : World) (hr0 : Kd.C (Kd.int .u8) w A0 l0.length l0) (hc0 : l0.length ≤ c0) (h : fec_fix.f k l0 = some (r1, r2)) :
    Calls Tryd.prog 25 #[.slice A0 l0.length c0] w fun e w' => e = .returned (.tuple #[.int .i64 r1, .int .i64 r2]) ∧ Below w.heap.size w w' := by
  have HR0 := Aside0.mk hr0
  have HC0 := Aside0.mk hc0
  clear hr0 hc0
  have HB := Aside0.mk (Below.refl w.heap.size w)
  have H : (fec_fix.l0 k l0 0 l0 (l0.length : Int) 0) = some (r1, r2) := h
  clear h
  have H' := Aside0.mk H
  clear H
  go_enter Tryd.func25, Tryd.ntmps25
  go_wp2
  go_loopg [4, 13] k (fun kq v4 v13 w' => ∃ (x4_1 : Int) (x13_1 : Int), v4 = .int .i64 x4_1 ∧ v13 = .int .i64 x13_1 ∧ Aside0 (fec_fix.l0 kq l0 x4_1 l0 (l0.length : Int) x13_1 = some (r1, r2)) ∧ Aside0 (kq ≤ k) ∧ Aside0 (Below w.heap.size w w'))
  case atStart => exact ⟨(0), (0), (by first | rfl | (simp; done) | (simp [*]; done)), (by first | rfl | (simp; done) | (simp [*]; done)), H', ⟨Nat.le_refl _⟩, ⟨by repeat (first | (with_reducible first | exact HB.out | apply below_alloc | apply pw_below_drewN | apply below_drew1) | exact HB.out)⟩⟩
  case round =>
    clear H'
    obtain ⟨x4_1, x13_1, rfl, rfl, HA, HK1, HB⟩ := hrel
    cases gk with
    | zero => exact absurd HA.out (by simp [fec_fix.l0])
    | succ k1 =>
      have H := HA.out
      clear HA
      simp only [fec_fix.l0] at H
      by_cases c2 : x13_1 < (l0.length : Int)
      · rw [if_pos c2] at H
        have c2b0 : decide (x13_1 < (l0.length : Int)) = true := decide_eq_true c2
        clear c2
        by_cases c3 : 0 ≤ x13_1
        · rw [if_pos c3] at H
          have c3b0 : decide (0 ≤ x13_1) = true := decide_eq_true c3
          clear c3
          by_cases c4 : x13_1 < (l0.length : Int)
          · rw [if_pos c4] at H
            have c4b0 : decide (x13_1 < (l0.length : Int)) = true := decide_eq_true c4
            clear c4
            by_cases c5 : (rd l0 x13_1) = 49
            · rw [if_pos c5] at H
              have c5b0 : ((rd l0 x13_1) == 49) = true := beq_iff_eq.mpr c5
              have c5b1 : ((rd l0 x13_1) != 49) = false := bne_eq_false_iff_eq.mpr c5
              clear c5
              have H' := Aside0.mk H
              clear H
              have p147 : 0 ≤ (x13_1 : Int) := of_decide_eq_true (by first | (with_reducible assumption) | assumption)
              have q147 : x13_1 < (l0.length : Int) := of_decide_eq_true (by first | (with_reducible assumption) | assumption)
              obtain ⟨ad147, e147, hx147_0⟩ := Kd.at_int HR0.out x13_1 p147 q147
              cases e147
              replace hx147_0 := (HB.out.cell (World.block_lt_of_cell? w _ hx147_0)).trans hx147_0
              replace p147 := eq_true p147
              replace q147 := eq_true q147
              go_wp2
              go_roundg k1
              case measure => have := HK1.out; omega
              case rel => exact ⟨(Go.bits .xor .i64 x4_1 (wrap64 (x13_1 + 1))), (wrap64 (x13_1 + 1)), (by first | rfl | (simp; done) | (simp [*]; done)), (by first | rfl | (simp; done) | (simp [*]; done)), H', ⟨by have := HK1.out; omega⟩, ⟨by repeat (first | (with_reducible first | exact HB.out | apply below_alloc | apply pw_below_drewN | apply below_drew1) | exact HB.out)⟩⟩
            · rw [if_neg c5] at H
              have c5b0 : ((rd l0 x13_1) == 49) = false := beq_eq_false_iff_ne.mpr c5
              have c5b1 : ((rd l0 x13_1) != 49) = true := bne_iff_ne.mpr c5
              have H' := Aside0.mk H
              clear H
              have p147 : 0 ≤ (x13_1 : Int) := of_decide_eq_true (by first | (with_reducible assumption) | assumption)
              have q147 : x13_1 < (l0.length : Int) := of_decide_eq_true (by first | (with_reducible assumption) | assumption)
              obtain ⟨ad147, e147, hx147_0⟩ := Kd.at_int HR0.out x13_1 p147 q147
              cases e147
              replace hx147_0 := (HB.out.cell (World.block_lt_of_cell? w _ hx147_0)).trans hx147_0
              replace p147 := eq_true p147
              replace q147 := eq_true q147
              go_wp2
              go_roundg k1
              case measure => have := HK1.out; omega
              case rel => exact ⟨(x4_1), (wrap64 (x13_1 + 1)), (by first | rfl | (simp; done) | (simp [*]; done)), (by first | rfl | (simp; done) | (simp [*]; done)), H', ⟨by have := HK1.out; omega⟩, ⟨by repeat (first | (with_reducible first | exact HB.out | apply below_alloc | apply pw_below_drewN | apply below_drew1) | exact HB.out)⟩⟩
          · rw [if_neg c4] at H
            exact absurd H (by simp)
        · rw [if_neg c3] at H
          exact absurd H (by simp)
      · rw [if_neg c2] at H
        have c2b0 : decide (x13_1 < (l0.length : Int)) = false := decide_eq_false c2
        clear c2
        obtain ⟨y148, hy148⟩ : ∃ y_ : List Int, y_ = (([3, 5, 6, 7] : List Int)) := ⟨_, rfl⟩
        replace H : (fec_fix.l1 k1 l0 x4_1 0 y148 (y148.length : Int) 0) = some (r1, r2) := by first | (rw [hy148]; with_reducible exact H) | (have H2_ := (Option.bind_some _ _).symm.trans H; rw [hy148]; with_reducible exact H2_) | (have H2_ := (Option.bind_some _ _).symm.trans H; with_reducible exact H2_) | with_reducible exact H | (rw [hy148]; exact H) | exact H
        have Ny148 := Aside0.mk hy148
        clear hy148
        have H' := Aside0.mk H
        clear H
        go_wp2_with (first | ((with_reducible refine gate_dst (N := 25) rfl ?_); refine Kd.R_lit (Kd.int .i64) _ 3 ?hg (N := 25) ?hd (xs := ([3, 5, 6, 7] : List Int)) (inner := [.int .i64 3, .int .i64 5, .int .i64 6, .int .i64 7]) (ok := fun _ => True) (okp := fun _ => True) ?hr ?hp (fun _ hk => hk) trivial (Below.refl _ _) (Nat.le_refl _) (by simp) ?_; (case hd => rfl); (case hg => rfl); (case hr => first | (go_simp; done) | (go_simp; rfl)); (case hp => exact (Reps.one (show Kd.M (Kd.int .i64) _ _ _ 3 [.int .i64 3] from rfl) (Reps.one (show Kd.M (Kd.int .i64) _ _ _ 5 [.int .i64 5] from rfl) (Reps.one (show Kd.M (Kd.int .i64) _ _ _ 6 [.int .i64 6] from rfl) (Reps.one (show Kd.M (Kd.int .i64) _ _ _ 7 [.int .i64 7] from rfl) (Reps.none _ _)))))); intro v149 w6 ho7 hb hg_ hnew_; clear hg_ hnew_; (first | rw [← Ny148.out] at ho7 | (simp only [Int.reduceToNat] at ho7; rw [← Ny148.out] at ho7)); have n0_ := Aside0.mk (Kd.R_lower ho7 (below_size (by repeat (first | (with_reducible first | exact HB.out | apply below_alloc | apply pw_below_drewN | apply below_drew1) | exact HB.out)))); have n1_ := Aside0.mk (below_step (by repeat (first | (with_reducible first | exact HB.out | apply below_alloc | apply pw_below_drewN | apply below_drew1) | exact HB.out)) hb); clear HB; have HO150 := n0_; have HB := n1_; clear n0_ n1_; clear hb ho7; obtain ⟨Ao8, co8, eo8⟩ := Kd.R_slice HO150.out; subst eo8))
        go_loopg [7, 27] k1 (fun kq v7 v27 w' => ∃ (x7_2 : Int) (x27_2 : Int), v7 = .int .i64 x7_2 ∧ v27 = .int .i64 x27_2 ∧ Aside0 (fec_fix.l1 kq l0 x4_1 x7_2 y148 (y148.length : Int) x27_2 = some (r1, r2)) ∧ Aside0 (kq ≤ k1) ∧ Aside0 (Kd.R (Kd.int .i64) 3 w' w.heap.size (fun _ => True) (.slice Ao8 y148.length co8) y148) ∧ Aside0 (Below w.heap.size w w'))
        case atStart => exact ⟨(0), (0), (by first | rfl | (simp; done) | (simp [*]; done)), (by first | rfl | (simp; done) | (simp [*]; done)), H', ⟨Nat.le_refl _⟩, ⟨by (with_reducible repeat (first | apply Kd.R_alloc | apply Kd.R_drewN | apply Kd.R_drew)); exact HO150.out⟩, ⟨by repeat (first | (with_reducible first | exact HB.out | apply below_alloc | apply pw_below_drewN | apply below_drew1) | exact HB.out)⟩⟩
        case round =>
          clear H'
          try clear p1
          try clear q1
          try clear hx1
          try clear c2
          try clear c2b0
          try clear p2
          try clear c3
          try clear c3b0
          try clear c4
          try clear c4b0
          try clear c5
          try clear c5b0
          try clear c5b1
          try clear p6
          try clear hx147_0
          try clear p147
          try clear q147
          obtain ⟨x7_2, x27_2, rfl, rfl, HA, HK2, HO_25, HB⟩ := hrel
          cases gk with
          | zero => exact absurd HA.out (by simp [fec_fix.l1])
          | succ k2 =>
            have H := HA.out
            clear HA
            simp only [fec_fix.l1] at H
            by_cases c9 : x27_2 < (y148.length : Int)
            · rw [if_pos c9] at H
              have c9b0 : decide (x27_2 < (y148.length : Int)) = true := decide_eq_true c9
              clear c9
              by_cases c10 : 0 ≤ x27_2
              · rw [if_pos c10] at H
                have c10b0 : decide (0 ≤ x27_2) = true := decide_eq_true c10
                clear c10
                by_cases c11 : x27_2 < (y148.length : Int)
                · rw [if_pos c11] at H
                  have c11b0 : decide (x27_2 < (y148.length : Int)) = true := decide_eq_true c11
                  clear c11
                  obtain ⟨ji12, hji12⟩ : ∃ j_ : Int, (wrap64 ((rd y148 x27_2) - 1)) = j_ := ⟨_, rfl⟩
                  replace H : (if 0 ≤ (ji12) then (if (ji12) < (l0.length : Int) then (if (rd y148 x27_2) = x4_1 then (fec_fix.l1 k2 l0 x4_1 (wrap64 ((wrap64 (2 * x7_2)) + (Go.bits .xor .i64 (((rd l0 (ji12)) - 48) % 256) 1))) y148 (y148.length : Int) (wrap64 (x27_2 + 1))) else (fec_fix.l1 k2 l0 x4_1 (wrap64 ((wrap64 (2 * x7_2)) + (((rd l0 (ji12)) - 48) % 256))) y148 (y148.length : Int) (wrap64 (x27_2 + 1)))) else (none)) else (none)) = some (r1, r2) := by first | (rw [hji12] at H; exact H) | (simp only [hji12] at H ⊢; exact H)
                  have hji12w : (IntKind.i64.wrap ((rd y148 x27_2) - 1)) = ji12 := (i64_w _).trans hji12
                  by_cases c13 : 0 ≤ (ji12)
                  · rw [if_pos c13] at H
                    have c13b0 : decide (0 ≤ (ji12)) = true := decide_eq_true c13
                    clear c13
                    by_cases c14 : (ji12) < (l0.length : Int)
                    · rw [if_pos c14] at H
                      have c14b0 : decide ((ji12) < (l0.length : Int)) = true := decide_eq_true c14
                      clear c14
                      by_cases c15 : (rd y148 x27_2) = x4_1
                      · rw [if_pos c15] at H
                        have c15b0 : ((rd y148 x27_2) == x4_1) = true := beq_iff_eq.mpr c15
                        have c15b1 : ((rd y148 x27_2) != x4_1) = false := bne_eq_false_iff_eq.mpr c15
                        clear c15
                        have H' := Aside0.mk H
                        clear H
                        have p151 : 0 ≤ (x27_2 : Int) := of_decide_eq_true (by first | (with_reducible assumption) | assumption)
                        have q151 : x27_2 < (y148.length : Int) := of_decide_eq_true (by first | (with_reducible assumption) | assumption)
                        obtain ⟨ad151, e151, hx151_0⟩ := Kd.at_int (Kd.R_reads' HO_25.out).2.2 x27_2 p151 q151
                        cases e151
                        replace p151 := eq_true p151
                        replace q151 := eq_true q151
                        have p152 : 0 ≤ ((ji12) : Int) := of_decide_eq_true (by first | (with_reducible assumption) | assumption)
                        have q152 : (ji12) < (l0.length : Int) := of_decide_eq_true (by first | (with_reducible assumption) | assumption)
                        obtain ⟨ad152, e152, hx152_0⟩ := Kd.at_int HR0.out (ji12) p152 q152
                        cases e152
                        replace hx152_0 := (HB.out.cell (World.block_lt_of_cell? w _ hx152_0)).trans hx152_0
                        replace p152 := eq_true p152
                        replace q152 := eq_true q152
                        go_wp2
                        go_roundg k2
                        case measure => have := HK1.out; have := HK2.out; omega
                        case rel => exact ⟨(wrap64 ((wrap64 (2 * x7_2)) + (Go.bits .xor .i64 (((rd l0 (ji12)) - 48) % 256) 1))), (wrap64 (x27_2 + 1)), (by first | rfl | (simp; done) | (simp only [← hji12] <;> (first | rfl | simp)) | (simp [*]; done)), (by first | rfl | (simp; done) | (simp [*]; done)), H', ⟨by have := HK1.out; have := HK2.out; omega⟩, ⟨by (with_reducible repeat (first | apply Kd.R_alloc | apply Kd.R_drewN | apply Kd.R_drew)); exact HO_25.out⟩, ⟨by repeat (first | (with_reducible first | exact HB.out | apply below_alloc | apply pw_below_drewN | apply below_drew1) | exact HB.out)⟩⟩
                      · rw [if_neg c15] at H
                        have c15b0 : ((rd y148 x27_2) == x4_1) = false := beq_eq_false_iff_ne.mpr c15
                        have c15b1 : ((rd y148 x27_2) != x4_1) = true := bne_iff_ne.mpr c15
                        have H' := Aside0.mk H
                        clear H
                        have p151 : 0 ≤ (x27_2 : Int) := of_decide_eq_true (by first | (with_reducible assumption) | assumption)
                        have q151 : x27_2 < (y148.length : Int) := of_decide_eq_true (by first | (with_reducible assumption) | assumption)
                        obtain ⟨ad151, e151, hx151_0⟩ := Kd.at_int (Kd.R_reads' HO_25.out).2.2 x27_2 p151 q151
                        cases e151
                        replace p151 := eq_true p151
                        replace q151 := eq_true q151
                        have p152 : 0 ≤ ((ji12) : Int) := of_decide_eq_true (by first | (with_reducible assumption) | assumption)
                        have q152 : (ji12) < (l0.length : Int) := of_decide_eq_true (by first | (with_reducible assumption) | assumption)
                        obtain ⟨ad152, e152, hx152_0⟩ := Kd.at_int HR0.out (ji12) p152 q152
                        cases e152
                        replace hx152_0 := (HB.out.cell (World.block_lt_of_cell? w _ hx152_0)).trans hx152_0
                        replace p152 := eq_true p152
                        replace q152 := eq_true q152
                        go_wp2
                        go_roundg k2
                        case measure => have := HK1.out; have := HK2.out; omega
                        case rel => exact ⟨(wrap64 ((wrap64 (2 * x7_2)) + (((rd l0 (ji12)) - 48) % 256))), (wrap64 (x27_2 + 1)), (by first | rfl | (simp; done) | (simp only [← hji12] <;> (first | rfl | simp)) | (simp [*]; done)), (by first | rfl | (simp; done) | (simp [*]; done)), H', ⟨by have := HK1.out; have := HK2.out; omega⟩, ⟨by (with_reducible repeat (first | apply Kd.R_alloc | apply Kd.R_drewN | apply Kd.R_drew)); exact HO_25.out⟩, ⟨by repeat (first | (with_reducible first | exact HB.out | apply below_alloc | apply pw_below_drewN | apply below_drew1) | exact HB.out)⟩⟩
                    · rw [if_neg c14] at H
                      exact absurd H (by simp)
                  · rw [if_neg c13] at H
                    exact absurd H (by simp)
                · rw [if_neg c11] at H
                  exact absurd H (by simp)
              · rw [if_neg c10] at H
                exact absurd H (by simp)
            · rw [if_neg c9] at H
              have c9b0 : decide (x27_2 < (y148.length : Int)) = false := decide_eq_false c9
              clear c9
              simp only [Option.some.injEq, Prod.mk.injEq] at H
              obtain ⟨rfl, rfl⟩ := H
              go_wp2
              go_ret2
              exact ⟨by first | rfl | (simp [errW_none, errW_some] <;> rfl) | (simp [*, errW_none, errW_some] <;> rfl), by repeat (first | (with_reducible first | exact HB.out | apply below_alloc | apply pw_below_drewN | apply below_drew1) | exact HB.out)⟩

end Go.Proofs.YtkdncfbbhbmaaaaDoor.Q
namespace Go.Proofs.YtkdncfbbhbmaaaaDoor.Q
open Go.RowKit Go.Proofs.YtkdncfbbhbmaaaaDoorW.PrintWords Go.Proofs.YtkdncfbbhbmaaaaDoorW.PrintLast Go.Proofs.YtkdncfbbhbmaaaaDoorW.PrintMore
attribute [local go_sem] max2_int min2_int max_two min_two max_three min_three max_four min_four   -- for this text's walks alone
set_option linter.unusedVariables false
set_option linter.unusedSimpArgs false

/-! ### fec_Decode: function 12 -/
mutual
def fec_Decode.j0 : Nat → ByteArray → Int → Bool → Option (ByteArray × Int × Int)
  | 0, _, _, _ => none
  | k + 1, x0, x1, x21 => if x21 = true then (some ((⟨#[]⟩ : ByteArray), 0, 1)) else ((fec_good.f k x0).bind fun t153 => (if t153 = true then (if ((x0.size : Int) % 14) = 0 then (fec_Decode.l0 k x0 x1 ([] : List Int) 0) else (some ((⟨#[]⟩ : ByteArray), 0, 9))) else (some ((⟨#[]⟩ : ByteArray), 0, 3))))
def fec_Decode.l0 : Nat → ByteArray → Int → List Int → Int → Option (ByteArray × Int × Int)
  | 0, _, _, _, _ => none
  | k + 1, x0, x1, x7, x8 => if x0.toList = ([] : List UInt8) then (if 0 ≤ (wrap64 ((x7.length : Int) / 2)) then (if (wrap64 ((x7.length : Int) / 2) : Int).toNat ≤ 281474976710656 then ((some (List.replicate (wrap64 ((x7.length : Int) / 2) : Int).toNat 0 : List Int)).bind fun y166 => (fec_Decode.l3 k x7 x8 y166 (y166.length : Int) 0)) else (none)) else (none)) else (fec_Decode.l1 k x0 x1 x7 x8 (mn x1 (wrap64 ((x0.size : Int) / 7))) (mn x1 (wrap64 ((x0.size : Int) / 7))) 0)
def fec_Decode.l3 : Nat → List Int → Int → List Int → Int → Int → Option (ByteArray × Int × Int)
  | 0, _, _, _, _, _ => none
  | k + 1, x7, x8, x15, x88, x89 => if x89 < x88 then (if 0 ≤ (wrap64 (2 * x89)) then (if (wrap64 (2 * x89)) < (x7.length : Int) then (if 0 ≤ (wrap64 ((wrap64 (2 * x89)) + 1)) then (if (wrap64 ((wrap64 (2 * x89)) + 1)) < (x7.length : Int) then (if 0 ≤ x89 then (if x89 < (x15.length : Int) then (fec_Decode.l3 k x7 x8 (x15.set (x89 : Int).toNat ((wrap64 ((wrap64 (16 * (rd x7 (wrap64 (2 * x89))))) + (rd x7 (wrap64 ((wrap64 (2 * x89)) + 1))))) % 256)) x88 (wrap64 (x89 + 1))) else (none)) else (none)) else (none)) else (none)) else (none)) else (none)) else (some (strOfNums x15, x8, 0))
def fec_Decode.l1 : Nat → ByteArray → Int → List Int → Int → Int → Int → Int → Option (ByteArray × Int × Int)
  | 0, _, _, _, _, _, _, _ => none
  | k + 1, x0, x1, x7, x8, x9, x44, x45 => if x45 < x44 then (if 7 ≤ 281474976710656 then ((some (List.replicate 7 0 : List Int)).bind fun y154 => (fec_Decode.l2 k x0 x1 x7 x8 x9 x45 y154 x44 x45 (y154.length : Int) 0)) else (none)) else (if 0 ≤ (wrap64 (7 * x9)) then (if (wrap64 (7 * x9)) ≤ (x0.size : Int) then (fec_Decode.l0 k (x0.extract ((wrap64 (7 * x9)) : Int).toNat x0.size) x1 x7 x8) else (none)) else (none))
def fec_Decode.l2 : Nat → ByteArray → Int → List Int → Int → Int → Int → List Int → Int → Int → Int → Int → Option (ByteArray × Int × Int)
  | 0, _, _, _, _, _, _, _, _, _, _, _ => none
  | k + 1, x0, x1, x7, x8, x9, x10, x11, x44, x45, x50, x51 => if x51 < x50 then (if 0 ≤ (wrap64 ((wrap64 (x51 * x9)) + x10)) then (if (wrap64 ((wrap64 (x51 * x9)) + x10)) < (x0.size : Int) then (if 0 ≤ x51 then (if x51 < (x11.length : Int) then (fec_Decode.l2 k x0 x1 x7 x8 x9 x10 (x11.set (x51 : Int).toNat (bt x0 (wrap64 ((wrap64 (x51 * x9)) + x10)))) x44 x45 x50 (wrap64 (x51 + 1))) else (none)) else (none)) else (none)) else (none)) else ((fec_fix.f k x11).bind fun bt158 => (if bt158.2 > 0 then (if x7.length < 17592186044416 then (fec_Decode.l1 k x0 x1 (x7 ++ [bt158.1]) (wrap64 (x8 + 1)) x9 x44 (wrap64 (x45 + 1))) else (none)) else (if x7.length < 17592186044416 then (fec_Decode.l1 k x0 x1 (x7 ++ [bt158.1]) x8 x9 x44 (wrap64 (x45 + 1))) else (none))))
end
def fec_Decode.f (k : Nat) (a0 : ByteArray) (a1 : Int) : Option (ByteArray × Int × Int) := if (a0.size : Int) > 7168 then (some ((⟨#[]⟩ : ByteArray), 0, 2)) else (if a1 < 1 then (fec_Decode.j0 k a0 a1 true) else (fec_Decode.j0 k a0 a1 (decide (a1 > 64))))
theorem fec_Decode.mono_l : ∀ k, (∀ y0 y1 y2, LeO (fec_Decode.j0 k y0 y1 y2) (fec_Decode.j0 (k + 1) y0 y1 y2)) ∧ (∀ y0 y1 y2 y3, LeO (fec_Decode.l0 k y0 y1 y2 y3) (fec_Decode.l0 (k + 1) y0 y1 y2 y3)) ∧ (∀ y0 y1 y2 y3 y4, LeO (fec_Decode.l3 k y0 y1 y2 y3 y4) (fec_Decode.l3 (k + 1) y0 y1 y2 y3 y4)) ∧ (∀ y0 y1 y2 y3 y4 y5 y6, LeO (fec_Decode.l1 k y0 y1 y2 y3 y4 y5 y6) (fec_Decode.l1 (k + 1) y0 y1 y2 y3 y4 y5 y6)) ∧ (∀ y0 y1 y2 y3 y4 y5 y6 y7 y8 y9 y10, LeO (fec_Decode.l2 k y0 y1 y2 y3 y4 y5 y6 y7 y8 y9 y10) (fec_Decode.l2 (k + 1) y0 y1 y2 y3 y4 y5 y6 y7 y8 y9 y10))
  | 0 => ⟨fun _ _ _ r h => by simp [fec_Decode.j0] at h, fun _ _ _ _ r h => by simp [fec_Decode.l0] at h, fun _ _ _ _ _ r h => by simp [fec_Decode.l3] at h, fun _ _ _ _ _ _ _ r h => by simp [fec_Decode.l1] at h, fun _ _ _ _ _ _ _ _ _ _ _ r h => by simp [fec_Decode.l2] at h⟩
  | k + 1 => by
    obtain ⟨ih0, ih1, ih2, ih3, ih4⟩ := fec_Decode.mono_l k
    refine ⟨?_, ?_, ?_, ?_, ?_⟩
    · intro y0 y1 y2
      unfold fec_Decode.j0
      repeat' first
      | (with_reducible exact ih0 _ _ _)
      | (with_reducible exact ih1 _ _ _ _)
      | (with_reducible exact ih2 _ _ _ _ _)
      | (with_reducible exact ih3 _ _ _ _ _ _ _)
      | (with_reducible exact ih4 _ _ _ _ _ _ _ _ _ _ _)
      | (with_reducible exact fec_fix.mono _ _)
      | (with_reducible exact fec_good.mono _ _)
      | (with_reducible exact LeO.refl _)
      | (with_reducible exact LeO.none _)
      | (with_reducible refine LeO.ite ?_ ?_)
      | (with_reducible refine LeO.bind ?_ (fun _ => ?_))
      | exact ih0 _ _ _
      | exact ih1 _ _ _ _
      | exact ih2 _ _ _ _ _
      | exact ih3 _ _ _ _ _ _ _
      | exact ih4 _ _ _ _ _ _ _ _ _ _ _
      | exact fec_fix.mono _ _
      | exact fec_good.mono _ _
      | exact LeO.none _
      | refine LeO.ite ?_ ?_
      | refine LeO.bind ?_ (fun _ => ?_)
    · intro y0 y1 y2 y3
      unfold fec_Decode.l0
      repeat' first
      | (with_reducible exact ih0 _ _ _)
      | (with_reducible exact ih1 _ _ _ _)
      | (with_reducible exact ih2 _ _ _ _ _)
      | (with_reducible exact ih3 _ _ _ _ _ _ _)
      | (with_reducible exact ih4 _ _ _ _ _ _ _ _ _ _ _)
      | (with_reducible exact fec_fix.mono _ _)
      | (with_reducible exact fec_good.mono _ _)
      | (with_reducible exact LeO.refl _)
      | (with_reducible exact LeO.none _)
      | (with_reducible refine LeO.ite ?_ ?_)
      | (with_reducible refine LeO.bind ?_ (fun _ => ?_))
      | exact ih0 _ _ _
      | exact ih1 _ _ _ _
      | exact ih2 _ _ _ _ _
      | exact ih3 _ _ _ _ _ _ _
      | exact ih4 _ _ _ _ _ _ _ _ _ _ _
      | exact fec_fix.mono _ _
      | exact fec_good.mono _ _
      | exact LeO.none _
      | refine LeO.ite ?_ ?_
      | refine LeO.bind ?_ (fun _ => ?_)
    · intro y0 y1 y2 y3 y4
      unfold fec_Decode.l3
      repeat' first
      | (with_reducible exact ih0 _ _ _)
      | (with_reducible exact ih1 _ _ _ _)
      | (with_reducible exact ih2 _ _ _ _ _)
      | (with_reducible exact ih3 _ _ _ _ _ _ _)
      | (with_reducible exact ih4 _ _ _ _ _ _ _ _ _ _ _)
      | (with_reducible exact fec_fix.mono _ _)
      | (with_reducible exact fec_good.mono _ _)
      | (with_reducible exact LeO.refl _)
      | (with_reducible exact LeO.none _)
      | (with_reducible refine LeO.ite ?_ ?_)
      | (with_reducible refine LeO.bind ?_ (fun _ => ?_))
      | exact ih0 _ _ _
      | exact ih1 _ _ _ _
      | exact ih2 _ _ _ _ _
      | exact ih3 _ _ _ _ _ _ _
      | exact ih4 _ _ _ _ _ _ _ _ _ _ _
      | exact fec_fix.mono _ _
      | exact fec_good.mono _ _
      | exact LeO.none _
      | refine LeO.ite ?_ ?_
      | refine LeO.bind ?_ (fun _ => ?_)
    · intro y0 y1 y2 y3 y4 y5 y6
      unfold fec_Decode.l1
      repeat' first
      | (with_reducible exact ih0 _ _ _)
      | (with_reducible exact ih1 _ _ _ _)
      | (with_reducible exact ih2 _ _ _ _ _)
      | (with_reducible exact ih3 _ _ _ _ _ _ _)
      | (with_reducible exact ih4 _ _ _ _ _ _ _ _ _ _ _)
      | (with_reducible exact fec_fix.mono _ _)
      | (with_reducible exact fec_good.mono _ _)
      | (with_reducible exact LeO.refl _)
      | (with_reducible exact LeO.none _)
      | (with_reducible refine LeO.ite ?_ ?_)
      | (with_reducible refine LeO.bind ?_ (fun _ => ?_))
      | exact ih0 _ _ _
      | exact ih1 _ _ _ _
      | exact ih2 _ _ _ _ _
      | exact ih3 _ _ _ _ _ _ _
      | exact ih4 _ _ _ _ _ _ _ _ _ _ _
      | exact fec_fix.mono _ _
      | exact fec_good.mono _ _
      | exact LeO.none _
      | refine LeO.ite ?_ ?_
      | refine LeO.bind ?_ (fun _ => ?_)
    · intro y0 y1 y2 y3 y4 y5 y6 y7 y8 y9 y10
      unfold fec_Decode.l2
      repeat' first
      | (with_reducible exact ih0 _ _ _)
      | (with_reducible exact ih1 _ _ _ _)
      | (with_reducible exact ih2 _ _ _ _ _)
      | (with_reducible exact ih3 _ _ _ _ _ _ _)
      | (with_reducible exact ih4 _ _ _ _ _ _ _ _ _ _ _)
      | (with_reducible exact fec_fix.mono _ _)
      | (with_reducible exact fec_good.mono _ _)
      | (with_reducible exact LeO.refl _)
      | (with_reducible exact LeO.none _)
      | (with_reducible refine LeO.ite ?_ ?_)
      | (with_reducible refine LeO.bind ?_ (fun _ => ?_))
      | exact ih0 _ _ _
      | exact ih1 _ _ _ _
      | exact ih2 _ _ _ _ _
      | exact ih3 _ _ _ _ _ _ _
      | exact ih4 _ _ _ _ _ _ _ _ _ _ _
      | exact fec_fix.mono _ _
      | exact fec_good.mono _ _
      | exact LeO.none _
      | refine LeO.ite ?_ ?_
      | refine LeO.bind ?_ (fun _ => ?_)
theorem fec_Decode.mono : ∀ a0 a1 k, LeO (fec_Decode.f k a0 a1) (fec_Decode.f (k + 1) a0 a1) := by
  intro a0 a1 k
  obtain ⟨ih0, ih1, ih2, ih3, ih4⟩ := fec_Decode.mono_l k
  unfold fec_Decode.f
  repeat' first
      | (with_reducible exact ih0 _ _ _)
      | (with_reducible exact ih1 _ _ _ _)
      | (with_reducible exact ih2 _ _ _ _ _)
      | (with_reducible exact ih3 _ _ _ _ _ _ _)
      | (with_reducible exact ih4 _ _ _ _ _ _ _ _ _ _ _)
      | (with_reducible exact fec_fix.mono _ _)
      | (with_reducible exact fec_good.mono _ _)
      | (with_reducible exact LeO.refl _)
      | (with_reducible exact LeO.none _)
      | (with_reducible refine LeO.ite ?_ ?_)
      | (with_reducible refine LeO.bind ?_ (fun _ => ?_))
      | exact ih0 _ _ _
      | exact ih1 _ _ _ _
      | exact ih2 _ _ _ _ _
      | exact ih3 _ _ _ _ _ _ _
      | exact ih4 _ _ _ _ _ _ _ _ _ _ _
      | exact fec_fix.mono _ _
      | exact fec_good.mono _ _
      | exact LeO.none _
      | refine LeO.ite ?_ ?_
      | refine LeO.bind ?_ (fun _ => ?_)
def fec_Decode.T32 : Bool × List (List Nat × List Nat) := (true, [([], []), ([], []), ([], []), ([], []), ([3], [3]), ([2, 4], [2, 4]), ([5], [5]), ([6], [6]), ([], []), ([], []), ([9], [9]), ([10], [10]), ([8, 11], [8, 11]), ([12], [12]), ([7, 13], [7, 13]), ([14], [14]), ([0, 1, 0, 1, 2, 3, 4, 5, 6, 7, 8, 9, 10, 11, 12, 13, 14, 15], [0, 1]), ([16, 15, 0, 1, 2, 3, 4, 5, 6, 7, 8, 9, 10, 11, 12, 13, 14, 15], [15, 16])])
def fec_Decode.B32 : List Nat := [0, 0, 0, 0, 8, 28, 60, 124, 0, 0, 512, 1536, 3840, 7936, 16380, 32764, 65535, 131071]
theorem fec_Decode.tab32 : rtab .any (opsOf Tryd.f12 32) = fec_Decode.T32 := by kernel_rfl
theorem fec_Decode.bits32 : waitsOk fec_Decode.T32.2 fec_Decode.B32 = true := by kernel_rfl
set_option maxHeartbeats 8000000 in
set_option maxRecDepth 100000 in
theorem fec_Decode.calls (k : Nat) (a0 : ByteArray) (a1 : Int) (r1 : ByteArray) (r2 : Int) (r3 : Int) (w : World) (h : fec_Decode.f k a0 a1 = some (r1, r2, r3)) :
    Calls Tryd.prog 12 #[.string a0, .int .i64 a1] w fun e w' => e = .returned (.tuple #[.string r1, .int .i64 r2, .int .i64 r3]) ∧ Below w.heap.size w w' := by
  have HB := Aside0.mk (Below.refl w.heap.size w)
  have H : (if (a0.size : Int) > 7168 then (some ((⟨#[]⟩ : ByteArray), 0, 2)) else (if a1 < 1 then (fec_Decode.j0 k a0 a1 true) else (fec_Decode.j0 k a0 a1 (decide (a1 > 64))))) = some (r1, r2, r3) := h
  clear h
  by_cases c3 : (a0.size : Int) > 7168
  · rw [if_pos c3] at H
    have c3b0 : decide (7168 < (a0.size : Int)) = true := decide_eq_true c3
    have c3b1 : decide (7168 < a0.size) = true := decide_eq_true (by omega)
    clear c3
    simp only [Option.some.injEq, Prod.mk.injEq] at H
    obtain ⟨rfl, rfl, rfl⟩ := H
    go_enter Tryd.func12, Tryd.ntmps12
    go_wp2
    go_ret3
    exact ⟨by first | rfl | (simp [errW_none, errW_some] <;> rfl) | (simp [*, errW_none, errW_some] <;> rfl), by repeat (first | (with_reducible first | exact HB.out | apply below_alloc | apply pw_below_drewN | apply below_drew1) | exact HB.out)⟩
  · rw [if_neg c3] at H
    have c3b0 : decide (7168 < (a0.size : Int)) = false := decide_eq_false c3
    have c3b1 : decide (7168 < a0.size) = false := decide_eq_false (by omega)
    clear c3
    have HC4 := Aside0.mk H
    clear H
    go_enter Tryd.func12, Tryd.ntmps12
    go_upto_region 3 with (fail)
    go_cut [21] (fun v21 wc => ∃ (kq : Nat) (x21_3 : Bool), v21 = .bool x21_3 ∧ Aside0 (fec_Decode.j0 kq a0 a1 x21_3 = some (r1, r2, r3)) ∧ Aside0 (kq ≤ k) ∧ Aside0 (Below w.heap.size w wc))
    case first =>
      have H := HC4.out
      clear HC4
      by_cases c5 : a1 < 1
      · rw [if_pos c5] at H
        have c5b0 : decide (a1 < 1) = true := decide_eq_true c5
        clear c5
        (first | rw [c5b0] | (simp only [i64_w, i32_w]; rw [c5b0]) | skip)
        have H' := Aside0.mk H
        clear H
        go_wp2
        go_meet
        case rel => exact ⟨_, (true), (by first | rfl | (simp; done) | (simp [*]; done)), H', ⟨by first | omega | exact Nat.le_refl _⟩, ⟨by repeat (first | (with_reducible first | exact HB.out | apply below_alloc | apply pw_below_drewN | apply below_drew1) | exact HB.out)⟩⟩
      · rw [if_neg c5] at H
        have c5b0 : decide (a1 < 1) = false := decide_eq_false c5
        clear c5
        (first | rw [c5b0] | (simp only [i64_w, i32_w]; rw [c5b0]) | skip)
        have H' := Aside0.mk H
        clear H
        go_wp2
        go_meet
        case rel => exact ⟨_, (decide (a1 > 64)), (by first | rfl | (simp; done) | (simp [*]; done)), H', ⟨by first | omega | exact Nat.le_refl _⟩, ⟨by repeat (first | (with_reducible first | exact HB.out | apply below_alloc | apply pw_below_drewN | apply below_drew1) | exact HB.out)⟩⟩
    case rest =>
      clear HC4
      try clear c1
      try clear p2
      try clear c3
      try clear c3b0
      try clear c3b1
      try clear c5
      try clear c5b0
      obtain ⟨kq, x21_3, rfl, HA, HJ3, HB⟩ := hcut
      cases kq with
      | zero => exact absurd HA.out (by simp [fec_Decode.j0])
      | succ kj3 =>
        have H := HA.out
        clear HA
        simp only [fec_Decode.j0] at H
        by_cases c6 : x21_3 = true
        · subst c6
          have H1 : (some ((⟨#[]⟩ : ByteArray), 0, 1)) = some (r1, r2, r3) := by rw [if_pos rfl] at H; exact H
          clear H
          have H := H1
          clear H1
          simp only [Option.some.injEq, Prod.mk.injEq] at H
          obtain ⟨rfl, rfl, rfl⟩ := H
          go_wp2
          go_ret3
          exact ⟨by first | rfl | (simp [errW_none, errW_some] <;> rfl) | (simp [*, errW_none, errW_some] <;> rfl), by repeat (first | (with_reducible first | exact HB.out | apply below_alloc | apply pw_below_drewN | apply below_drew1) | exact HB.out)⟩
        · replace c6 := Bool.eq_false_iff.mpr c6
          subst c6
          have H1 : ((fec_good.f kj3 a0).bind fun t153 => (if t153 = true then (if ((a0.size : Int) % 14) = 0 then (fec_Decode.l0 kj3 a0 a1 ([] : List Int) 0) else (some ((⟨#[]⟩ : ByteArray), 0, 9))) else (some ((⟨#[]⟩ : ByteArray), 0, 3)))) = some (r1, r2, r3) := by rw [if_neg (show ¬ (false = true) by decide)] at H; exact H
          clear H
          have H := H1
          clear H1
          replace H := Option.bind_eq_some_iff.mp H
          obtain ⟨t153, A70, H⟩ := H
          replace H : (if t153 = true then (if ((a0.size : Int) % 14) = 0 then (fec_Decode.l0 kj3 a0 a1 ([] : List Int) 0) else (some ((⟨#[]⟩ : ByteArray), 0, 9))) else (some ((⟨#[]⟩ : ByteArray), 0, 3))) = some (r1, r2, r3) := H
          have A7 := Aside0.mk A70
          clear A70
          by_cases c8 : t153 = true
          · subst c8
            have H1 : (if ((a0.size : Int) % 14) = 0 then (fec_Decode.l0 kj3 a0 a1 ([] : List Int) 0) else (some ((⟨#[]⟩ : ByteArray), 0, 9))) = some (r1, r2, r3) := by rw [if_pos rfl] at H; exact H
            clear H
            have H := H1
            clear H1
            by_cases c9 : ((a0.size : Int) % 14) = 0
            · rw [if_pos c9] at H
              have c9b0 : (((a0.size : Int) % 14) == 0) = true := beq_iff_eq.mpr c9
              have c9b1 : (((a0.size : Int) % 14) != 0) = false := bne_eq_false_iff_eq.mpr c9
              clear c9
              have H' := Aside0.mk H
              clear H
              go_wp2_with (first | ((with_reducible refine gate_callee (f := 24) rfl ?_); refine goesL_ (some 30) rfl rfl Tryd.func24 (by kernel_rfl) rfl #[.string a0] rfl (by (try simp only [List.map_toArray, List.map_cons, List.map_nil]); first | done | rfl | (simp only [List.length_drop, List.length_take]; rfl)) ?_; (with_reducible refine (fec_good.calls kj3 a0 true _ A7.out).mono ?_); rintro e w' ⟨rfl, ⟨nd, rfl⟩⟩; refine ⟨_, rfl, ?_⟩))
              go_loopg [0, 7, 8] kj3 (fun kq v0 v7 v8 w' => ∃ (x0_2 : ByteArray) (x7_2 : List Int) (x8_2 : Int), v0 = .string x0_2 ∧ v8 = .int .i64 x8_2 ∧ Aside0 (fec_Decode.l0 kq x0_2 a1 x7_2 x8_2 = some (r1, r2, r3)) ∧ Aside0 (kq ≤ kj3) ∧ Aside0 (Kd.R (Kd.int .i64) 3 w' w.heap.size (fun _ => True) v7 x7_2) ∧ Aside0 (Below w.heap.size w w'))
              case atStart => exact ⟨(a0), (([] : List Int)), (0), (by first | rfl | (simp; done) | (simp [*]; done)), (by first | rfl | (simp; done) | (simp [*]; done)), H', ⟨Nat.le_refl _⟩, ⟨by first | exact Kd.R_nil _ _ _ _ _ | exact Kd.N_nil _ _ _ _ _ | exact Kd.V_nil _ _ _ _ _ | exact Kd.Q_nil _ _ _ _ _ | exact Kd.S_nil _ _ _ _ _⟩, ⟨by repeat (first | (with_reducible first | exact HB.out | apply below_alloc | apply pw_below_drewN | apply below_drew1) | exact HB.out)⟩⟩
              case round =>
                clear H'
                try clear c1
                try clear c2
                try clear p2
                try clear c3
                try clear c3b0
                try clear c3b1
                try clear c5
                try clear c5b0
                try clear c6
                try clear c8
                try clear c9
                try clear c9b0
                try clear c9b1
                try clear p2
                obtain ⟨x0_2, x7_2, x8_2, rfl, rfl, HA, HK2, HO_7, HB⟩ := hrel
                cases gk with
                | zero => exact absurd HA.out (by simp [fec_Decode.l0])
                | succ k2 =>
                  have H := HA.out
                  clear HA
                  simp only [fec_Decode.l0] at H
                  by_cases c10 : x0_2.toList = ([] : List UInt8)
                  · rw [if_pos c10] at H
                    have c10b0 : (x0_2.toList == ([] : List UInt8)) = true := beq_iff_eq.mpr c10
                    have c10b1 : (x0_2.toList != ([] : List UInt8)) = false := bne_eq_false_iff_eq.mpr c10
                    clear c10
                    obtain ⟨ji11, hji11⟩ : ∃ j_ : Int, (wrap64 ((x7_2.length : Int) / 2)) = j_ := ⟨_, rfl⟩
                    replace H : (if 0 ≤ (ji11) then (if (ji11 : Int).toNat ≤ 281474976710656 then ((some (List.replicate (ji11 : Int).toNat 0 : List Int)).bind fun y166 => (fec_Decode.l3 k2 x7_2 x8_2 y166 (y166.length : Int) 0)) else (none)) else (none)) = some (r1, r2, r3) := by first | (rw [hji11] at H; exact H) | (simp only [hji11] at H ⊢; exact H)
                    have hji11w : (IntKind.i64.wrap ((x7_2.length : Int) / 2)) = ji11 := (i64_w _).trans hji11
                    by_cases c12 : 0 ≤ (ji11)
                    · rw [if_pos c12] at H
                      have c12b0 := eq_true c12
                      try (have c12b0q := c12b0; simp only [ByteArray.size_append, ByteArray.size_extract, Nat.min_self, Nat.sub_zero, Int.natCast_add] at c12b0q)
                      have c12b1 : decide (0 ≤ (ji11)) = true := decide_eq_true c12
                      clear c12
                      by_cases c13 : (ji11 : Int).toNat ≤ 281474976710656
                      · rw [if_pos c13] at H
                        have c13b0 := eq_true c13
                        try (have c13b0q := c13b0; simp only [ByteArray.size_append, ByteArray.size_extract, Nat.min_self, Nat.sub_zero, Int.natCast_add] at c13b0q)
                        have c13b1 : decide ((ji11 : Int).toNat ≤ 281474976710656) = true := decide_eq_true c13
                        clear c13
                        obtain ⟨y166, hy166⟩ : ∃ y_ : List Int, y_ = (List.replicate (ji11 : Int).toNat 0) := ⟨_, rfl⟩
                        replace H : (fec_Decode.l3 k2 x7_2 x8_2 y166 (y166.length : Int) 0) = some (r1, r2, r3) := by first | (rw [hy166]; with_reducible exact H) | (have H2_ := (Option.bind_some _ _).symm.trans H; rw [hy166]; with_reducible exact H2_) | (have H2_ := (Option.bind_some _ _).symm.trans H; with_reducible exact H2_) | with_reducible exact H | (rw [hy166]; exact H) | exact H
                        have Ny166 := Aside0.mk hy166
                        clear hy166
                        have H' := Aside0.mk H
                        clear H
                        obtain ⟨Ao14, co14, eo14⟩ := Kd.R_slice HO_7.out
                        subst eo14
                        go_wp2_with (first | ((with_reducible refine gate_dst (N := 86) rfl ?_); refine Kd.R_make (Kd.int .u8) _ 5 rfl (N := 86) rfl 44 _ _ rfl ji11 rfl rfl Tryd.underlying44 (.int .u8 0) 1 info5 rfl (by decide) (by omega) 0 (ok := fun _ => True) (okp := fun _ => True) rfl (fun _ hk => hk) trivial (of_decide_eq_true (by first | (with_reducible assumption) | assumption)) (Nat.le_trans (Nat.mul_le_mul_right _ (of_decide_eq_true (by first | (with_reducible assumption) | assumption) : ji11.toNat ≤ 281474976710656)) (by omega)) (Below.refl _ _) (Nat.le_refl _) ?_; intro v167 w15 ho16 hb hg_ hnew_; clear hg_ hnew_; (first | rw [← Ny166.out] at ho16 | (simp only [Int.reduceToNat] at ho16; rw [← Ny166.out] at ho16)); have n0_ := Aside0.mk (Kd.R_below (by (with_reducible repeat (first | apply Kd.R_alloc | apply Kd.R_drewN | apply Kd.R_drew)); exact HO_7.out) hb); have n1_ := Aside0.mk (Kd.R_lower ho16 (below_size (by repeat (first | (with_reducible first | exact HB.out | apply below_alloc | apply pw_below_drewN | apply below_drew1) | exact HB.out)))); have n2_ := Aside0.mk (below_step (by repeat (first | (with_reducible first | exact HB.out | apply below_alloc | apply pw_below_drewN | apply below_drew1) | exact HB.out)) hb); clear HO_7; clear HB; have HO_7 := n0_; have HO168 := n1_; have HB := n2_; clear n0_ n1_ n2_; clear hb ho16; obtain ⟨Ao17, co17, eo17⟩ := Kd.R_slice HO168.out; subst eo17))
                        go_loopg [89] k2 (fun kq v89 w' => ∃ (x15_3 : List Int) (x89_3 : Int), v89 = .int .i64 x89_3 ∧ Aside0 (fec_Decode.l3 kq x7_2 x8_2 x15_3 (y166.length : Int) x89_3 = some (r1, r2, r3)) ∧ Aside0 (kq ≤ k2) ∧ Aside0 (Kd.R (Kd.int .i64) 3 w' w.heap.size (fun _ => True) (.slice Ao14 x7_2.length co14) x7_2) ∧ Aside0 (Kd.R (Kd.int .u8) 5 w' w.heap.size (fun _ => True) (.slice Ao17 y166.length co17) x15_3) ∧ Aside0 (Below w.heap.size w w'))
                        case atStart => exact ⟨(y166), (0), (by first | rfl | (simp; done) | (simp [*]; done)), H', ⟨Nat.le_refl _⟩, ⟨by (with_reducible repeat (first | apply Kd.R_alloc | apply Kd.R_drewN | apply Kd.R_drew)); exact HO_7.out⟩, ⟨by (with_reducible repeat (first | apply Kd.R_alloc | apply Kd.R_drewN | apply Kd.R_drew)); exact HO168.out⟩, ⟨by repeat (first | (with_reducible first | exact HB.out | apply below_alloc | apply pw_below_drewN | apply below_drew1) | exact HB.out)⟩⟩
                        case round =>
                          clear H'
                          try clear c1
                          try clear c2
                          try clear p2
                          try clear c3
                          try clear c3b0
                          try clear c3b1
                          try clear c5
                          try clear c5b0
                          try clear c6
                          try clear p6
                          try clear c8
                          try clear c9
                          try clear c9b0
                          try clear c9b1
                          try clear c10
                          try clear c10b0
                          try clear c10b1
                          try clear c12
                          try clear c12b0
                          try clear c12b1
                          try clear c13
                          try clear c13b0
                          try clear c13b1
                          try clear p2
                          obtain ⟨x15_3, x89_3, rfl, HA, HK3, HO_7, HO_15, HB⟩ := hrel
                          have hl15_3 := (Kd.R_reads' HO_15.out).1
                          rw [hl15_3] at HO_15
                          (try simp only [hl15_3])
                          (try simp only [hl15_3] at HO_7)
                          cases gk with
                          | zero => exact absurd HA.out (by simp [fec_Decode.l3])
                          | succ k3 =>
                            have H := HA.out
                            clear HA
                            simp only [fec_Decode.l3] at H
                            by_cases c18 : x89_3 < (y166.length : Int)
                            · rw [if_pos c18] at H
                              have c18b0 : decide (x89_3 < (y166.length : Int)) = true := decide_eq_true c18
                              (try simp only [hl15_3] at c18b0)
                              clear c18
                              obtain ⟨ji19, hji19⟩ : ∃ j_ : Int, (wrap64 (2 * x89_3)) = j_ := ⟨_, rfl⟩
                              replace H : (if 0 ≤ (ji19) then (if (ji19) < (x7_2.length : Int) then (if 0 ≤ (wrap64 ((ji19) + 1)) then (if (wrap64 ((ji19) + 1)) < (x7_2.length : Int) then (if 0 ≤ x89_3 then (if x89_3 < (x15_3.length : Int) then (fec_Decode.l3 k3 x7_2 x8_2 (x15_3.set (x89_3 : Int).toNat ((wrap64 ((wrap64 (16 * (rd x7_2 (ji19)))) + (rd x7_2 (wrap64 ((ji19) + 1))))) % 256)) (y166.length : Int) (wrap64 (x89_3 + 1))) else (none)) else (none)) else (none)) else (none)) else (none)) else (none)) = some (r1, r2, r3) := by first | (rw [hji19] at H; exact H) | (simp only [hji19] at H ⊢; exact H)
                              have hji19w : (IntKind.i64.wrap (2 * x89_3)) = ji19 := (i64_w _).trans hji19
                              by_cases c20 : 0 ≤ (ji19)
                              · rw [if_pos c20] at H
                                have c20b0 : decide (0 ≤ (ji19)) = true := decide_eq_true c20
                                (try simp only [hl15_3] at c20b0)
                                clear c20
                                by_cases c21 : (ji19) < (x7_2.length : Int)
                                · rw [if_pos c21] at H
                                  have c21b0 : decide ((ji19) < (x7_2.length : Int)) = true := decide_eq_true c21
                                  (try simp only [hl15_3] at c21b0)
                                  clear c21
                                  obtain ⟨ji22, hji22⟩ : ∃ j_ : Int, (wrap64 ((ji19) + 1)) = j_ := ⟨_, rfl⟩
                                  replace H : (if 0 ≤ (ji22) then (if (ji22) < (x7_2.length : Int) then (if 0 ≤ x89_3 then (if x89_3 < (x15_3.length : Int) then (fec_Decode.l3 k3 x7_2 x8_2 (x15_3.set (x89_3 : Int).toNat ((wrap64 ((wrap64 (16 * (rd x7_2 (ji19)))) + (rd x7_2 (ji22)))) % 256)) (y166.length : Int) (wrap64 (x89_3 + 1))) else (none)) else (none)) else (none)) else (none)) = some (r1, r2, r3) := by first | (rw [hji22] at H; exact H) | (simp only [hji22] at H ⊢; exact H)
                                  have hji22w : (IntKind.i64.wrap ((ji19) + 1)) = ji22 := (i64_w _).trans hji22
                                  by_cases c23 : 0 ≤ (ji22)
                                  · rw [if_pos c23] at H
                                    have c23b0 : decide (0 ≤ (ji22)) = true := decide_eq_true c23
                                    (try simp only [hl15_3] at c23b0)
                                    clear c23
                                    by_cases c24 : (ji22) < (x7_2.length : Int)
                                    · rw [if_pos c24] at H
                                      have c24b0 : decide ((ji22) < (x7_2.length : Int)) = true := decide_eq_true c24
                                      (try simp only [hl15_3] at c24b0)
                                      clear c24
                                      by_cases c25 : 0 ≤ x89_3
                                      · rw [if_pos c25] at H
                                        have c25b0 : decide (0 ≤ x89_3) = true := decide_eq_true c25
                                        (try simp only [hl15_3] at c25b0)
                                        clear c25
                                        by_cases c26 : x89_3 < (x15_3.length : Int)
                                        · rw [if_pos c26] at H
                                          have c26b0 : decide (x89_3 < (x15_3.length : Int)) = true := decide_eq_true c26
                                          (try simp only [hl15_3] at c26b0)
                                          clear c26
                                          obtain ⟨y171, hy171⟩ : ∃ y_ : List Int, y_ = (x15_3.set (x89_3 : Int).toNat ((wrap64 ((wrap64 (16 * (rd x7_2 (ji19)))) + (rd x7_2 (ji22)))) % 256)) := ⟨_, rfl⟩
                                          replace H : (fec_Decode.l3 k3 x7_2 x8_2 y171 (y166.length : Int) (wrap64 (x89_3 + 1))) = some (r1, r2, r3) := by first | (rw [hy171]; with_reducible exact H) | (have H2_ := (Option.bind_some _ _).symm.trans H; rw [hy171]; with_reducible exact H2_) | (have H2_ := (Option.bind_some _ _).symm.trans H; with_reducible exact H2_) | with_reducible exact H | (rw [hy171]; exact H) | exact H
                                          have Ny171 := Aside0.mk hy171
                                          clear hy171
                                          have H' := Aside0.mk H
                                          clear H
                                          try go_wp2
                                          have n0_ := Aside0.mk (Kd.R_drew HO_7.out)
                                          have n1_ := Aside0.mk (Kd.R_drew HO_15.out)
                                          have n2_ := Aside0.mk (below_drew1 HB.out)
                                          clear HO_7
                                          clear HO_15
                                          clear HB
                                          have HO_7 := n0_
                                          have HO_15 := n1_
                                          have HB := n2_
                                          clear n0_ n1_ n2_
                                          have p169 : 0 ≤ ((ji19) : Int) := of_decide_eq_true (by first | (with_reducible assumption) | assumption)
                                          have q169 : (ji19) < (x7_2.length : Int) := of_decide_eq_true (by first | (with_reducible assumption) | assumption)
                                          obtain ⟨ad169, e169, hx169_0⟩ := Kd.at_int (Kd.R_reads' HO_7.out).2.2 (ji19) p169 q169
                                          cases e169
                                          replace p169 := eq_true p169
                                          replace q169 := eq_true q169
                                          have p170 : 0 ≤ ((ji22) : Int) := of_decide_eq_true (by first | (with_reducible assumption) | assumption)
                                          have q170 : (ji22) < (x7_2.length : Int) := of_decide_eq_true (by first | (with_reducible assumption) | assumption)
                                          obtain ⟨ad170, e170, hx170_0⟩ := Kd.at_int (Kd.R_reads' HO_7.out).2.2 (ji22) p170 q170
                                          obtain rfl : ad169 = ad170 := (by injection e170)
                                          replace p170 := eq_true p170
                                          replace q170 := eq_true q170
                                          have p27 : 0 ≤ (x89_3 : Int) := of_decide_eq_true (by first | (with_reducible assumption) | assumption)
                                          have q27 : (x89_3 : Int) < ((x15_3.length : Int) : Int) := of_decide_eq_true (by first | (with_reducible assumption) | assumption)
                                          obtain ⟨go27, co27, eo27, gb27, gl27, cl27, HG27⟩ := Kd.R_form HO_15.out (by omega)
                                          (first | cases eo27 | (injection eo27 with ea_ en_ ec_; (first | subst ea_ | (injection ea_ with ea_; subst ea_)); subst ec_; clear en_))
                                          have GB27 := Aside0.mk gb27
                                          have GG27 := Aside0.mk HG27
                                          clear gb27 gl27 HG27
                                          obtain ⟨hx27_0, hf27_0⟩ := Kd.R_celln 0 HO_15.out (x89_3 : Int) p27 q27
                                          replace p27 := eq_true p27
                                          replace q27 := eq_true q27
                                          have HP29 := Kd.R_putn HO_15.out (x89_3 : Int) ((wrap64 ((wrap64 (16 * (rd x7_2 (ji19)))) + (rd x7_2 (ji22)))) % 256)
                                          rw [← Ny171.out] at HP29
                                          have HQ29 := Aside0.mk HP29
                                          clear HP29
                                          refine start_ (n := 18) (S := fun w' => w'.cell? (ad169.add ((ji19)).toNat) = some (.int .i64 (rd x7_2 (ji19))) ∧ w'.cell? (ad169.add ((ji22)).toNat) = some (.int .i64 (rd x7_2 (ji22)))) (ds := [17]) #[false, false, false, false, false, false, false, false, false, false, false, false, false, false, false, false, false, false] (by kernel_rfl) rfl rfl ⟨hx169_0, hx170_0⟩ (fun hHeld => ?_); refine with_tabW fec_Decode.tab32 fec_Decode.bits32 (fun HT_ HW_ => ?_)
                                          generalize wr.drew = w28 at HO_7 HO_15 HB GG27 HQ29 hf27_0 hx169_0 hx170_0 hx27_0 hHeld ⊢
                                          refine pure_ (i := 0) (N := some 92) (v := ?_) (a' := ?_) #[true, false, false, false, false, false, false, false, false, false, false, false, false, false, false, false, false, false] rfl rfl (any_of HT_.out (by kernel_rfl)) (fun _ _ _ h => h) (Or.inl ⟨by rfl, ?_⟩) ?_ ?_
                                          rotate_left
                                          · intro w'
                                            go_simp
                                            with_reducible rfl
                                          rotate_left
                                          · simp only [Act.put, List.setIfInBounds_toArray, List.set_cons_zero, List.set_cons_succ, i64_w, i32_w]
                                            rfl
                                          refine pure_ (i := 1) (N := some 93) (v := ?_) (a' := ?_) #[true, true, false, false, false, false, false, false, false, false, false, false, false, false, false, false, false, false] rfl rfl (any_of HT_.out (by kernel_rfl)) (fun _ _ _ h => h) (Or.inl ⟨by rfl, ?_⟩) ?_ ?_
                                          rotate_left
                                          · intro w'
                                            go_simp
                                            with_reducible rfl
                                          rotate_left
                                          · simp only [Act.put, List.setIfInBounds_toArray, List.set_cons_zero, List.set_cons_succ, i64_w, i32_w]
                                            rfl
                                          refine pure_ (i := 2) (N := some 94) (v := ?_) (a' := ?_) #[true, true, true, false, false, false, false, false, false, false, false, false, false, false, false, false, false, false] rfl rfl (any_of HT_.out (by kernel_rfl)) (fun _ _ _ h => h) (Or.inl ⟨by rfl, ?_⟩) ?_ ?_
                                          rotate_left
                                          · intro w'
                                            go_simp
                                            with_reducible rfl
                                          rotate_left
                                          · simp only [Act.put, List.setIfInBounds_toArray, List.set_cons_zero, List.set_cons_succ, i64_w, i32_w]
                                            rfl
                                          refine pure_ (i := 3) (N := some 95) (v := ?_) (a' := ?_) #[true, true, true, true, false, false, false, false, false, false, false, false, false, false, false, false, false, false] rfl rfl (any_of HT_.out (by kernel_rfl)) (fun _ _ _ h => h) (Or.inl ⟨by rfl, ?_⟩) ?_ ?_
                                          rotate_left
                                          · intro w'
                                            go_simp
                                            with_reducible rfl
                                          rotate_left
                                          · simp only [Act.put, List.setIfInBounds_toArray, List.set_cons_zero, List.set_cons_succ, i64_w, i32_w]
                                            rfl
                                          refine pure_ (i := 4) (N := some 96) (v := ?_) (a' := ?_) #[true, true, true, true, true, false, false, false, false, false, false, false, false, false, false, false, false, false] rfl rfl (any_of HT_.out (by kernel_rfl)) (fun _ _ _ h => h) (Or.inl ⟨by rfl, ?_⟩) ?_ ?_
                                          rotate_left
                                          · intro w'
                                            go_simp
                                            with_reducible rfl
                                          rotate_left
                                          · simp only [Act.put, List.setIfInBounds_toArray, List.set_cons_zero, List.set_cons_succ, i64_w, i32_w]
                                            rfl
                                          refine pure_ (i := 5) (N := some 97) (v := ?_) (a' := ?_) #[true, true, true, true, true, true, false, false, false, false, false, false, false, false, false, false, false, false] rfl rfl (any_of HT_.out (by kernel_rfl)) (fun _ _ _ h => h) (Or.inl ⟨by rfl, ?_⟩) ?_ ?_
                                          rotate_left
                                          · intro w'
                                            go_simp
                                            with_reducible rfl
                                          rotate_left
                                          · simp only [Act.put, List.setIfInBounds_toArray, List.set_cons_zero, List.set_cons_succ, i64_w, i32_w]
                                            rfl
                                          refine pure_ (i := 8) (N := some 100) (v := ?_) (a' := ?_) #[true, true, true, true, true, true, false, false, true, false, false, false, false, false, false, false, false, false] rfl rfl (any_of HT_.out (by kernel_rfl)) (fun _ _ _ h => h) (Or.inl ⟨by rfl, ?_⟩) ?_ ?_
                                          rotate_left
                                          · intro w'
                                            go_simp
                                            with_reducible rfl
                                          rotate_left
                                          · simp only [Act.put, List.setIfInBounds_toArray, List.set_cons_zero, List.set_cons_succ, i64_w, i32_w]
                                            rfl
                                          refine pure_ (i := 9) (N := some 101) (v := ?_) (a' := ?_) #[true, true, true, true, true, true, false, false, true, true, false, false, false, false, false, false, false, false] rfl rfl (any_of HT_.out (by kernel_rfl)) (fun _ _ _ h => h) (Or.inl ⟨by rfl, ?_⟩) ?_ ?_
                                          rotate_left
                                          · intro w'
                                            go_simp
                                            with_reducible rfl
                                          rotate_left
                                          · simp only [Act.put, List.setIfInBounds_toArray, List.set_cons_zero, List.set_cons_succ, i64_w, i32_w]
                                            rfl
                                          refine pure_ (i := 10) (N := some 102) (v := ?_) (a' := ?_) #[true, true, true, true, true, true, false, false, true, true, true, false, false, false, false, false, false, false] rfl rfl (any_of HT_.out (by kernel_rfl)) (fun _ _ _ h => h) (Or.inl ⟨by rfl, ?_⟩) ?_ ?_
                                          rotate_left
                                          · intro w'
                                            go_simp
                                            with_reducible rfl
                                          rotate_left
                                          · simp only [Act.put, List.setIfInBounds_toArray, List.set_cons_zero, List.set_cons_succ, i64_w, i32_w]
                                            rfl
                                          refine pure_ (i := 11) (N := some 103) (v := ?_) (a' := ?_) #[true, true, true, true, true, true, false, false, true, true, true, true, false, false, false, false, false, false] rfl rfl (any_of HT_.out (by kernel_rfl)) (fun _ _ _ h => h) (Or.inl ⟨by rfl, ?_⟩) ?_ ?_
                                          rotate_left
                                          · intro w'
                                            go_simp
                                            with_reducible rfl
                                          rotate_left
                                          · simp only [Act.put, List.setIfInBounds_toArray, List.set_cons_zero, List.set_cons_succ, i64_w, i32_w]
                                            rfl
                                          refine pure_ (i := 12) (N := some 104) (v := ?_) (a' := ?_) #[true, true, true, true, true, true, false, false, true, true, true, true, true, false, false, false, false, false] rfl rfl (any_of HT_.out (by kernel_rfl)) (fun _ _ _ h => h) (Or.inl ⟨by rfl, ?_⟩) ?_ ?_
                                          rotate_left
                                          · intro w'
                                            go_simp
                                            with_reducible rfl
                                          rotate_left
                                          · simp only [Act.put, List.setIfInBounds_toArray, List.set_cons_zero, List.set_cons_succ, i64_w, i32_w]
                                            rfl
                                          refine take_ (i := 6) (N := some 98) (v := ?_) (a' := ?_) #[true, true, true, true, true, true, true, false, true, true, true, true, true, false, false, false, false, false] rfl rfl (take_ofW HT_.out HW_.out (by kernel_rfl)) (fun _ _ _ h => h) (Or.inl ⟨by rfl, ?_⟩) hHeld ?_ ?_
                                          rotate_left
                                          · rintro w' ⟨s0, s1⟩
                                            go_simp
                                            with_reducible rfl
                                          rotate_left
                                          · simp only [Act.put, List.setIfInBounds_toArray, List.set_cons_zero, List.set_cons_succ, i64_w, i32_w]
                                            rfl
                                          refine pure_ (i := 7) (N := some 99) (v := ?_) (a' := ?_) #[true, true, true, true, true, true, true, true, true, true, true, true, true, false, false, false, false, false] rfl rfl (any_of HT_.out (by kernel_rfl)) (fun _ _ _ h => h) (Or.inl ⟨by rfl, ?_⟩) ?_ ?_
                                          rotate_left
                                          · intro w'
                                            go_simp
                                            with_reducible rfl
                                          rotate_left
                                          · simp only [Act.put, List.setIfInBounds_toArray, List.set_cons_zero, List.set_cons_succ, i64_w, i32_w]
                                            rfl
                                          refine take_ (i := 13) (N := some 105) (v := ?_) (a' := ?_) #[true, true, true, true, true, true, true, true, true, true, true, true, true, true, false, false, false, false] rfl rfl (take_ofW HT_.out HW_.out (by kernel_rfl)) (fun _ _ _ h => h) (Or.inl ⟨by rfl, ?_⟩) hHeld ?_ ?_
                                          rotate_left
                                          · rintro w' ⟨s0, s1⟩
                                            go_simp
                                            with_reducible rfl
                                          rotate_left
                                          · simp only [Act.put, List.setIfInBounds_toArray, List.set_cons_zero, List.set_cons_succ, i64_w, i32_w]
                                            rfl
                                          refine pure_ (i := 14) (N := some 106) (v := ?_) (a' := ?_) #[true, true, true, true, true, true, true, true, true, true, true, true, true, true, true, false, false, false] rfl rfl (any_of HT_.out (by kernel_rfl)) (fun _ _ _ h => h) (Or.inl ⟨by rfl, ?_⟩) ?_ ?_
                                          rotate_left
                                          · intro w'
                                            go_simp
                                            with_reducible rfl
                                          rotate_left
                                          · simp only [Act.put, List.setIfInBounds_toArray, List.set_cons_zero, List.set_cons_succ, i64_w, i32_w]
                                            rfl
                                          refine pure_ (i := 15) (N := some 107) (v := ?_) (a' := ?_) #[true, true, true, true, true, true, true, true, true, true, true, true, true, true, true, true, false, false] rfl rfl (any_of HT_.out (by kernel_rfl)) (fun _ _ _ h => h) (Or.inl ⟨by rfl, ?_⟩) ?_ ?_
                                          rotate_left
                                          · intro w'
                                            go_simp
                                            with_reducible rfl
                                          rotate_left
                                          · simp only [Act.put, List.setIfInBounds_toArray, List.set_cons_zero, List.set_cons_succ, i64_w, i32_w]
                                            rfl
                                          refine pure_ (i := 16) (N := some 108) (v := ?_) (a' := ?_) #[true, true, true, true, true, true, true, true, true, true, true, true, true, true, true, true, true, false] rfl rfl (any_of HT_.out (by kernel_rfl)) (fun _ _ _ h => h) (Or.inl ⟨by rfl, ?_⟩) ?_ ?_
                                          rotate_left
                                          · intro w'
                                            go_simp
                                            with_reducible rfl
                                          rotate_left
                                          · simp only [Act.put, List.setIfInBounds_toArray, List.set_cons_zero, List.set_cons_succ, i64_w, i32_w]
                                            rfl
                                          refine last_ (i := 17) (N := none) #[true, true, true, true, true, true, true, true, true, true, true, true, true, true, true, true, true, true] rfl rfl (one_of HT_.out (by kernel_rfl)) (by decide) (fun K hK => ?_)
                                          refine skip_ (w1 := ?_) (by rfl) rfl ?_ ?_
                                          rotate_left
                                          · go_simp
                                            rfl
                                          refine hK.out _ _ ?_
                                          clear hK K
                                          refine done_ (done_of HT_.out (by kernel_rfl)) ?_
                                          try go_wp2
                                          (try simp only [← hl15_3])
                                          go_roundg k3
                                          case measure => have := HJ3.out; have := HK2.out; have := HK3.out; omega
                                          case rel => exact ⟨(y171), (wrap64 (x89_3 + 1)), (by first | rfl | (simp; done) | (simp [*]; done)), H', ⟨by have := HJ3.out; have := HK2.out; have := HK3.out; omega⟩, ⟨by (try simp only [hl15_3]); (with_reducible repeat (first | apply Kd.R_alloc | apply Kd.R_drewN | apply Kd.R_drew)); exact Kd.R_mono (Kd.R_far (p := ⟨go27, (x89_3 : Int).toNat, none⟩) (Kd.R_types HO_7.out GG27.out (by decide)) (fun _ hk => hk.2) (.int .u8 ((wrap64 ((wrap64 (16 * (rd x7_2 (ji19)))) + (rd x7_2 (ji22)))) % 256))) (fun _ hk => trivial)⟩, ⟨by (try simp only [hl15_3]); (with_reducible repeat (first | apply Kd.R_alloc | apply Kd.R_drewN | apply Kd.R_drew)); exact HQ29.out⟩, ⟨by repeat (first | (with_reducible first | exact HB.out | apply below_alloc | apply pw_below_drewN | apply below_drew1 | refine below_set ?_ GB27.out) | exact HB.out)⟩⟩
                                        · rw [if_neg c26] at H
                                          exact absurd H (by simp)
                                      · rw [if_neg c25] at H
                                        exact absurd H (by simp)
                                    · rw [if_neg c24] at H
                                      exact absurd H (by simp)
                                  · rw [if_neg c23] at H
                                    exact absurd H (by simp)
                                · rw [if_neg c21] at H
                                  exact absurd H (by simp)
                              · rw [if_neg c20] at H
                                exact absurd H (by simp)
                            · rw [if_neg c18] at H
                              have c18b0 : decide (x89_3 < (y166.length : Int)) = false := decide_eq_false c18
                              (try simp only [hl15_3] at c18b0)
                              clear c18
                              simp only [Option.some.injEq, Prod.mk.injEq] at H
                              obtain ⟨rfl, rfl, rfl⟩ := H
                              have hcv30 := own_string (P := Tryd.prog) Tryd.underlying44 Tryd.underlying5 Tryd.underlying9 (Kd.own_of_R HO_15.out)
                              go_wp2
                              go_ret3
                              exact ⟨by first | rfl | (simp [errW_none, errW_some] <;> rfl) | (simp only [← hji11]; first | rfl | (simp [errW_none, errW_some] <;> rfl)) | (simp [*, errW_none, errW_some] <;> rfl), by repeat (first | (with_reducible first | exact HB.out | apply below_alloc | apply pw_below_drewN | apply below_drew1) | exact HB.out)⟩
                      · rw [if_neg c13] at H
                        exact absurd H (by simp)
                    · rw [if_neg c12] at H
                      exact absurd H (by simp)
                  · rw [if_neg c10] at H
                    have c10b0 : (x0_2.toList == ([] : List UInt8)) = false := beq_eq_false_iff_ne.mpr c10
                    have c10b1 : (x0_2.toList != ([] : List UInt8)) = true := bne_iff_ne.mpr c10
                    obtain ⟨ji31, hji31⟩ : ∃ j_ : Int, (mn a1 (wrap64 ((x0_2.size : Int) / 7))) = j_ := ⟨_, rfl⟩
                    replace H : (fec_Decode.l1 k2 x0_2 a1 x7_2 x8_2 ji31 ji31 0) = some (r1, r2, r3) := by first | (rw [hji31] at H; exact H) | (simp only [hji31] at H ⊢; exact H)
                    have hji31_ : (if (wrap64 ((x0_2.size : Int) / 7)) < a1 then (wrap64 ((x0_2.size : Int) / 7)) else a1) = ji31 := hji31
                    have H' := Aside0.mk H
                    clear H
                    go_wp2
                    go_loopg [7, 8, 45] k2 (fun kq v7 v8 v45 w' => ∃ (x7_3 : List Int) (x8_3 : Int) (x45_3 : Int), v8 = .int .i64 x8_3 ∧ v45 = .int .i64 x45_3 ∧ Aside0 (fec_Decode.l1 kq x0_2 a1 x7_3 x8_3 ji31 ji31 x45_3 = some (r1, r2, r3)) ∧ Aside0 (kq ≤ k2) ∧ Aside0 (Kd.R (Kd.int .i64) 3 w' w.heap.size (fun _ => True) v7 x7_3) ∧ Aside0 (Below w.heap.size w w'))
                    case atStart => exact ⟨(x7_2), (x8_2), (0), (by first | rfl | (simp; done) | (simp [*]; done)), (by first | rfl | (simp; done) | (simp [*]; done)), H', ⟨Nat.le_refl _⟩, ⟨by (with_reducible repeat (first | apply Kd.R_alloc | apply Kd.R_drewN | apply Kd.R_drew)); exact HO_7.out⟩, ⟨by repeat (first | (with_reducible first | exact HB.out | apply below_alloc | apply pw_below_drewN | apply below_drew1) | exact HB.out)⟩⟩
                    case round =>
                      clear H'
                      try clear c1
                      try clear p1
                      try clear q1
                      try clear hx1
                      try clear c2
                      try clear p2
                      try clear q2
                      try clear hx2
                      try clear hf2
                      try clear c3
                      try clear c3b0
                      try clear c3b1
                      try clear hcv3
                      try clear c5
                      try clear c5b0
                      try clear c6
                      try clear p6
                      try clear c8
                      try clear c9
                      try clear c9b0
                      try clear c9b1
                      try clear c10
                      try clear c10b0
                      try clear c10b1
                      try clear c12
                      try clear c12b0
                      try clear c12b1
                      try clear c13
                      try clear c13b0
                      try clear c13b1
                      try clear p16
                      try clear q16
                      try clear hx16
                      try clear p17
                      try clear q17
                      try clear hx17
                      try clear c18
                      try clear c18b0
                      try clear c20
                      try clear c20b0
                      try clear c21
                      try clear c21b0
                      try clear c23
                      try clear c23b0
                      try clear c24
                      try clear c24b0
                      try clear c25
                      try clear c25b0
                      try clear c26
                      try clear c26b0
                      try clear p27
                      try clear q27
                      try clear hx27
                      try clear hf27
                      try clear hcv30
                      try clear hx169_0
                      try clear hx170_0
                      try clear hx27_0
                      try clear p169
                      try clear p170
                      try clear p2
                      try clear p27
                      try clear p6
                      try clear q169
                      try clear q170
                      try clear q27
                      obtain ⟨x7_3, x8_3, x45_3, rfl, rfl, HA, HK3, HO_7, HB⟩ := hrel
                      cases gk with
                      | zero => exact absurd HA.out (by simp [fec_Decode.l1])
                      | succ k3 =>
                        have H := HA.out
                        clear HA
                        simp only [fec_Decode.l1] at H
                        by_cases c32 : x45_3 < ji31
                        · rw [if_pos c32] at H
                          have c32b0 : decide (x45_3 < ji31) = true := decide_eq_true c32
                          clear c32
                          by_cases c33 : 7 ≤ 281474976710656
                          · rw [if_pos c33] at H
                            have c33b0 := eq_true c33
                            try (have c33b0q := c33b0; simp only [ByteArray.size_append, ByteArray.size_extract, Nat.min_self, Nat.sub_zero, Int.natCast_add] at c33b0q)
                            have c33b1 : decide (7 ≤ 281474976710656) = true := decide_eq_true c33
                            clear c33
                            obtain ⟨y154, hy154⟩ : ∃ y_ : List Int, y_ = (List.replicate 7 0) := ⟨_, rfl⟩
                            replace H : (fec_Decode.l2 k3 x0_2 a1 x7_3 x8_3 ji31 x45_3 y154 ji31 x45_3 (y154.length : Int) 0) = some (r1, r2, r3) := by first | (rw [hy154]; with_reducible exact H) | (have H2_ := (Option.bind_some _ _).symm.trans H; rw [hy154]; with_reducible exact H2_) | (have H2_ := (Option.bind_some _ _).symm.trans H; with_reducible exact H2_) | with_reducible exact H | (rw [hy154]; exact H) | exact H
                            have Ny154 := Aside0.mk hy154
                            clear hy154
                            have H' := Aside0.mk H
                            clear H
                            go_wp2_with (first | ((with_reducible refine gate_dst (N := 48) rfl ?_); refine Kd.R_make (Kd.int .u8) _ 5 rfl (N := 48) rfl 44 _ _ rfl 7 rfl rfl Tryd.underlying44 (.int .u8 0) 1 info5 rfl (by decide) (by omega) 0 (ok := fun _ => True) (okp := fun _ => True) rfl (fun _ hk => hk) trivial (by omega) (by omega) (Below.refl _ _) (Nat.le_refl _) ?_; intro v155 w34 ho35 hb hg_ hnew_; clear hg_ hnew_; (first | rw [← Ny154.out] at ho35 | (simp only [Int.reduceToNat] at ho35; rw [← Ny154.out] at ho35)); have n0_ := Aside0.mk (Kd.R_below (by (with_reducible repeat (first | apply Kd.R_alloc | apply Kd.R_drewN | apply Kd.R_drew)); exact HO_7.out) hb); have n1_ := Aside0.mk (Kd.R_lower ho35 (below_size (by repeat (first | (with_reducible first | exact HB.out | apply below_alloc | apply pw_below_drewN | apply below_drew1) | exact HB.out)))); have n2_ := Aside0.mk (below_step (by repeat (first | (with_reducible first | exact HB.out | apply below_alloc | apply pw_below_drewN | apply below_drew1) | exact HB.out)) hb); clear HO_7; clear HB; have HO_7 := n0_; have HO156 := n1_; have HB := n2_; clear n0_ n1_ n2_; clear hb ho35; obtain ⟨Ao36, co36, eo36⟩ := Kd.R_slice HO156.out; subst eo36))
                            go_loopg [51] k3 (fun kq v51 w' => ∃ (x11_4 : List Int) (x51_4 : Int), v51 = .int .i64 x51_4 ∧ Aside0 (fec_Decode.l2 kq x0_2 a1 x7_3 x8_3 ji31 x45_3 x11_4 ji31 x45_3 (y154.length : Int) x51_4 = some (r1, r2, r3)) ∧ Aside0 (kq ≤ k3) ∧ Aside0 (Kd.R (Kd.int .i64) 3 w' w.heap.size (fun _ => True) u7 x7_3) ∧ Aside0 (Kd.R (Kd.int .u8) 5 w' w.heap.size (fun _ => True) (.slice Ao36 y154.length co36) x11_4) ∧ Aside0 (Below w.heap.size w w'))
                            case atStart => exact ⟨(y154), (0), (by first | rfl | (simp; done) | (simp [*]; done)), H', ⟨Nat.le_refl _⟩, ⟨by (with_reducible repeat (first | apply Kd.R_alloc | apply Kd.R_drewN | apply Kd.R_drew)); exact HO_7.out⟩, ⟨by (with_reducible repeat (first | apply Kd.R_alloc | apply Kd.R_drewN | apply Kd.R_drew)); exact HO156.out⟩, ⟨by repeat (first | (with_reducible first | exact HB.out | apply below_alloc | apply pw_below_drewN | apply below_drew1) | exact HB.out)⟩⟩
                            case round =>
                              clear H'
                              try clear c1
                              try clear p1
                              try clear q1
                              try clear hx1
                              try clear c2
                              try clear p2
                              try clear q2
                              try clear hx2
                              try clear hf2
                              try clear c3
                              try clear c3b0
                              try clear c3b1
                              try clear hcv3
                              try clear c5
                              try clear c5b0
                              try clear c6
                              try clear p6
                              try clear c8
                              try clear c9
                              try clear c9b0
                              try clear c9b1
                              try clear c10
                              try clear c10b0
                              try clear c10b1
                              try clear c12
                              try clear c12b0
                              try clear c12b1
                              try clear c13
                              try clear c13b0
                              try clear c13b1
                              try clear p16
                              try clear q16
                              try clear hx16
                              try clear p17
                              try clear q17
                              try clear hx17
                              try clear c18
                              try clear c18b0
                              try clear c20
                              try clear c20b0
                              try clear c21
                              try clear c21b0
                              try clear c23
                              try clear c23b0
                              try clear c24
                              try clear c24b0
                              try clear c25
                              try clear c25b0
                              try clear c26
                              try clear c26b0
                              try clear p27
                              try clear q27
                              try clear hx27
                              try clear hf27
                              try clear hcv30
                              try clear c32
                              try clear c32b0
                              try clear c33
                              try clear c33b0
                              try clear c33b1
                              try clear hx169_0
                              try clear hx170_0
                              try clear hx27_0
                              try clear p1
                              try clear p16
                              try clear p169
                              try clear p17
                              try clear p170
                              try clear p2
                              try clear p27
                              try clear p6
                              try clear q1
                              try clear q16
                              try clear q169
                              try clear q17
                              try clear q170
                              try clear q2
                              try clear q27
                              obtain ⟨x11_4, x51_4, rfl, HA, HK4, HO_7, HO_11, HB⟩ := hrel
                              have hl11_4 := (Kd.R_reads' HO_11.out).1
                              rw [hl11_4] at HO_11
                              (try simp only [hl11_4])
                              (try simp only [hl11_4] at HO_7)
                              cases gk with
                              | zero => exact absurd HA.out (by simp [fec_Decode.l2])
                              | succ k4 =>
                                have H := HA.out
                                clear HA
                                simp only [fec_Decode.l2] at H
                                by_cases c37 : x51_4 < (y154.length : Int)
                                · rw [if_pos c37] at H
                                  have c37b0 : decide (x51_4 < (y154.length : Int)) = true := decide_eq_true c37
                                  (try simp only [hl11_4] at c37b0)
                                  clear c37
                                  obtain ⟨ji38, hji38⟩ : ∃ j_ : Int, (wrap64 ((wrap64 (x51_4 * ji31)) + x45_3)) = j_ := ⟨_, rfl⟩
                                  replace H : (if 0 ≤ (ji38) then (if (ji38) < (x0_2.size : Int) then (if 0 ≤ x51_4 then (if x51_4 < (x11_4.length : Int) then (fec_Decode.l2 k4 x0_2 a1 x7_3 x8_3 ji31 x45_3 (x11_4.set (x51_4 : Int).toNat (bt x0_2 (ji38))) ji31 x45_3 (y154.length : Int) (wrap64 (x51_4 + 1))) else (none)) else (none)) else (none)) else (none)) = some (r1, r2, r3) := by first | (rw [hji38] at H; exact H) | (simp only [hji38] at H ⊢; exact H)
                                  have hji38w : (IntKind.i64.wrap ((wrap64 (x51_4 * ji31)) + x45_3)) = ji38 := (i64_w _).trans hji38
                                  by_cases c39 : 0 ≤ (ji38)
                                  · rw [if_pos c39] at H
                                    have c39b0 : decide (0 ≤ (ji38)) = true := decide_eq_true c39
                                    (try simp only [hl11_4] at c39b0)
                                    clear c39
                                    by_cases c40 : (ji38) < (x0_2.size : Int)
                                    · rw [if_pos c40] at H
                                      have c40b0 : decide ((ji38) < (x0_2.size : Int)) = true := decide_eq_true c40
                                      (try simp only [hl11_4] at c40b0)
                                      clear c40
                                      by_cases c42 : 0 ≤ x51_4
                                      · rw [if_pos c42] at H
                                        have c42b0 : decide (0 ≤ x51_4) = true := decide_eq_true c42
                                        (try simp only [hl11_4] at c42b0)
                                        clear c42
                                        by_cases c43 : x51_4 < (x11_4.length : Int)
                                        · rw [if_pos c43] at H
                                          have c43b0 : decide (x51_4 < (x11_4.length : Int)) = true := decide_eq_true c43
                                          (try simp only [hl11_4] at c43b0)
                                          clear c43
                                          obtain ⟨y157, hy157⟩ : ∃ y_ : List Int, y_ = (x11_4.set (x51_4 : Int).toNat (bt x0_2 (ji38))) := ⟨_, rfl⟩
                                          replace H : (fec_Decode.l2 k4 x0_2 a1 x7_3 x8_3 ji31 x45_3 y157 ji31 x45_3 (y154.length : Int) (wrap64 (x51_4 + 1))) = some (r1, r2, r3) := by first | (rw [hy157]; with_reducible exact H) | (have H2_ := (Option.bind_some _ _).symm.trans H; rw [hy157]; with_reducible exact H2_) | (have H2_ := (Option.bind_some _ _).symm.trans H; with_reducible exact H2_) | with_reducible exact H | (rw [hy157]; exact H) | exact H
                                          have Ny157 := Aside0.mk hy157
                                          clear hy157
                                          have H' := Aside0.mk H
                                          clear H
                                          have p41 : 0 ≤ ((ji38) : Int) := of_decide_eq_true (by first | (with_reducible assumption) | assumption)
                                          have q41 : (ji38) < (x0_2.size : Int) := of_decide_eq_true (by first | (with_reducible assumption) | assumption)
                                          have hx41 := bt_at x0_2 (ji38)
                                          replace p41 := eq_true p41
                                          replace q41 := eq_true q41
                                          have p44 : 0 ≤ (x51_4 : Int) := of_decide_eq_true (by first | (with_reducible assumption) | assumption)
                                          have q44 : (x51_4 : Int) < ((x11_4.length : Int) : Int) := of_decide_eq_true (by first | (with_reducible assumption) | assumption)
                                          obtain ⟨go44, co44, eo44, gb44, gl44, cl44, HG44⟩ := Kd.R_form HO_11.out (by omega)
                                          (first | cases eo44 | (injection eo44 with ea_ en_ ec_; (first | subst ea_ | (injection ea_ with ea_; subst ea_)); subst ec_; clear en_))
                                          have GB44 := Aside0.mk gb44
                                          have GG44 := Aside0.mk HG44
                                          clear gb44 gl44 HG44
                                          obtain ⟨hx44_0, hf44_0⟩ := Kd.R_celln 0 HO_11.out (x51_4 : Int) p44 q44
                                          replace p44 := eq_true p44
                                          replace q44 := eq_true q44
                                          have HP45 := Kd.R_putg HO_11.out (x51_4 : Int) (bt x0_2 (ji38))
                                          go_wp2_with (first | ((with_reducible refine gate_store (t := 5) (p := 63) rfl ?_); refine store_event (t := 5) (p := 63) (v := ?vo_w46) (w1 := (wr.setCell ⟨go44, (x51_4 : Int).toNat, none⟩ (.int .u8 (bt x0_2 (ji38))))) ?hg ?ho ?hn ?hr ?_; (case ho => rfl); (case hg => rfl); (case hn => rfl); (case hr => first | (go_simp; done) | (go_simp; rfl)); intro w46 hw; have hg : wr.grownBy w46 (some go44) := (by rw [hw]; exact HP45.2); have hp_ : Kd.R (Kd.int .u8) 5 w46 w.heap.size (fun _ => True) (.slice (some ⟨go44, 0, none⟩) x11_4.length co36) y157 := (by rw [hw, Ny157.out]; exact HP45.1); clear HP45; have n0_ := Aside0.mk (Kd.R_over' (v := (.slice (some ⟨go44, 0, none⟩) x11_4.length co36)) (by (with_reducible repeat (first | apply Kd.R_alloc | apply Kd.R_drewN | apply Kd.R_drew)); exact HO_7.out) (Kd.R_typed HO_11.out) (by decide) hg); have n1_ := Aside0.mk (hp_); have n2_ := Aside0.mk ((by rw [hw]; exact below_set (HB.out) GB44.out : Below w.heap.size w w46)); clear HO_7; clear HO_11; clear HB; have HO_7 := n0_; have HO_11 := n1_; have HB := n2_; clear n0_ n1_ n2_; clear hg hw hp_))
                                          (try simp only [← hl11_4])
                                          go_roundg k4
                                          case measure => have := HJ3.out; have := HK2.out; have := HK3.out; have := HK4.out; omega
                                          case rel => exact ⟨(y157), (wrap64 (x51_4 + 1)), (by first | rfl | (simp; done) | (simp [*]; done)), H', ⟨by have := HJ3.out; have := HK2.out; have := HK3.out; have := HK4.out; omega⟩, ⟨by (try simp only [hl11_4]); (with_reducible repeat (first | apply Kd.R_alloc | apply Kd.R_drewN | apply Kd.R_drew)); exact HO_7.out⟩, ⟨by (try simp only [hl11_4]); (with_reducible repeat (first | apply Kd.R_alloc | apply Kd.R_drewN | apply Kd.R_drew)); exact HO_11.out⟩, ⟨by repeat (first | (with_reducible first | exact HB.out | apply below_alloc | apply pw_below_drewN | apply below_drew1) | exact HB.out)⟩⟩
                                        · rw [if_neg c43] at H
                                          exact absurd H (by simp)
                                      · rw [if_neg c42] at H
                                        exact absurd H (by simp)
                                    · rw [if_neg c40] at H
                                      exact absurd H (by simp)
                                  · rw [if_neg c39] at H
                                    exact absurd H (by simp)
                                · rw [if_neg c37] at H
                                  have c37b0 : decide (x51_4 < (y154.length : Int)) = false := decide_eq_false c37
                                  (try simp only [hl11_4] at c37b0)
                                  clear c37
                                  replace H := Option.bind_eq_some_iff.mp H
                                  obtain ⟨⟨t158, t159⟩, A470, H⟩ := H
                                  replace H : (if t159 > 0 then (if x7_3.length < 17592186044416 then (fec_Decode.l1 k4 x0_2 a1 (x7_3 ++ [t158]) (wrap64 (x8_3 + 1)) ji31 ji31 (wrap64 (x45_3 + 1))) else (none)) else (if x7_3.length < 17592186044416 then (fec_Decode.l1 k4 x0_2 a1 (x7_3 ++ [t158]) x8_3 ji31 ji31 (wrap64 (x45_3 + 1))) else (none))) = some (r1, r2, r3) := H
                                  have A47 := Aside0.mk A470
                                  clear A470
                                  by_cases c48 : t159 > 0
                                  · rw [if_pos c48] at H
                                    have c48b0 : decide (0 < t159) = true := decide_eq_true c48
                                    (try simp only [hl11_4] at c48b0)
                                    clear c48
                                    by_cases c49 : x7_3.length < 17592186044416
                                    · rw [if_pos c49] at H
                                      have LMc49 := Aside0.mk c49
                                      clear c49
                                      obtain ⟨y160, hy160⟩ : ∃ y_ : List Int, y_ = (x7_3 ++ [t158]) := ⟨_, rfl⟩
                                      replace H : (fec_Decode.l1 k4 x0_2 a1 y160 (wrap64 (x8_3 + 1)) ji31 ji31 (wrap64 (x45_3 + 1))) = some (r1, r2, r3) := by first | (rw [hy160]; with_reducible exact H) | (have H2_ := (Option.bind_some _ _).symm.trans H; rw [hy160]; with_reducible exact H2_) | (have H2_ := (Option.bind_some _ _).symm.trans H; with_reducible exact H2_) | with_reducible exact H | (rw [hy160]; exact H) | exact H
                                      have Ny160 := Aside0.mk hy160
                                      clear hy160
                                      have H' := Aside0.mk H
                                      clear H
                                      go_wp2_with (first | ((with_reducible refine gate_callee (f := 25) rfl ?_); refine goesL_ (some 67) rfl rfl Tryd.func25 (by kernel_rfl) rfl #[.slice Ao36 x11_4.length co36] rfl (by (try simp only [List.map_toArray, List.map_cons, List.map_nil]); first | done | rfl | (simp only [List.length_drop, List.length_take]; rfl)) ?_; (with_reducible refine (fec_fix.calls k4 _ _ x11_4 t158 t159 _ ?side1 ?side2 A47.out).mono ?_); (case side1 => repeat (first | exact (Kd.R_reads' HO_11.out).2.2 | (with_reducible refine Kd.C_alloc ?_ _) | (with_reducible refine Kd.C_drewN ?_ _) | (with_reducible refine Kd.C_drew ?_))); (case side2 => exact (Kd.R_reads' HO_11.out).2.1); rintro e w50 ⟨rfl, hb⟩; refine ⟨_, rfl, ?_⟩; have n0_ := Aside0.mk (Kd.R_below (by (with_reducible repeat (first | apply Kd.R_alloc | apply Kd.R_drewN | apply Kd.R_drew)); exact HO_7.out) hb); have n1_ := Aside0.mk (Kd.R_below (by (with_reducible repeat (first | apply Kd.R_alloc | apply Kd.R_drewN | apply Kd.R_drew)); exact HO_11.out) hb); have n2_ := Aside0.mk (below_step (by repeat (first | (with_reducible first | exact HB.out | apply below_alloc | apply pw_below_drewN | apply below_drew1) | exact HB.out)) hb); clear HO_7; clear HO_11; clear HB; have HO_7 := n0_; have HO_11 := n1_; have HB := n2_; clear n0_ n1_ n2_; (try clear hb); (try clear hb2); (try clear hk); (try clear hi)) | ((with_reducible refine gate_builtin (b := .append) (xs := #[.tmp 74, .tmp 76]) rfl ?_); at_builtin; refine Kd.R_append (Kd.int .i64) (w0 := w) w.heap.size rfl (.tmp 74) (.tmp 76) 51 3 (.int .i64 0) 8 rfl Tryd.underlying51 info3 rfl (by decide) (by omega) u7 x7_3 t158 [.int .i64 t158] (fun _ => True) (fun _ => False) rfl rfl ?aP (fun _ hk => hk.elim) ?aF ?aO ?aB ?aS ?aL ?_; (case aP => exact rfl); (case aB => exact (by repeat (first | (with_reducible first | exact HB.out | apply below_alloc | apply pw_below_drewN | apply below_drew1) | exact HB.out))); (case aF => exact (fun _ _ => trivial)); (case aO => exact (by (with_reducible repeat (first | apply Kd.R_alloc | apply Kd.R_drewN | apply Kd.R_drew)); exact HO_7.out)); (case aS => exact (below_size (by repeat (first | (with_reducible first | exact HB.out | apply below_alloc | apply pw_below_drewN | apply below_drew1) | exact HB.out)))); (case aL => have := LMc49.out; omega); intro v161 w51 ho hb hg hat; rw [← Ny160.out] at ho; have n0_ := Aside0.mk (Kd.R_over' (by (with_reducible repeat (first | apply Kd.R_alloc | apply Kd.R_drewN | apply Kd.R_drew)); exact HO_11.out) (Kd.R_typed (by (with_reducible repeat (first | apply Kd.R_alloc | apply Kd.R_drewN | apply Kd.R_drew)); exact HO_7.out)) (by decide) hg); have n1_ := Aside0.mk (hb); have n2_ := Aside0.mk (ho); clear HO_11; clear HB; clear HO_7; have HO_11 := n0_; have HB := n1_; have HO162 := n2_; clear n0_ n1_ n2_; clear ho hb hg hat))
                                      (try simp only [← hl11_4])
                                      go_roundg k4
                                      case measure => have := HJ3.out; have := HK2.out; have := HK3.out; have := HK4.out; omega
                                      case rel => exact ⟨(y160), (wrap64 (x8_3 + 1)), (wrap64 (x45_3 + 1)), (by first | rfl | (simp; done) | (simp [*]; done)), (by first | rfl | (simp; done) | (simp [*]; done)), H', ⟨by have := HJ3.out; have := HK2.out; have := HK3.out; have := HK4.out; omega⟩, ⟨by (try simp only [hl11_4]); (with_reducible repeat (first | apply Kd.R_alloc | apply Kd.R_drewN | apply Kd.R_drew)); exact HO162.out⟩, ⟨by repeat (first | (with_reducible first | exact HB.out | apply below_alloc | apply pw_below_drewN | apply below_drew1) | exact HB.out)⟩⟩
                                    · rw [if_neg c49] at H
                                      exact absurd H (by simp)
                                  · rw [if_neg c48] at H
                                    have c48b0 : decide (0 < t159) = false := decide_eq_false c48
                                    (try simp only [hl11_4] at c48b0)
                                    clear c48
                                    by_cases c52 : x7_3.length < 17592186044416
                                    · rw [if_pos c52] at H
                                      have LMc52 := Aside0.mk c52
                                      clear c52
                                      obtain ⟨y163, hy163⟩ : ∃ y_ : List Int, y_ = (x7_3 ++ [t158]) := ⟨_, rfl⟩
                                      replace H : (fec_Decode.l1 k4 x0_2 a1 y163 x8_3 ji31 ji31 (wrap64 (x45_3 + 1))) = some (r1, r2, r3) := by first | (rw [hy163]; with_reducible exact H) | (have H2_ := (Option.bind_some _ _).symm.trans H; rw [hy163]; with_reducible exact H2_) | (have H2_ := (Option.bind_some _ _).symm.trans H; with_reducible exact H2_) | with_reducible exact H | (rw [hy163]; exact H) | exact H
                                      have Ny163 := Aside0.mk hy163
                                      clear hy163
                                      have H' := Aside0.mk H
                                      clear H
                                      go_wp2_with (first | ((with_reducible refine gate_callee (f := 25) rfl ?_); refine goesL_ (some 67) rfl rfl Tryd.func25 (by kernel_rfl) rfl #[.slice Ao36 x11_4.length co36] rfl (by (try simp only [List.map_toArray, List.map_cons, List.map_nil]); first | done | rfl | (simp only [List.length_drop, List.length_take]; rfl)) ?_; (with_reducible refine (fec_fix.calls k4 _ _ x11_4 t158 t159 _ ?side1 ?side2 A47.out).mono ?_); (case side1 => repeat (first | exact (Kd.R_reads' HO_11.out).2.2 | (with_reducible refine Kd.C_alloc ?_ _) | (with_reducible refine Kd.C_drewN ?_ _) | (with_reducible refine Kd.C_drew ?_))); (case side2 => exact (Kd.R_reads' HO_11.out).2.1); rintro e w53 ⟨rfl, hb⟩; refine ⟨_, rfl, ?_⟩; have n0_ := Aside0.mk (Kd.R_below (by (with_reducible repeat (first | apply Kd.R_alloc | apply Kd.R_drewN | apply Kd.R_drew)); exact HO_7.out) hb); have n1_ := Aside0.mk (Kd.R_below (by (with_reducible repeat (first | apply Kd.R_alloc | apply Kd.R_drewN | apply Kd.R_drew)); exact HO_11.out) hb); have n2_ := Aside0.mk (below_step (by repeat (first | (with_reducible first | exact HB.out | apply below_alloc | apply pw_below_drewN | apply below_drew1) | exact HB.out)) hb); clear HO_7; clear HO_11; clear HB; have HO_7 := n0_; have HO_11 := n1_; have HB := n2_; clear n0_ n1_ n2_; (try clear hb); (try clear hb2); (try clear hk); (try clear hi)) | ((with_reducible refine gate_builtin (b := .append) (xs := #[.tmp 74, .tmp 76]) rfl ?_); at_builtin; refine Kd.R_append (Kd.int .i64) (w0 := w) w.heap.size rfl (.tmp 74) (.tmp 76) 51 3 (.int .i64 0) 8 rfl Tryd.underlying51 info3 rfl (by decide) (by omega) u7 x7_3 t158 [.int .i64 t158] (fun _ => True) (fun _ => False) rfl rfl ?aP (fun _ hk => hk.elim) ?aF ?aO ?aB ?aS ?aL ?_; (case aP => exact rfl); (case aB => exact (by repeat (first | (with_reducible first | exact HB.out | apply below_alloc | apply pw_below_drewN | apply below_drew1) | exact HB.out))); (case aF => exact (fun _ _ => trivial)); (case aO => exact (by (with_reducible repeat (first | apply Kd.R_alloc | apply Kd.R_drewN | apply Kd.R_drew)); exact HO_7.out)); (case aS => exact (below_size (by repeat (first | (with_reducible first | exact HB.out | apply below_alloc | apply pw_below_drewN | apply below_drew1) | exact HB.out)))); (case aL => have := LMc52.out; omega); intro v164 w54 ho hb hg hat; rw [← Ny163.out] at ho; have n0_ := Aside0.mk (Kd.R_over' (by (with_reducible repeat (first | apply Kd.R_alloc | apply Kd.R_drewN | apply Kd.R_drew)); exact HO_11.out) (Kd.R_typed (by (with_reducible repeat (first | apply Kd.R_alloc | apply Kd.R_drewN | apply Kd.R_drew)); exact HO_7.out)) (by decide) hg); have n1_ := Aside0.mk (hb); have n2_ := Aside0.mk (ho); clear HO_11; clear HB; clear HO_7; have HO_11 := n0_; have HB := n1_; have HO165 := n2_; clear n0_ n1_ n2_; clear ho hb hg hat))
                                      (try simp only [← hl11_4])
                                      go_roundg k4
                                      case measure => have := HJ3.out; have := HK2.out; have := HK3.out; have := HK4.out; omega
                                      case rel => exact ⟨(y163), (x8_3), (wrap64 (x45_3 + 1)), (by first | rfl | (simp; done) | (simp [*]; done)), (by first | rfl | (simp; done) | (simp [*]; done)), H', ⟨by have := HJ3.out; have := HK2.out; have := HK3.out; have := HK4.out; omega⟩, ⟨by (try simp only [hl11_4]); (with_reducible repeat (first | apply Kd.R_alloc | apply Kd.R_drewN | apply Kd.R_drew)); exact HO165.out⟩, ⟨by repeat (first | (with_reducible first | exact HB.out | apply below_alloc | apply pw_below_drewN | apply below_drew1) | exact HB.out)⟩⟩
                                    · rw [if_neg c52] at H
                                      exact absurd H (by simp)
                          · rw [if_neg c33] at H
                            exact absurd H (by simp)
                        · rw [if_neg c32] at H
                          have c32b0 : decide (x45_3 < ji31) = false := decide_eq_false c32
                          clear c32
                          obtain ⟨ji55, hji55⟩ : ∃ j_ : Int, (wrap64 (7 * ji31)) = j_ := ⟨_, rfl⟩
                          replace H : (if 0 ≤ (ji55) then (if (ji55) ≤ (x0_2.size : Int) then (fec_Decode.l0 k3 (x0_2.extract ((ji55) : Int).toNat x0_2.size) a1 x7_3 x8_3) else (none)) else (none)) = some (r1, r2, r3) := by first | (rw [hji55] at H; exact H) | (simp only [hji55] at H ⊢; exact H)
                          have hji55w : (IntKind.i64.wrap (7 * ji31)) = ji55 := (i64_w _).trans hji55
                          by_cases c56 : 0 ≤ (ji55)
                          · rw [if_pos c56] at H
                            have c56b0 := eq_true c56
                            try (have c56b0q := c56b0; simp only [ByteArray.size_append, ByteArray.size_extract, Nat.min_self, Nat.sub_zero, Int.natCast_add] at c56b0q)
                            have c56b1 : decide (0 ≤ (ji55)) = true := decide_eq_true c56
                            clear c56
                            by_cases c57 : (ji55) ≤ (x0_2.size : Int)
                            · rw [if_pos c57] at H
                              have c57b0 := eq_true c57
                              try (have c57b0q := c57b0; simp only [ByteArray.size_append, ByteArray.size_extract, Nat.min_self, Nat.sub_zero, Int.natCast_add] at c57b0q)
                              have c57b1 : decide ((ji55) ≤ (x0_2.size : Int)) = true := decide_eq_true c57
                              clear c57
                              have H' := Aside0.mk H
                              clear H
                              go_wp2
                              go_roundg k3
                              case measure => have := HJ3.out; have := HK2.out; have := HK3.out; omega
                              case rel => exact ⟨(x0_2.extract ((ji55) : Int).toNat x0_2.size), (x7_3), (x8_3), (by first | rfl | (simp; done) | (simp only [← hji55] <;> (first | rfl | simp)) | (simp [*]; done)), (by first | (with_reducible rfl) | (simp only [ByteArray.size_extract, Nat.min_self]; done) | (simp; done) | rfl | (simp [*]; done)), H', ⟨by have := HJ3.out; have := HK2.out; have := HK3.out; omega⟩, ⟨by (with_reducible repeat (first | apply Kd.R_alloc | apply Kd.R_drewN | apply Kd.R_drew)); exact HO_7.out⟩, ⟨by repeat (first | (with_reducible first | exact HB.out | apply below_alloc | apply pw_below_drewN | apply below_drew1) | exact HB.out)⟩⟩
                            · rw [if_neg c57] at H
                              exact absurd H (by simp)
                          · rw [if_neg c56] at H
                            exact absurd H (by simp)
            · rw [if_neg c9] at H
              have c9b0 : (((a0.size : Int) % 14) == 0) = false := beq_eq_false_iff_ne.mpr c9
              have c9b1 : (((a0.size : Int) % 14) != 0) = true := bne_iff_ne.mpr c9
              simp only [Option.some.injEq, Prod.mk.injEq] at H
              obtain ⟨rfl, rfl, rfl⟩ := H
              go_wp2_with (first | ((with_reducible refine gate_callee (f := 24) rfl ?_); refine goesL_ (some 30) rfl rfl Tryd.func24 (by kernel_rfl) rfl #[.string a0] rfl (by (try simp only [List.map_toArray, List.map_cons, List.map_nil]); first | done | rfl | (simp only [List.length_drop, List.length_take]; rfl)) ?_; (with_reducible refine (fec_good.calls kj3 a0 true _ A7.out).mono ?_); rintro e w' ⟨rfl, ⟨nd, rfl⟩⟩; refine ⟨_, rfl, ?_⟩))
              go_ret3
              exact ⟨by first | rfl | (simp [errW_none, errW_some] <;> rfl) | (simp [*, errW_none, errW_some] <;> rfl), by repeat (first | (with_reducible first | exact HB.out | apply below_alloc | apply pw_below_drewN | apply below_drew1) | exact HB.out)⟩
          · replace c8 := Bool.eq_false_iff.mpr c8
            subst c8
            have H1 : (some ((⟨#[]⟩ : ByteArray), 0, 3)) = some (r1, r2, r3) := by rw [if_neg (show ¬ (false = true) by decide)] at H; exact H
            clear H
            have H := H1
            clear H1
            simp only [Option.some.injEq, Prod.mk.injEq] at H
            obtain ⟨rfl, rfl, rfl⟩ := H
            go_wp2_with (first | ((with_reducible refine gate_callee (f := 24) rfl ?_); refine goesL_ (some 30) rfl rfl Tryd.func24 (by kernel_rfl) rfl #[.string a0] rfl (by (try simp only [List.map_toArray, List.map_cons, List.map_nil]); first | done | rfl | (simp only [List.length_drop, List.length_take]; rfl)) ?_; (with_reducible refine (fec_good.calls kj3 a0 false _ A7.out).mono ?_); rintro e w' ⟨rfl, ⟨nd, rfl⟩⟩; refine ⟨_, rfl, ?_⟩))
            go_ret3
            exact ⟨by first | rfl | (simp [errW_none, errW_some] <;> rfl) | (simp [*, errW_none, errW_some] <;> rfl), by repeat (first | (with_reducible first | exact HB.out | apply below_alloc | apply pw_below_drewN | apply below_drew1) | exact HB.out)⟩

end Go.Proofs.YtkdncfbbhbmaaaaDoor.Q
namespace Go.Proofs.YtkdncfbbhbmaaaaDoor.Ext
open Go.RowKit Go.Proofs.YtkdncfbbhbmaaaaDoorW.PrintWords Go.Proofs.YtkdncfbbhbmaaaaDoorW.PrintLast Go.Proofs.YtkdncfbbhbmaaaaDoorW.PrintMore
theorem marked_get (w : World) (c : Array Value) (t : TypeId) (m : Nat × Nat) : (w.alloc (.cells c t m)).heap[w.heap.size]? = some (.cells c t m) := heap_alloc_new _ _
theorem setCell_marked {w : World} (c : Array Value) (t : TypeId) (m : Nat × Nat) (n i : Nat) (v : Value) (hn : n = w.heap.size) :
    (w.alloc (.cells c t m)).setCell ⟨n, i, none⟩ v = w.alloc (.cells (c.setIfInBounds i v) t m) := by
  subst hn
  unfold World.setCell World.alloc
  congr 1
  apply Array.ext_getElem?
  intro k
  simp only [Array.getElem?_modify, Array.getElem?_push]
  by_cases hk : w.heap.size = k
  · subst hk
    simp
  · rw [if_neg hk, if_neg (fun e => hk e.symm), if_neg (fun e => hk e.symm)]
theorem cell?_marked {w : World} (c : Array Value) (t : TypeId) (m : Nat × Nat) (n i : Nat) (hn : n = w.heap.size) : (w.alloc (.cells c t m)).cell? ⟨n, i, none⟩ = c[i]? := by
  subst hn
  unfold World.cell?
  rw [marked_get]
  rfl
theorem frozen?_marked {w : World} (c : Array Value) (t : TypeId) (m : Nat × Nat) (n i : Nat) (hn : n = w.heap.size) : (w.alloc (.cells c t m)).frozen? ⟨n, i, none⟩ = (decide (m.1 ≤ i) && decide (i < m.2)) := by
  subst hn
  unfold World.frozen?
  rw [marked_get]
attribute [local go_sem] setCell_marked cell?_marked frozen?_marked
theorem and_0 : Go.bits .and .i64 0 1 = 0 := by decide
theorem and_1 : Go.bits .and .i64 1 1 = 1 := by decide
theorem and_2 : Go.bits .and .i64 2 1 = 0 := by decide
theorem and_3 : Go.bits .and .i64 3 1 = 1 := by decide
theorem and_4 : Go.bits .and .i64 4 1 = 0 := by decide
theorem and_5 : Go.bits .and .i64 5 1 = 1 := by decide
theorem and_6 : Go.bits .and .i64 6 1 = 0 := by decide
theorem and_7 : Go.bits .and .i64 7 1 = 1 := by decide
theorem and_8 : Go.bits .and .i64 8 1 = 0 := by decide
theorem and_9 : Go.bits .and .i64 9 1 = 1 := by decide
theorem and_10 : Go.bits .and .i64 10 1 = 0 := by decide
theorem and_11 : Go.bits .and .i64 11 1 = 1 := by decide
theorem and_12 : Go.bits .and .i64 12 1 = 0 := by decide
theorem and_13 : Go.bits .and .i64 13 1 = 1 := by decide
theorem and_14 : Go.bits .and .i64 14 1 = 0 := by decide
theorem and_15 : Go.bits .and .i64 15 1 = 1 := by decide
theorem xor_0_3 : Go.bits .xor .i64 0 3 = 3 := by decide
theorem xor_0_5 : Go.bits .xor .i64 0 5 = 5 := by decide
theorem xor_0_6 : Go.bits .xor .i64 0 6 = 6 := by decide
theorem xor_0_7 : Go.bits .xor .i64 0 7 = 7 := by decide
theorem xor_1_3 : Go.bits .xor .i64 1 3 = 2 := by decide
theorem xor_1_5 : Go.bits .xor .i64 1 5 = 4 := by decide
theorem xor_1_6 : Go.bits .xor .i64 1 6 = 7 := by decide
theorem xor_1_7 : Go.bits .xor .i64 1 7 = 6 := by decide
theorem xor_2_3 : Go.bits .xor .i64 2 3 = 1 := by decide
theorem xor_2_5 : Go.bits .xor .i64 2 5 = 7 := by decide
theorem xor_2_6 : Go.bits .xor .i64 2 6 = 4 := by decide
theorem xor_2_7 : Go.bits .xor .i64 2 7 = 5 := by decide
theorem xor_3_3 : Go.bits .xor .i64 3 3 = 0 := by decide
theorem xor_3_5 : Go.bits .xor .i64 3 5 = 6 := by decide
theorem xor_3_6 : Go.bits .xor .i64 3 6 = 5 := by decide
theorem xor_3_7 : Go.bits .xor .i64 3 7 = 4 := by decide
theorem xor_4_3 : Go.bits .xor .i64 4 3 = 7 := by decide
theorem xor_4_5 : Go.bits .xor .i64 4 5 = 1 := by decide
theorem xor_4_6 : Go.bits .xor .i64 4 6 = 2 := by decide
theorem xor_4_7 : Go.bits .xor .i64 4 7 = 3 := by decide
theorem xor_5_3 : Go.bits .xor .i64 5 3 = 6 := by decide
theorem xor_5_5 : Go.bits .xor .i64 5 5 = 0 := by decide
theorem xor_5_6 : Go.bits .xor .i64 5 6 = 3 := by decide
theorem xor_5_7 : Go.bits .xor .i64 5 7 = 2 := by decide
theorem xor_6_3 : Go.bits .xor .i64 6 3 = 5 := by decide
theorem xor_6_5 : Go.bits .xor .i64 6 5 = 3 := by decide
theorem xor_6_6 : Go.bits .xor .i64 6 6 = 0 := by decide
theorem xor_6_7 : Go.bits .xor .i64 6 7 = 1 := by decide
theorem xor_7_3 : Go.bits .xor .i64 7 3 = 4 := by decide
theorem xor_7_5 : Go.bits .xor .i64 7 5 = 2 := by decide
theorem xor_7_6 : Go.bits .xor .i64 7 6 = 1 := by decide
theorem xor_7_7 : Go.bits .xor .i64 7 7 = 0 := by decide
attribute [local go_sem] and_0 and_1 and_2 and_3 and_4 and_5 and_6 and_7 and_8 and_9 and_10 and_11 and_12 and_13 and_14 and_15 xor_0_3 xor_0_5 xor_0_6 xor_0_7 xor_1_3 xor_1_5 xor_1_6 xor_1_7 xor_2_3 xor_2_5 xor_2_6 xor_2_7 xor_3_3 xor_3_5 xor_3_6 xor_3_7 xor_4_3 xor_4_5 xor_4_6 xor_4_7 xor_5_3 xor_5_5 xor_5_6 xor_5_7 xor_6_3 xor_6_5 xor_6_6 xor_6_7 xor_7_3 xor_7_5 xor_7_6 xor_7_7
/-- The seven characters of a value's code word. -/
def wordBits (n : Nat) : List Int := [48 + (n / 8 % 2 + n / 4 % 2 + n % 2 : Nat) % 2, 48 + (n / 8 % 2 + n / 2 % 2 + n % 2 : Nat) % 2, 48 + (n / 8 % 2 : Nat), 48 + (n / 4 % 2 + n / 2 % 2 + n % 2 : Nat) % 2, 48 + (n / 4 % 2 : Nat), 48 + (n / 2 % 2 : Nat), 48 + (n % 2 : Nat)]
def wordCells (n : Nat) : Array Value := ((wordBits n).map (Value.int .u8)).toArray
theorem back3 (w : World) (A B C : Obj) : (((w.alloc A).alloc B).alloc C).heap[w.heap.size]? = some A := by
  show (((w.heap.push A).push B).push C)[w.heap.size]? = some A
  rw [Array.getElem?_push, if_neg (by simp; omega), Array.getElem?_push, if_neg (by simp), Array.getElem?_push, if_pos rfl]
def WordAt (n : Nat) (w w' : World) (e : Ending) : Prop := ∃ B, e = .returned (.slice (some ⟨B, 0, none⟩) 7 7) ∧ w.heap.size ≤ B ∧ w'.heap[B]? = some (.cells (wordCells n) 5 (7, 8)) ∧ Below w.heap.size w w'
set_option maxHeartbeats 1000000 in
set_option maxRecDepth 100000 in
theorem word_0 (w : World) : Calls Tryd.prog 19 #[.int .i64 0] w fun e w' => WordAt 0 w w' e := by
  have kc := fun (w : World) (C : Array Value) (n c : Nat) => Lib.run_convert_bytes_const (P := Tryd.prog) w 44 5 C n c Tryd.underlying44 Tryd.underlying5
  go_enter Tryd.func19, Tryd.ntmps19
  go_wp2
  refine wp_loop_rounds 5 ?_
  iterate 5 (rw [rounds_succ]; go_wp2)
  refine wp_loop_rounds 4 ?_
  iterate 4 (rw [rounds_succ]; go_wp2)
  go_ret
  exact ⟨w.heap.size, rfl, Nat.le_refl _, back3 _ _ _ _, below_alloc (below_alloc (below_alloc (Below.refl _ _) _) _) _⟩
set_option maxHeartbeats 1000000 in
set_option maxRecDepth 100000 in
theorem word_1 (w : World) : Calls Tryd.prog 19 #[.int .i64 1] w fun e w' => WordAt 1 w w' e := by
  have kc := fun (w : World) (C : Array Value) (n c : Nat) => Lib.run_convert_bytes_const (P := Tryd.prog) w 44 5 C n c Tryd.underlying44 Tryd.underlying5
  go_enter Tryd.func19, Tryd.ntmps19
  go_wp2
  refine wp_loop_rounds 5 ?_
  iterate 5 (rw [rounds_succ]; go_wp2)
  refine wp_loop_rounds 4 ?_
  iterate 4 (rw [rounds_succ]; go_wp2)
  go_ret
  exact ⟨w.heap.size, rfl, Nat.le_refl _, back3 _ _ _ _, below_alloc (below_alloc (below_alloc (Below.refl _ _) _) _) _⟩
set_option maxHeartbeats 1000000 in
set_option maxRecDepth 100000 in
theorem word_2 (w : World) : Calls Tryd.prog 19 #[.int .i64 2] w fun e w' => WordAt 2 w w' e := by
  have kc := fun (w : World) (C : Array Value) (n c : Nat) => Lib.run_convert_bytes_const (P := Tryd.prog) w 44 5 C n c Tryd.underlying44 Tryd.underlying5
  go_enter Tryd.func19, Tryd.ntmps19
  go_wp2
  refine wp_loop_rounds 5 ?_
  iterate 5 (rw [rounds_succ]; go_wp2)
  refine wp_loop_rounds 4 ?_
  iterate 4 (rw [rounds_succ]; go_wp2)
  go_ret
  exact ⟨w.heap.size, rfl, Nat.le_refl _, back3 _ _ _ _, below_alloc (below_alloc (below_alloc (Below.refl _ _) _) _) _⟩
set_option maxHeartbeats 1000000 in
set_option maxRecDepth 100000 in
theorem word_3 (w : World) : Calls Tryd.prog 19 #[.int .i64 3] w fun e w' => WordAt 3 w w' e := by
  have kc := fun (w : World) (C : Array Value) (n c : Nat) => Lib.run_convert_bytes_const (P := Tryd.prog) w 44 5 C n c Tryd.underlying44 Tryd.underlying5
  go_enter Tryd.func19, Tryd.ntmps19
  go_wp2
  refine wp_loop_rounds 5 ?_
  iterate 5 (rw [rounds_succ]; go_wp2)
  refine wp_loop_rounds 4 ?_
  iterate 4 (rw [rounds_succ]; go_wp2)
  go_ret
  exact ⟨w.heap.size, rfl, Nat.le_refl _, back3 _ _ _ _, below_alloc (below_alloc (below_alloc (Below.refl _ _) _) _) _⟩
set_option maxHeartbeats 1000000 in
set_option maxRecDepth 100000 in
theorem word_4 (w : World) : Calls Tryd.prog 19 #[.int .i64 4] w fun e w' => WordAt 4 w w' e := by
  have kc := fun (w : World) (C : Array Value) (n c : Nat) => Lib.run_convert_bytes_const (P := Tryd.prog) w 44 5 C n c Tryd.underlying44 Tryd.underlying5
  go_enter Tryd.func19, Tryd.ntmps19
  go_wp2
  refine wp_loop_rounds 5 ?_
  iterate 5 (rw [rounds_succ]; go_wp2)
  refine wp_loop_rounds 4 ?_
  iterate 4 (rw [rounds_succ]; go_wp2)
  go_ret
  exact ⟨w.heap.size, rfl, Nat.le_refl _, back3 _ _ _ _, below_alloc (below_alloc (below_alloc (Below.refl _ _) _) _) _⟩
set_option maxHeartbeats 1000000 in
set_option maxRecDepth 100000 in
theorem word_5 (w : World) : Calls Tryd.prog 19 #[.int .i64 5] w fun e w' => WordAt 5 w w' e := by
  have kc := fun (w : World) (C : Array Value) (n c : Nat) => Lib.run_convert_bytes_const (P := Tryd.prog) w 44 5 C n c Tryd.underlying44 Tryd.underlying5
  go_enter Tryd.func19, Tryd.ntmps19
  go_wp2
  refine wp_loop_rounds 5 ?_
  iterate 5 (rw [rounds_succ]; go_wp2)
  refine wp_loop_rounds 4 ?_
  iterate 4 (rw [rounds_succ]; go_wp2)
  go_ret
  exact ⟨w.heap.size, rfl, Nat.le_refl _, back3 _ _ _ _, below_alloc (below_alloc (below_alloc (Below.refl _ _) _) _) _⟩
set_option maxHeartbeats 1000000 in
set_option maxRecDepth 100000 in
theorem word_6 (w : World) : Calls Tryd.prog 19 #[.int .i64 6] w fun e w' => WordAt 6 w w' e := by
  have kc := fun (w : World) (C : Array Value) (n c : Nat) => Lib.run_convert_bytes_const (P := Tryd.prog) w 44 5 C n c Tryd.underlying44 Tryd.underlying5
  go_enter Tryd.func19, Tryd.ntmps19
  go_wp2
  refine wp_loop_rounds 5 ?_
  iterate 5 (rw [rounds_succ]; go_wp2)
  refine wp_loop_rounds 4 ?_
  iterate 4 (rw [rounds_succ]; go_wp2)
  go_ret
  exact ⟨w.heap.size, rfl, Nat.le_refl _, back3 _ _ _ _, below_alloc (below_alloc (below_alloc (Below.refl _ _) _) _) _⟩
set_option maxHeartbeats 1000000 in
set_option maxRecDepth 100000 in
theorem word_7 (w : World) : Calls Tryd.prog 19 #[.int .i64 7] w fun e w' => WordAt 7 w w' e := by
  have kc := fun (w : World) (C : Array Value) (n c : Nat) => Lib.run_convert_bytes_const (P := Tryd.prog) w 44 5 C n c Tryd.underlying44 Tryd.underlying5
  go_enter Tryd.func19, Tryd.ntmps19
  go_wp2
  refine wp_loop_rounds 5 ?_
  iterate 5 (rw [rounds_succ]; go_wp2)
  refine wp_loop_rounds 4 ?_
  iterate 4 (rw [rounds_succ]; go_wp2)
  go_ret
  exact ⟨w.heap.size, rfl, Nat.le_refl _, back3 _ _ _ _, below_alloc (below_alloc (below_alloc (Below.refl _ _) _) _) _⟩
set_option maxHeartbeats 1000000 in
set_option maxRecDepth 100000 in
theorem word_8 (w : World) : Calls Tryd.prog 19 #[.int .i64 8] w fun e w' => WordAt 8 w w' e := by
  have kc := fun (w : World) (C : Array Value) (n c : Nat) => Lib.run_convert_bytes_const (P := Tryd.prog) w 44 5 C n c Tryd.underlying44 Tryd.underlying5
  go_enter Tryd.func19, Tryd.ntmps19
  go_wp2
  refine wp_loop_rounds 5 ?_
  iterate 5 (rw [rounds_succ]; go_wp2)
  refine wp_loop_rounds 4 ?_
  iterate 4 (rw [rounds_succ]; go_wp2)
  go_ret
  exact ⟨w.heap.size, rfl, Nat.le_refl _, back3 _ _ _ _, below_alloc (below_alloc (below_alloc (Below.refl _ _) _) _) _⟩
set_option maxHeartbeats 1000000 in
set_option maxRecDepth 100000 in
theorem word_9 (w : World) : Calls Tryd.prog 19 #[.int .i64 9] w fun e w' => WordAt 9 w w' e := by
  have kc := fun (w : World) (C : Array Value) (n c : Nat) => Lib.run_convert_bytes_const (P := Tryd.prog) w 44 5 C n c Tryd.underlying44 Tryd.underlying5
  go_enter Tryd.func19, Tryd.ntmps19
  go_wp2
  refine wp_loop_rounds 5 ?_
  iterate 5 (rw [rounds_succ]; go_wp2)
  refine wp_loop_rounds 4 ?_
  iterate 4 (rw [rounds_succ]; go_wp2)
  go_ret
  exact ⟨w.heap.size, rfl, Nat.le_refl _, back3 _ _ _ _, below_alloc (below_alloc (below_alloc (Below.refl _ _) _) _) _⟩
set_option maxHeartbeats 1000000 in
set_option maxRecDepth 100000 in
theorem word_10 (w : World) : Calls Tryd.prog 19 #[.int .i64 10] w fun e w' => WordAt 10 w w' e := by
  have kc := fun (w : World) (C : Array Value) (n c : Nat) => Lib.run_convert_bytes_const (P := Tryd.prog) w 44 5 C n c Tryd.underlying44 Tryd.underlying5
  go_enter Tryd.func19, Tryd.ntmps19
  go_wp2
  refine wp_loop_rounds 5 ?_
  iterate 5 (rw [rounds_succ]; go_wp2)
  refine wp_loop_rounds 4 ?_
  iterate 4 (rw [rounds_succ]; go_wp2)
  go_ret
  exact ⟨w.heap.size, rfl, Nat.le_refl _, back3 _ _ _ _, below_alloc (below_alloc (below_alloc (Below.refl _ _) _) _) _⟩
set_option maxHeartbeats 1000000 in
set_option maxRecDepth 100000 in
theorem word_11 (w : World) : Calls Tryd.prog 19 #[.int .i64 11] w fun e w' => WordAt 11 w w' e := by
  have kc := fun (w : World) (C : Array Value) (n c : Nat) => Lib.run_convert_bytes_const (P := Tryd.prog) w 44 5 C n c Tryd.underlying44 Tryd.underlying5
  go_enter Tryd.func19, Tryd.ntmps19
  go_wp2
  refine wp_loop_rounds 5 ?_
  iterate 5 (rw [rounds_succ]; go_wp2)
  refine wp_loop_rounds 4 ?_
  iterate 4 (rw [rounds_succ]; go_wp2)
  go_ret
  exact ⟨w.heap.size, rfl, Nat.le_refl _, back3 _ _ _ _, below_alloc (below_alloc (below_alloc (Below.refl _ _) _) _) _⟩
set_option maxHeartbeats 1000000 in
set_option maxRecDepth 100000 in
theorem word_12 (w : World) : Calls Tryd.prog 19 #[.int .i64 12] w fun e w' => WordAt 12 w w' e := by
  have kc := fun (w : World) (C : Array Value) (n c : Nat) => Lib.run_convert_bytes_const (P := Tryd.prog) w 44 5 C n c Tryd.underlying44 Tryd.underlying5
  go_enter Tryd.func19, Tryd.ntmps19
  go_wp2
  refine wp_loop_rounds 5 ?_
  iterate 5 (rw [rounds_succ]; go_wp2)
  refine wp_loop_rounds 4 ?_
  iterate 4 (rw [rounds_succ]; go_wp2)
  go_ret
  exact ⟨w.heap.size, rfl, Nat.le_refl _, back3 _ _ _ _, below_alloc (below_alloc (below_alloc (Below.refl _ _) _) _) _⟩
set_option maxHeartbeats 1000000 in
set_option maxRecDepth 100000 in
theorem word_13 (w : World) : Calls Tryd.prog 19 #[.int .i64 13] w fun e w' => WordAt 13 w w' e := by
  have kc := fun (w : World) (C : Array Value) (n c : Nat) => Lib.run_convert_bytes_const (P := Tryd.prog) w 44 5 C n c Tryd.underlying44 Tryd.underlying5
  go_enter Tryd.func19, Tryd.ntmps19
  go_wp2
  refine wp_loop_rounds 5 ?_
  iterate 5 (rw [rounds_succ]; go_wp2)
  refine wp_loop_rounds 4 ?_
  iterate 4 (rw [rounds_succ]; go_wp2)
  go_ret
  exact ⟨w.heap.size, rfl, Nat.le_refl _, back3 _ _ _ _, below_alloc (below_alloc (below_alloc (Below.refl _ _) _) _) _⟩
set_option maxHeartbeats 1000000 in
set_option maxRecDepth 100000 in
theorem word_14 (w : World) : Calls Tryd.prog 19 #[.int .i64 14] w fun e w' => WordAt 14 w w' e := by
  have kc := fun (w : World) (C : Array Value) (n c : Nat) => Lib.run_convert_bytes_const (P := Tryd.prog) w 44 5 C n c Tryd.underlying44 Tryd.underlying5
  go_enter Tryd.func19, Tryd.ntmps19
  go_wp2
  refine wp_loop_rounds 5 ?_
  iterate 5 (rw [rounds_succ]; go_wp2)
  refine wp_loop_rounds 4 ?_
  iterate 4 (rw [rounds_succ]; go_wp2)
  go_ret
  exact ⟨w.heap.size, rfl, Nat.le_refl _, back3 _ _ _ _, below_alloc (below_alloc (below_alloc (Below.refl _ _) _) _) _⟩
set_option maxHeartbeats 1000000 in
set_option maxRecDepth 100000 in
theorem word_15 (w : World) : Calls Tryd.prog 19 #[.int .i64 15] w fun e w' => WordAt 15 w w' e := by
  have kc := fun (w : World) (C : Array Value) (n c : Nat) => Lib.run_convert_bytes_const (P := Tryd.prog) w 44 5 C n c Tryd.underlying44 Tryd.underlying5
  go_enter Tryd.func19, Tryd.ntmps19
  go_wp2
  refine wp_loop_rounds 5 ?_
  iterate 5 (rw [rounds_succ]; go_wp2)
  refine wp_loop_rounds 4 ?_
  iterate 4 (rw [rounds_succ]; go_wp2)
  go_ret
  exact ⟨w.heap.size, rfl, Nat.le_refl _, back3 _ _ _ _, below_alloc (below_alloc (below_alloc (Below.refl _ _) _) _) _⟩
theorem word_any (n : Nat) (hn : n < 16) (w : World) : Calls Tryd.prog 19 #[.int .i64 (n : Int)] w fun e w' => WordAt n w w' e := by
  rcases (by omega : n = 0 ∨ n = 1 ∨ n = 2 ∨ n = 3 ∨ n = 4 ∨ n = 5 ∨ n = 6 ∨ n = 7 ∨ n = 8 ∨ n = 9 ∨ n = 10 ∨ n = 11 ∨ n = 12 ∨ n = 13 ∨ n = 14 ∨ n = 15) with rfl | rfl | rfl | rfl | rfl | rfl | rfl | rfl | rfl | rfl | rfl | rfl | rfl | rfl | rfl | rfl
  · exact word_0 w
  · exact word_1 w
  · exact word_2 w
  · exact word_3 w
  · exact word_4 w
  · exact word_5 w
  · exact word_6 w
  · exact word_7 w
  · exact word_8 w
  · exact word_9 w
  · exact word_10 w
  · exact word_11 w
  · exact word_12 w
  · exact word_13 w
  · exact word_14 w
  · exact word_15 w
/-- The row that fec.word makes, as it is read. -/
theorem word_reads {n : Nat} {w : World} {B : Nat} (h : w.heap[B]? = some (.cells (wordCells n) 5 (7, 8))) : ReadsInt w .u8 (some ⟨B, 0, none⟩) 7 (wordBits n) := by
  refine ⟨rfl, by decide, fun _ => ⟨_, rfl, fun j hj => ?_⟩⟩
  have ha : (⟨B, 0, none⟩ : Addr).add j = ⟨B, j, none⟩ := by unfold Addr.add; split <;> simp_all
  rw [ha, cell_of_row w B j _ _ _ h]
  unfold wordCells
  rw [List.getElem?_toArray, List.getElem?_map, List.getElem?_eq_getElem (show j < (wordBits n).length from hj), List.getD_eq_getElem?_getD, List.getElem?_eq_getElem (show j < (wordBits n).length from hj)]
  rfl
end Go.Proofs.YtkdncfbbhbmaaaaDoor.Ext
namespace Go.Proofs.YtkdncfbbhbmaaaaDoor.K
/-- The step of the checksum's register: one bit. -/
def crcHalf (c : Nat) : Nat := if c % 2 = 1 then (c / 2) ^^^ 3988292384 else c / 2
def crcIter : Nat → Nat → Nat
  | 0, c => c
  | n + 1, c => crcHalf (crcIter n c)
theorem crcHalf_lt (c : Nat) (h : c < 4294967296) : crcHalf c < 4294967296 := by
  unfold crcHalf
  split
  · exact Nat.xor_lt_two_pow (n := 32) (by omega) (by decide)
  · omega
theorem crcIter_lt (n c : Nat) (h : c < 4294967296) : crcIter n c < 4294967296 := by
  induction n with
  | zero => exact h
  | succ n ih => exact crcHalf_lt _ ih
theorem xor_mod2 (x y : Nat) : (x ^^^ y) % 2 = (x % 2 + y % 2) % 2 := by
  have h1 : (x ^^^ y) % 2 = x % 2 ^^^ y % 2 := Nat.xor_mod_two_pow (a := x) (b := y) (n := 1)
  rw [h1]
  rcases Nat.mod_two_eq_zero_or_one x with hx | hx <;> rcases Nat.mod_two_eq_zero_or_one y with hy | hy <;> rw [hx, hy] <;> rfl
theorem xor_div2 (x y : Nat) : (x ^^^ y) / 2 = x / 2 ^^^ y / 2 := by
  have := Nat.shiftRight_xor_distrib (a := x) (b := y) (i := 1)
  simpa [Nat.shiftRight_eq_div_pow] using this
theorem half_xor (x y : Nat) : crcHalf (x ^^^ y) = crcHalf x ^^^ crcHalf y := by
  unfold crcHalf
  rw [xor_mod2, xor_div2]
  rcases Nat.mod_two_eq_zero_or_one x with hx | hx <;> rcases Nat.mod_two_eq_zero_or_one y with hy | hy <;> simp [hx, hy]
  · ac_rfl
  · ac_rfl
  · rw [show x / 2 ^^^ 3988292384 ^^^ (y / 2 ^^^ 3988292384) = (x / 2 ^^^ y / 2) ^^^ (3988292384 ^^^ 3988292384) by ac_rfl]; simp
theorem iter_xor (n x y : Nat) : crcIter n (x ^^^ y) = crcIter n x ^^^ crcIter n y := by
  induction n with
  | zero => rfl
  | succ n ih => simp only [crcIter, ih, half_xor]
theorem iter_high (n : Nat) : ∀ x, crcIter n (x * 2 ^ n) = x := by
  induction n with
  | zero => intro x; simp [crcIter]
  | succ n ih =>
    intro x
    simp only [crcIter]
    rw [show x * 2 ^ (n + 1) = (x * 2) * 2 ^ n by rw [Nat.pow_succ, Nat.mul_assoc, Nat.mul_comm 2]]
    rw [ih]
    unfold crcHalf
    rw [if_neg (by omega)]
    omega
theorem byte_step (c b : Nat) : crcIter 8 (c ^^^ b) = c / 256 ^^^ crcIter 8 ((c % 256) ^^^ b) := by
  have h : c = (c / 256) * 2 ^ 8 ^^^ c % 256 := by
    apply Nat.eq_of_testBit_eq
    intro i
    rw [Nat.testBit_xor, Nat.testBit_mul_two_pow, show 256 = 2 ^ 8 from rfl, Nat.testBit_mod_two_pow, Nat.testBit_div_two_pow]
    by_cases h : i < 8
    · simp [h, show ¬ 8 ≤ i by omega]
    · simp [h, show 8 ≤ i by omega]
  conv => lhs; rw [h]
  rw [Nat.xor_assoc, iter_xor, iter_high]
theorem xor_byte (a b : Nat) (ha : a < 256) (hb : b < 256) : a ^^^ b < 256 := Nat.xor_lt_two_pow (n := 8) ha hb
/-- The register after some bytes. -/
def crcReg (l : List UInt8) : Nat := l.foldl (fun c b => crcIter 8 (c ^^^ b.toNat)) 4294967295
theorem crcReg_snoc (l : List UInt8) (b : UInt8) : crcReg (l ++ [b]) = crcIter 8 (crcReg l ^^^ b.toNat) := by simp [crcReg]
theorem fold_lt (l : List UInt8) : ∀ c, c < 4294967296 → l.foldl (fun c b => crcIter 8 (c ^^^ b.toNat)) c < 4294967296 := by
  induction l with
  | nil => intro c h; exact h
  | cons b l ih =>
    intro c h
    exact ih _ (crcIter_lt 8 _ (Nat.xor_lt_two_pow (n := 32) h (Nat.lt_trans (UInt8.toNat_lt b) (by decide))))
theorem crcReg_lt (l : List UInt8) : crcReg l < 4294967296 := fold_lt l _ (by decide)
/-- The checksum of some bytes. -/
def crcOf (l : List UInt8) : Nat := crcReg l ^^^ 4294967295
theorem crcOf_lt (l : List UInt8) : crcOf l < 4294967296 := Nat.xor_lt_two_pow (n := 32) (crcReg_lt l) (by decide)
theorem xorU32 (a b : Nat) (ha : a < 4294967296) (hb : b < 4294967296) : Go.bits .xor .u32 (a : Int) (b : Int) = ((a ^^^ b : Nat) : Int) := by
  have h : a ^^^ b < 2 ^ 32 := Nat.xor_lt_two_pow (by omega) (by omega)
  simp only [Go.bits, BitVec.ofInt_natCast, BitVec.toNat_xor, BitVec.toNat_ofNat]
  rw [IntKind.wrap_u32, show IntKind.u32.bits = 32 from rfl, Nat.mod_eq_of_lt (by omega), Nat.mod_eq_of_lt (by omega)]
  omega
theorem xorU8 (a b : Nat) (ha : a < 256) (hb : b < 256) : Go.bits .xor .u8 (a : Int) (b : Int) = ((a ^^^ b : Nat) : Int) := by
  have h : a ^^^ b < 2 ^ 8 := Nat.xor_lt_two_pow (by omega) (by omega)
  simp only [Go.bits, BitVec.ofInt_natCast, BitVec.toNat_xor, BitVec.toNat_ofNat]
  rw [IntKind.wrap_u8, show IntKind.u8.bits = 8 from rfl, Nat.mod_eq_of_lt (by omega), Nat.mod_eq_of_lt (by omega)]
  omega
theorem andU32 (a : Nat) (ha : a < 4294967296) : Go.bits .and .u32 (a : Int) 1 = ((a % 2 : Nat) : Int) := by
  have := (bits_nat .u32 32 (by decide) (fun n h0 h1 => by rw [IntKind.wrap_u32]; omega) a 1 (by omega) (by omega)).1
  rw [show ((1 : Int)) = ((1 : Nat) : Int) from rfl, this, Nat.and_one_is_mod]
end Go.Proofs.YtkdncfbbhbmaaaaDoor.K
namespace Go.Proofs.YtkdncfbbhbmaaaaDoor.K
theorem crcHalf_zero : crcHalf 0 = 0 := by decide
theorem crcIter_zero (n : Nat) : crcIter n 0 = 0 := by
  induction n with
  | zero => rfl
  | succ n ih => rw [crcIter, ih, crcHalf_zero]
theorem crcIter_add (m n c : Nat) : crcIter (m + n) c = crcIter m (crcIter n c) := by
  induction m with
  | zero => rw [Nat.zero_add]; rfl
  | succ m ih => rw [Nat.succ_add, crcIter, ih, crcIter]
/-- The product of two remainders, bit by bit from bit n - 1 of the first one downwards. -/
def tmul : Nat → Nat → Nat → Nat
  | 0, _, _ => 0
  | n + 1, a, b => (if a / 2 ^ n % 2 = 1 then b else 0) ^^^ tmul n a (crcHalf b)
theorem tmul_lt (n a : Nat) : ∀ b, b < 4294967296 → tmul n a b < 4294967296 := by
  induction n with
  | zero => intro b _; exact (by decide : 0 < 4294967296)
  | succ n ih =>
    intro b hb
    refine Nat.xor_lt_two_pow (n := 32) ?_ (ih _ (crcHalf_lt b hb))
    split
    · exact hb
    · decide
theorem tmul_half (n a : Nat) : ∀ b, tmul n a (crcHalf b) = crcHalf (tmul n a b) := by
  induction n with
  | zero => intro b; exact crcHalf_zero.symm
  | succ n ih =>
    intro b
    rw [tmul, tmul, half_xor, ih (crcHalf b)]
    split
    · rfl
    · rw [crcHalf_zero]
theorem tmul_iter (n a j : Nat) (b : Nat) : tmul n a (crcIter j b) = crcIter j (tmul n a b) := by
  induction j with
  | zero => rfl
  | succ j ih => rw [crcIter, tmul_half, ih, crcIter]
theorem half_pow (n : Nat) : crcHalf (2 ^ (n + 1)) = 2 ^ n := by
  unfold crcHalf
  rw [Nat.pow_succ, if_neg (by omega)]
  omega
theorem tmul_pow (n a : Nat) : tmul (n + 1) a (2 ^ n) = a % 2 ^ (n + 1) := by
  induction n with
  | zero =>
    simp only [tmul, Nat.pow_zero, Nat.div_one, Nat.xor_zero, Nat.zero_add, Nat.pow_one]
    split <;> omega
  | succ n ih =>
    rw [tmul, half_pow, ih]
    apply Nat.eq_of_testBit_eq
    intro i
    rw [Nat.testBit_xor, Nat.testBit_mod_two_pow, Nat.testBit_mod_two_pow]
    have hb : (a / 2 ^ (n + 1) % 2 = 1) ↔ a.testBit (n + 1) = true := by rw [Nat.testBit_eq_decide_div_mod_eq]; simp
    by_cases h : a / 2 ^ (n + 1) % 2 = 1
    · rw [if_pos h, Nat.testBit_two_pow]
      have h2 := hb.1 h
      by_cases e : n + 1 = i
      · subst e; simp [h2]
      · by_cases e2 : i < n + 1
        · simp [e, e2, show i < n + 1 + 1 by omega]
        · simp [e, e2, show ¬ i < n + 1 + 1 by omega]
    · rw [if_neg h, Nat.zero_testBit]
      have h2 : a.testBit (n + 1) = false := by simpa using fun z => h (hb.2 z)
      by_cases e : n + 1 = i
      · subst e; simp [h2]
      · by_cases e2 : i < n + 1
        · simp [e2, show i < n + 1 + 1 by omega]
        · simp [e2, show ¬ i < n + 1 + 1 by omega]
/-- The remainder of a power of x. -/
def xpow (j : Nat) : Nat := crcIter j 2147483648
theorem xpow_lt (j : Nat) : xpow j < 4294967296 := crcIter_lt j _ (by decide)
theorem tmul_xpow (a j : Nat) (ha : a < 4294967296) : tmul 32 a (xpow j) = crcIter j a := by
  unfold xpow
  rw [tmul_iter, show (2147483648 : Nat) = 2 ^ 31 from rfl, tmul_pow 31 a, Nat.mod_eq_of_lt ha]
theorem xpow_eight : xpow 8 = 8388608 := by decide
theorem xpow_double (j : Nat) : crcIter j (xpow j) = xpow (j + j) := by unfold xpow; rw [crcIter_add]
end Go.Proofs.YtkdncfbbhbmaaaaDoor.K
