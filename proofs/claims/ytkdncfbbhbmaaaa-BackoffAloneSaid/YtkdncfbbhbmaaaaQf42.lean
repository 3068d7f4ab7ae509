/- A program's text (wip/drive.py runs the kit's printer over contracts of this session): Go functions as Lean functions, and that the calls do what these say. -/
import Derived.Test.YtkdncfbbhbmaaaaQ0
import Derived.Test.YtkdncfbbhbmaaaaQf35
namespace Go.Proofs.Ytkdncfbbhbmaaaa.Q
open Go.RowKit Go.Proofs.YtkdncfbbhbmaaaaW.PrintWords Go.Proofs.YtkdncfbbhbmaaaaW.PrintLast Go.Proofs.YtkdncfbbhbmaaaaW.PrintMore
attribute [local go_sem] max2_int min2_int max_two min_two max_three min_three max_four min_four   -- for this text's walks alone
set_option linter.unusedVariables false
set_option linter.unusedSimpArgs false

/-! ### backoff_Contend: function 42 -/
mutual
def backoff_Contend.j0 : Nat → Int → List Int → Bool → Option (List Int × Int)
 | 0, _, _, _ => none
 | k + 1, x0, x1, x27 => if x27 = true then (some (([] : List Int), 1)) else (if (x1.length : Int) > 256 then (some (([] : List Int), 2)) else (if 0 ≤ x0 then (if (x0 : Int).toNat ≤ 11728124029610 then (backoff_Contend.l0 k x0 x1 (List.replicate (x0 : Int).toNat z102) 0 x0) else (none)) else (none)))
def backoff_Contend.l0 : Nat → Int → List Int → List (S102) → Int → Int → Option (List Int × Int)
 | 0, _, _, _, _, _ => none
 | k + 1, x0, x1, x6, x7, x8 => if x8 > 0 then (backoff_Contend.l1 k x0 x1 x6 x7 x8 ([] : List Int) x6 (x6.length : Int) 0) else (if 0 ≤ x0 then (if (x0 : Int).toNat ≤ 35184372088832 then (backoff_Contend.l3 k (List.replicate (x0 : Int).toNat 0) x6 (x6.length : Int) 0) else (none)) else (none))
def backoff_Contend.l1 : Nat → Int → List Int → List (S102) → Int → Int → List Int → List (S102) → Int → Int → Option (List Int × Int)
 | 0, _, _, _, _, _, _, _, _, _ => none
 | k + 1, x0, x1, x6, x7, x8, x9, x36, x37, x38 => if x38 < x37 then (if 0 ≤ x38 then (if x38 < (x36.length : Int) then (if ((rd_T102 x36 x38).f0) < 0 then (backoff_Contend.l1 k x0 x1 x6 x7 x8 x9 x36 x37 (wrap64 (x38 + 1))) else (if (x9.length : Int) > 0 then (if 0 < (x9.length : Int) then (if 0 ≤ (rd x9 0) then (if (rd x9 0) < (x6.length : Int) then (backoff_Contend.j3 k x0 x1 x6 x7 x8 x9 x38 x36 x37 x38 (decide (((rd_T102 x36 x38).f0) < ((rd_T102 x6 (rd x9 0)).f0))) ((rd_T102 x36 x38).f0) ((rd_T102 x36 x38).f1) ((rd_T102 x36 x38).f2)) else (none)) else (none)) else (none)) else (backoff_Contend.j3 k x0 x1 x6 x7 x8 x9 x38 x36 x37 x38 false ((rd_T102 x36 x38).f0) ((rd_T102 x36 x38).f1) ((rd_T102 x36 x38).f2)))) else (none)) else (none)) else (if 0 < (x9.length : Int) then (if 0 ≤ (rd x9 0) then (if (rd x9 0) < (x6.length : Int) then (if (x9.length : Int) = 1 then ((some (x6.set ((rd x9 0) : Int).toNat (⟨(rd_T102 x6 (rd x9 0)).f0, (rd_T102 x6 (rd x9 0)).f1, (rd_T102 x6 (rd x9 0)).f0⟩ : S102) : List (S102))).bind fun y302 => (backoff_Contend.l0 k x0 x1 (y302.set ((rd x9 0) : Int).toNat (⟨(-1), (rd_T102 y302 (rd x9 0)).f1, (rd_T102 y302 (rd x9 0)).f2⟩ : S102)) x7 (wrap64 (x8 - 1)))) else (backoff_Contend.l2 k x0 x1 x6 x7 x8 ((rd_T102 x6 (rd x9 0)).f0) x9 (x9.length : Int) 0)) else (none)) else (none)) else (none))
def backoff_Contend.j3 : Nat → Int → List Int → List (S102) → Int → Int → List Int → Int → List (S102) → Int → Int → Bool → Int → Int → Int → Option (List Int × Int)
 | 0, _, _, _, _, _, _, _, _, _, _, _, _, _, _ => none
 | k + 1, x0, x1, x6, x7, x8, x9, x10, x36, x37, x38, x60, x280000, x280001, x280002 => if x60 = true then (if (([] : List Int).length : Int) = 0 then (if ([] : List Int).length < 17592186044416 then (backoff_Contend.l1 k x0 x1 x6 x7 x8 (([] : List Int) ++ [x10]) x36 x37 (wrap64 (x38 + 1))) else (none)) else (if 0 < (([] : List Int).length : Int) then (if 0 ≤ (rd ([] : List Int) 0) then (if (rd ([] : List Int) 0) < (x6.length : Int) then (if x280000 = ((rd_T102 x6 (rd ([] : List Int) 0)).f0) then (if ([] : List Int).length < 17592186044416 then (backoff_Contend.l1 k x0 x1 x6 x7 x8 (([] : List Int) ++ [x10]) x36 x37 (wrap64 (x38 + 1))) else (none)) else (backoff_Contend.l1 k x0 x1 x6 x7 x8 ([] : List Int) x36 x37 (wrap64 (x38 + 1)))) else (none)) else (none)) else (none))) else (if (x9.length : Int) = 0 then (if x9.length < 17592186044416 then (backoff_Contend.l1 k x0 x1 x6 x7 x8 (x9 ++ [x10]) x36 x37 (wrap64 (x38 + 1))) else (none)) else (if 0 < (x9.length : Int) then (if 0 ≤ (rd x9 0) then (if (rd x9 0) < (x6.length : Int) then (if x280000 = ((rd_T102 x6 (rd x9 0)).f0) then (if x9.length < 17592186044416 then (backoff_Contend.l1 k x0 x1 x6 x7 x8 (x9 ++ [x10]) x36 x37 (wrap64 (x38 + 1))) else (none)) else (backoff_Contend.l1 k x0 x1 x6 x7 x8 x9 x36 x37 (wrap64 (x38 + 1)))) else (none)) else (none)) else (none)))
def backoff_Contend.l2 : Nat → Int → List Int → List (S102) → Int → Int → Int → List Int → Int → Int → Option (List Int × Int)
 | 0, _, _, _, _, _, _, _, _, _ => none
 | k + 1, x0, x1, x6, x7, x8, x12, x106, x107, x108 => if x108 < x107 then (if 0 ≤ x108 then (if x108 < (x106.length : Int) then (if 0 ≤ (rd x106 x108) then (if (rd x106 x108) < (x6.length : Int) then ((some (x6.set ((rd x106 x108) : Int).toNat (⟨(rd_T102 x6 (rd x106 x108)).f0, wrap64 (((rd_T102 x6 (rd x106 x108)).f1) + 1), (rd_T102 x6 (rd x106 x108)).f2⟩ : S102) : List (S102))).bind fun y307 => (if ((rd_T102 y307 (rd x106 x108)).f1) > 16 then ((some (y307.set ((rd x106 x108) : Int).toNat (⟨(rd_T102 y307 (rd x106 x108)).f0, (rd_T102 y307 (rd x106 x108)).f1, (-1)⟩ : S102) : List (S102))).bind fun y309 => (backoff_Contend.l2 k x0 x1 (y309.set ((rd x106 x108) : Int).toNat (⟨(-1), (rd_T102 y309 (rd x106 x108)).f1, (rd_T102 y309 (rd x106 x108)).f2⟩ : S102)) x7 (wrap64 (x8 - 1)) x12 x106 x107 (wrap64 (x108 + 1)))) else (if (x1.length : Int) > 0 then (if (x1.length : Int) = 0 then (none) else (if 0 ≤ (Int.tmod x7 (x1.length : Int)) then (if (Int.tmod x7 (x1.length : Int)) < (x1.length : Int) then ((backoff_Wait.f ((rd_T102 y307 (rd x106 x108)).f1) (rd x1 (Int.tmod x7 (x1.length : Int)))).bind fun bt313 => (backoff_Contend.l2 k x0 x1 (y307.set ((rd x106 x108) : Int).toNat (⟨wrap64 ((wrap64 (x12 + 1)) + bt313.1), (rd_T102 y307 (rd x106 x108)).f1, (rd_T102 y307 (rd x106 x108)).f2⟩ : S102)) (wrap64 (x7 + 1)) x8 x12 x106 x107 (wrap64 (x108 + 1)))) else (none)) else (none))) else ((backoff_Wait.f ((rd_T102 y307 (rd x106 x108)).f1) 0).bind fun bt317 => (backoff_Contend.l2 k x0 x1 (y307.set ((rd x106 x108) : Int).toNat (⟨wrap64 ((wrap64 (x12 + 1)) + bt317.1), (rd_T102 y307 (rd x106 x108)).f1, (rd_T102 y307 (rd x106 x108)).f2⟩ : S102)) (wrap64 (x7 + 1)) x8 x12 x106 x107 (wrap64 (x108 + 1))))))) else (none)) else (none)) else (none)) else (none)) else (backoff_Contend.l0 k x0 x1 x6 x7 x8)
def backoff_Contend.l3 : Nat → List Int → List (S102) → Int → Int → Option (List Int × Int)
 | 0, _, _, _, _ => none
 | k + 1, x19, x166, x167, x168 => if x168 < x167 then (if 0 ≤ x168 then (if x168 < (x166.length : Int) then (if x168 < (x19.length : Int) then (backoff_Contend.l3 k (x19.set (x168 : Int).toNat ((rd_T102 x166 x168).f2)) x166 x167 (wrap64 (x168 + 1))) else (none)) else (none)) else (none)) else (some (x19, 0))
end
def backoff_Contend.f (k : Nat) (a0 : Int) (l1 : List Int) : Option (List Int × Int) := if a0 < 0 then (backoff_Contend.j0 k a0 l1 true) else (backoff_Contend.j0 k a0 l1 (decide (a0 > 16)))
theorem backoff_Contend.mono_l : ∀ k, (∀ y0 y1 y2, LeO (backoff_Contend.j0 k y0 y1 y2) (backoff_Contend.j0 (k + 1) y0 y1 y2)) ∧ (∀ y0 y1 y2 y3 y4, LeO (backoff_Contend.l0 k y0 y1 y2 y3 y4) (backoff_Contend.l0 (k + 1) y0 y1 y2 y3 y4)) ∧ (∀ y0 y1 y2 y3 y4 y5 y6 y7 y8, LeO (backoff_Contend.l1 k y0 y1 y2 y3 y4 y5 y6 y7 y8) (backoff_Contend.l1 (k + 1) y0 y1 y2 y3 y4 y5 y6 y7 y8)) ∧ (∀ y0 y1 y2 y3 y4 y5 y6 y7 y8 y9 y10 y11 y12 y13, LeO (backoff_Contend.j3 k y0 y1 y2 y3 y4 y5 y6 y7 y8 y9 y10 y11 y12 y13) (backoff_Contend.j3 (k + 1) y0 y1 y2 y3 y4 y5 y6 y7 y8 y9 y10 y11 y12 y13)) ∧ (∀ y0 y1 y2 y3 y4 y5 y6 y7 y8, LeO (backoff_Contend.l2 k y0 y1 y2 y3 y4 y5 y6 y7 y8) (backoff_Contend.l2 (k + 1) y0 y1 y2 y3 y4 y5 y6 y7 y8)) ∧ (∀ y0 y1 y2 y3, LeO (backoff_Contend.l3 k y0 y1 y2 y3) (backoff_Contend.l3 (k + 1) y0 y1 y2 y3))
 | 0 => ⟨fun _ _ _ r h => by simp [backoff_Contend.j0] at h, fun _ _ _ _ _ r h => by simp [backoff_Contend.l0] at h, fun _ _ _ _ _ _ _ _ _ r h => by simp [backoff_Contend.l1] at h, fun _ _ _ _ _ _ _ _ _ _ _ _ _ _ r h => by simp [backoff_Contend.j3] at h, fun _ _ _ _ _ _ _ _ _ r h => by simp [backoff_Contend.l2] at h, fun _ _ _ _ r h => by simp [backoff_Contend.l3] at h⟩
 | k + 1 => by
  obtain ⟨ih0, ih1, ih2, ih3, ih4, ih5⟩ := backoff_Contend.mono_l k
  refine ⟨?_, ?_, ?_, ?_, ?_, ?_⟩
  ·intro y0 y1 y2
   unfold backoff_Contend.j0
   repeat' first
   | (with_reducible exact ih0 _ _ _)
   | (with_reducible exact ih1 _ _ _ _ _)
   | (with_reducible exact ih2 _ _ _ _ _ _ _ _ _)
   | (with_reducible exact ih3 _ _ _ _ _ _ _ _ _ _ _ _ _ _)
   | (with_reducible exact ih4 _ _ _ _ _ _ _ _ _)
   | (with_reducible exact ih5 _ _ _ _)
   | (with_reducible exact LeO.refl _)
   | (with_reducible exact LeO.none _)
   | (with_reducible refine LeO.ite ?_ ?_)
   | (with_reducible refine LeO.bind ?_ (fun _ => ?_))
   | exact ih0 _ _ _
   | exact ih1 _ _ _ _ _
   | exact ih2 _ _ _ _ _ _ _ _ _
   | exact ih3 _ _ _ _ _ _ _ _ _ _ _ _ _ _
   | exact ih4 _ _ _ _ _ _ _ _ _
   | exact ih5 _ _ _ _
   | exact LeO.none _
   | refine LeO.ite ?_ ?_
   | refine LeO.bind ?_ (fun _ => ?_)
  ·intro y0 y1 y2 y3 y4
   unfold backoff_Contend.l0
   repeat' first
   | (with_reducible exact ih0 _ _ _)
   | (with_reducible exact ih1 _ _ _ _ _)
   | (with_reducible exact ih2 _ _ _ _ _ _ _ _ _)
   | (with_reducible exact ih3 _ _ _ _ _ _ _ _ _ _ _ _ _ _)
   | (with_reducible exact ih4 _ _ _ _ _ _ _ _ _)
   | (with_reducible exact ih5 _ _ _ _)
   | (with_reducible exact LeO.refl _)
   | (with_reducible exact LeO.none _)
   | (with_reducible refine LeO.ite ?_ ?_)
   | (with_reducible refine LeO.bind ?_ (fun _ => ?_))
   | exact ih0 _ _ _
   | exact ih1 _ _ _ _ _
   | exact ih2 _ _ _ _ _ _ _ _ _
   | exact ih3 _ _ _ _ _ _ _ _ _ _ _ _ _ _
   | exact ih4 _ _ _ _ _ _ _ _ _
   | exact ih5 _ _ _ _
   | exact LeO.none _
   | refine LeO.ite ?_ ?_
   | refine LeO.bind ?_ (fun _ => ?_)
  ·intro y0 y1 y2 y3 y4 y5 y6 y7 y8
   unfold backoff_Contend.l1
   repeat' first
   | (with_reducible exact ih0 _ _ _)
   | (with_reducible exact ih1 _ _ _ _ _)
   | (with_reducible exact ih2 _ _ _ _ _ _ _ _ _)
   | (with_reducible exact ih3 _ _ _ _ _ _ _ _ _ _ _ _ _ _)
   | (with_reducible exact ih4 _ _ _ _ _ _ _ _ _)
   | (with_reducible exact ih5 _ _ _ _)
   | (with_reducible exact LeO.refl _)
   | (with_reducible exact LeO.none _)
   | (with_reducible refine LeO.ite ?_ ?_)
   | (with_reducible refine LeO.bind ?_ (fun _ => ?_))
   | exact ih0 _ _ _
   | exact ih1 _ _ _ _ _
   | exact ih2 _ _ _ _ _ _ _ _ _
   | exact ih3 _ _ _ _ _ _ _ _ _ _ _ _ _ _
   | exact ih4 _ _ _ _ _ _ _ _ _
   | exact ih5 _ _ _ _
   | exact LeO.none _
   | refine LeO.ite ?_ ?_
   | refine LeO.bind ?_ (fun _ => ?_)
  ·intro y0 y1 y2 y3 y4 y5 y6 y7 y8 y9 y10 y11 y12 y13
   unfold backoff_Contend.j3
   repeat' first
   | (with_reducible exact ih0 _ _ _)
   | (with_reducible exact ih1 _ _ _ _ _)
   | (with_reducible exact ih2 _ _ _ _ _ _ _ _ _)
   | (with_reducible exact ih3 _ _ _ _ _ _ _ _ _ _ _ _ _ _)
   | (with_reducible exact ih4 _ _ _ _ _ _ _ _ _)
   | (with_reducible exact ih5 _ _ _ _)
   | (with_reducible exact LeO.refl _)
   | (with_reducible exact LeO.none _)
   | (with_reducible refine LeO.ite ?_ ?_)
   | (with_reducible refine LeO.bind ?_ (fun _ => ?_))
   | exact ih0 _ _ _
   | exact ih1 _ _ _ _ _
   | exact ih2 _ _ _ _ _ _ _ _ _
   | exact ih3 _ _ _ _ _ _ _ _ _ _ _ _ _ _
   | exact ih4 _ _ _ _ _ _ _ _ _
   | exact ih5 _ _ _ _
   | exact LeO.none _
   | refine LeO.ite ?_ ?_
   | refine LeO.bind ?_ (fun _ => ?_)
  ·intro y0 y1 y2 y3 y4 y5 y6 y7 y8
   unfold backoff_Contend.l2
   repeat' first
   | (with_reducible exact ih0 _ _ _)
   | (with_reducible exact ih1 _ _ _ _ _)
   | (with_reducible exact ih2 _ _ _ _ _ _ _ _ _)
   | (with_reducible exact ih3 _ _ _ _ _ _ _ _ _ _ _ _ _ _)
   | (with_reducible exact ih4 _ _ _ _ _ _ _ _ _)
   | (with_reducible exact ih5 _ _ _ _)
   | (with_reducible exact LeO.refl _)
   | (with_reducible exact LeO.none _)
   | (with_reducible refine LeO.ite ?_ ?_)
   | (with_reducible refine LeO.bind ?_ (fun _ => ?_))
   | exact ih0 _ _ _
   | exact ih1 _ _ _ _ _
   | exact ih2 _ _ _ _ _ _ _ _ _
   | exact ih3 _ _ _ _ _ _ _ _ _ _ _ _ _ _
   | exact ih4 _ _ _ _ _ _ _ _ _
   | exact ih5 _ _ _ _
   | exact LeO.none _
   | refine LeO.ite ?_ ?_
   | refine LeO.bind ?_ (fun _ => ?_)
  ·intro y0 y1 y2 y3
   unfold backoff_Contend.l3
   repeat' first
   | (with_reducible exact ih0 _ _ _)
   | (with_reducible exact ih1 _ _ _ _ _)
   | (with_reducible exact ih2 _ _ _ _ _ _ _ _ _)
   | (with_reducible exact ih3 _ _ _ _ _ _ _ _ _ _ _ _ _ _)
   | (with_reducible exact ih4 _ _ _ _ _ _ _ _ _)
   | (with_reducible exact ih5 _ _ _ _)
   | (with_reducible exact LeO.refl _)
   | (with_reducible exact LeO.none _)
   | (with_reducible refine LeO.ite ?_ ?_)
   | (with_reducible refine LeO.bind ?_ (fun _ => ?_))
   | exact ih0 _ _ _
   | exact ih1 _ _ _ _ _
   | exact ih2 _ _ _ _ _ _ _ _ _
   | exact ih3 _ _ _ _ _ _ _ _ _ _ _ _ _ _
   | exact ih4 _ _ _ _ _ _ _ _ _
   | exact ih5 _ _ _ _
   | exact LeO.none _
   | refine LeO.ite ?_ ?_
   | refine LeO.bind ?_ (fun _ => ?_)
theorem backoff_Contend.mono : ∀ a0 a1 k, LeO (backoff_Contend.f k a0 a1) (backoff_Contend.f (k + 1) a0 a1) := by
 intro a0 a1 k
 obtain ⟨ih0, ih1, ih2, ih3, ih4, ih5⟩ := backoff_Contend.mono_l k
 unfold backoff_Contend.f
 repeat' first
   | (with_reducible exact ih0 _ _ _)
   | (with_reducible exact ih1 _ _ _ _ _)
   | (with_reducible exact ih2 _ _ _ _ _ _ _ _ _)
   | (with_reducible exact ih3 _ _ _ _ _ _ _ _ _ _ _ _ _ _)
   | (with_reducible exact ih4 _ _ _ _ _ _ _ _ _)
   | (with_reducible exact ih5 _ _ _ _)
   | (with_reducible exact LeO.refl _)
   | (with_reducible exact LeO.none _)
   | (with_reducible refine LeO.ite ?_ ?_)
   | (with_reducible refine LeO.bind ?_ (fun _ => ?_))
   | exact ih0 _ _ _
   | exact ih1 _ _ _ _ _
   | exact ih2 _ _ _ _ _ _ _ _ _
   | exact ih3 _ _ _ _ _ _ _ _ _ _ _ _ _ _
   | exact ih4 _ _ _ _ _ _ _ _ _
   | exact ih5 _ _ _ _
   | exact LeO.none _
   | refine LeO.ite ?_ ?_
   | refine LeO.bind ?_ (fun _ => ?_)
def backoff_Contend.T14 : Bool × List (List Nat × List Nat) := (true, [([], []), ([0], [0]), ([1], [1]), ([2], [2]), ([3], [3]), ([4, 3], [3, 4]), ([3], [3]), ([3], [3]), ([7, 3], [3, 7]), ([8, 3], [3, 8]), ([6, 9, 3], [3, 6, 9]), ([10, 3], [3, 10]), ([11, 3], [3, 11]), ([5, 12, 3], [3, 5, 12]), ([3, 13], [3, 13])])
def backoff_Contend.B14 : List Nat := [0, 1, 3, 7, 15, 31, 15, 15, 143, 399, 975, 1999, 4047, 8191, 16383]
theorem backoff_Contend.tab14 : rtab .any (opsOf Try.f42 14) = backoff_Contend.T14 := by kernel_rfl
theorem backoff_Contend.bits14 : waitsOk backoff_Contend.T14.2 backoff_Contend.B14 = true := by kernel_rfl
def backoff_Contend.T16 : Bool × List (List Nat × List Nat) := (true, [([], []), ([0], [0]), ([1], [1]), ([2], [2]), ([3], [3]), ([4, 3], [3, 4]), ([3], [3]), ([3], [3]), ([7, 3], [3, 7]), ([8, 3], [3, 8]), ([6, 9, 3], [3, 6, 9]), ([10, 3], [3, 10]), ([11, 3], [3, 11]), ([5, 12, 3], [3, 5, 12]), ([3, 13], [3, 13])])
def backoff_Contend.B16 : List Nat := [0, 1, 3, 7, 15, 31, 15, 15, 143, 399, 975, 1999, 4047, 8191, 16383]
theorem backoff_Contend.tab16 : rtab .any (opsOf Try.f42 16) = backoff_Contend.T16 := by kernel_rfl
theorem backoff_Contend.bits16 : waitsOk backoff_Contend.T16.2 backoff_Contend.B16 = true := by kernel_rfl
def backoff_Contend.T21 : Bool × List (List Nat × List Nat) := (true, [([], []), ([], []), ([1], [1]), ([2], [2]), ([], []), ([], []), ([5], [5]), ([6], [6]), ([], []), ([0, 3, 0, 1, 2, 3, 7, 8], [0, 3]), ([9, 0, 1, 2, 3, 7, 8], [9]), ([10, 8, 0, 1, 2, 3, 7, 8], [8, 10]), ([4, 7, 0, 1, 2, 3, 4, 5, 6, 7, 8, 9, 10, 11], [4, 7]), ([12, 0, 1, 2, 3, 4, 5, 6, 7, 8, 9, 10, 11], [12]), ([13, 11, 0, 1, 2, 3, 4, 5, 6, 7, 8, 9, 10, 11], [13])])
def backoff_Contend.B21 : List Nat := [0, 0, 2, 6, 0, 0, 32, 96, 0, 495, 1007, 2031, 4095, 8191, 16383]
theorem backoff_Contend.tab21 : rtab .any (opsOf Try.f42 21) = backoff_Contend.T21 := by kernel_rfl
theorem backoff_Contend.bits21 : waitsOk backoff_Contend.T21.2 backoff_Contend.B21 = true := by kernel_rfl
set_option maxHeartbeats 8000000 in
set_option maxRecDepth 100000 in
theorem backoff_Contend.calls (k : Nat) (a0 : Int) (A1 : Option Addr) (c1 : Nat) (l1 : List Int) (r1 : List Int) (r2 : Int) (w : World) (hr1 : Kd.C (Kd.int .i64) w A1 l1.length l1) (hc1 : l1.length ≤ c1) (h : backoff_Contend.f k a0 l1 = some (r1, r2)) :
  Calls Try.prog 42 #[.int .i64 a0, .slice A1 l1.length c1] w fun e w' => ∃ v0_ : Value, e = .returned (.tuple #[v0_, .int .i64 r2]) ∧ Kd.R (Kd.int .i64) 3 w' w.heap.size (fun _ => True) v0_ r1 ∧ Below w.heap.size w w' := by
 have hu102 := Try.underlying102
 have HR1 := Aside0.mk hr1
 have HC1 := Aside0.mk hc1
 clear hr1 hc1
 have HB := Aside0.mk (Below.refl w.heap.size w)
 have H : (if a0 < 0 then (backoff_Contend.j0 k a0 l1 true) else (backoff_Contend.j0 k a0 l1 (decide (a0 > 16)))) = some (r1, r2) := h
 clear h
 have HC3 := Aside0.mk H
 clear H
 go_enter Try.func42, Try.ntmps42
 go_upto_region 1 with (fail)
 go_cut [27] (fun v27 wc => ∃ (kq : Nat) (x27_2 : Bool), v27 = .bool x27_2 ∧ Aside0 (backoff_Contend.j0 kq a0 l1 x27_2 = some (r1, r2)) ∧ Aside0 (kq ≤ k) ∧ Aside0 (Below w.heap.size w wc))
 case first =>
  have H := HC3.out
  clear HC3
  by_cases c4 : a0 < 0
  ·rw [if_pos c4] at H
   have c4b0 : decide (a0 < 0) = true := decide_eq_true c4
   clear c4
   (first | rw [c4b0] | (simp only [i64_w, i32_w]; rw [c4b0]) | skip)
   have H' := Aside0.mk H
   clear H
   go_wp2
   go_meet
   case rel => exact ⟨_, (true), (by first | rfl | (simp; done) | (simp [*]; done)), H', ⟨by first | omega | exact Nat.le_refl _⟩, ⟨by repeat (first | (with_reducible first | exact HB.out | apply below_alloc | apply pw_below_drewN | apply below_drew1) | exact HB.out)⟩⟩
  ·rw [if_neg c4] at H
   have c4b0 : decide (a0 < 0) = false := decide_eq_false c4
   clear c4
   (first | rw [c4b0] | (simp only [i64_w, i32_w]; rw [c4b0]) | skip)
   have H' := Aside0.mk H
   clear H
   go_wp2
   go_meet
   case rel => exact ⟨_, (decide (a0 > 16)), (by first | rfl | (simp; done) | (simp [*]; done)), H', ⟨by first | omega | exact Nat.le_refl _⟩, ⟨by repeat (first | (with_reducible first | exact HB.out | apply below_alloc | apply pw_below_drewN | apply below_drew1) | exact HB.out)⟩⟩
 case rest =>
  clear HC3
  try clear c1
  try clear p2
  try clear c4
  try clear c4b0
  obtain ⟨kq, x27_2, rfl, HA, HJ2, HB⟩ := hcut
  cases kq with
  | zero => exact absurd HA.out (by simp [backoff_Contend.j0])
  | succ kj2 =>
   have H := HA.out
   clear HA
   simp only [backoff_Contend.j0] at H
   by_cases c5 : x27_2 = true
   ·subst c5
    have H1 : (some (([] : List Int), 1)) = some (r1, r2) := by rw [if_pos rfl] at H; exact H
    clear H
    have H := H1
    clear H1
    simp only [Option.some.injEq, Prod.mk.injEq] at H
    obtain ⟨rfl, rfl⟩ := H
    go_wp2
    go_ret2
    exact ⟨_, by first | rfl | (simp [errW_none, errW_some] <;> rfl) | (simp [*, errW_none, errW_some] <;> rfl), by first | exact Kd.R_nil _ _ _ _ _ | exact Kd.N_nil _ _ _ _ _ | exact Kd.V_nil _ _ _ _ _ | exact Kd.Q_nil _ _ _ _ _ | exact Kd.S_nil _ _ _ _ _, by repeat (first | (with_reducible first | exact HB.out | apply below_alloc | apply pw_below_drewN | apply below_drew1) | exact HB.out)⟩
   ·replace c5 := Bool.eq_false_iff.mpr c5
    subst c5
    have H1 : (if (l1.length : Int) > 256 then (some (([] : List Int), 2)) else (if 0 ≤ a0 then (if (a0 : Int).toNat ≤ 11728124029610 then (backoff_Contend.l0 kj2 a0 l1 (List.replicate (a0 : Int).toNat z102) 0 a0) else (none)) else (none))) = some (r1, r2) := by rw [if_neg (show ¬ (false = true) by decide)] at H; exact H
    clear H
    have H := H1
    clear H1
    by_cases c6 : (l1.length : Int) > 256
    ·rw [if_pos c6] at H
     have c6b0 : decide (256 < (l1.length : Int)) = true := decide_eq_true c6
     have c6b1 : decide (256 < l1.length) = true := decide_eq_true (by omega)
     clear c6
     simp only [Option.some.injEq, Prod.mk.injEq] at H
     obtain ⟨rfl, rfl⟩ := H
     go_wp2
     go_ret2
     exact ⟨_, by first | rfl | (simp [errW_none, errW_some] <;> rfl) | (simp [*, errW_none, errW_some] <;> rfl), by first | exact Kd.R_nil _ _ _ _ _ | exact Kd.N_nil _ _ _ _ _ | exact Kd.V_nil _ _ _ _ _ | exact Kd.Q_nil _ _ _ _ _ | exact Kd.S_nil _ _ _ _ _, by repeat (first | (with_reducible first | exact HB.out | apply below_alloc | apply pw_below_drewN | apply below_drew1) | exact HB.out)⟩
    ·rw [if_neg c6] at H
     have c6b0 : decide (256 < (l1.length : Int)) = false := decide_eq_false c6
     have c6b1 : decide (256 < l1.length) = false := decide_eq_false (by omega)
     clear c6
     by_cases c7 : 0 ≤ a0
     ·rw [if_pos c7] at H
      have c7b0 := eq_true c7
      try (have c7b0q := c7b0; simp only [ByteArray.size_append, ByteArray.size_extract, Nat.min_self, Nat.sub_zero, Int.natCast_add] at c7b0q)
      have c7b1 : decide (0 ≤ a0) = true := decide_eq_true c7
      clear c7
      by_cases c8 : (a0 : Int).toNat ≤ 11728124029610
      ·rw [if_pos c8] at H
       have c8b0 := eq_true c8
       try (have c8b0q := c8b0; simp only [ByteArray.size_append, ByteArray.size_extract, Nat.min_self, Nat.sub_zero, Int.natCast_add] at c8b0q)
       have c8b1 : decide ((a0 : Int).toNat ≤ 11728124029610) = true := decide_eq_true c8
       clear c8
       obtain ⟨y275, hy275⟩ : ∃ y_ : List (S102), y_ = (List.replicate (a0 : Int).toNat z102) := ⟨_, rfl⟩
       replace H : (backoff_Contend.l0 kj2 a0 l1 y275 0 a0) = some (r1, r2) := by first | (rw [hy275]; with_reducible exact H) | (have H2_ := (Option.bind_some _ _).symm.trans H; rw [hy275]; with_reducible exact H2_) | (have H2_ := (Option.bind_some _ _).symm.trans H; with_reducible exact H2_) | with_reducible exact H | (rw [hy275]; exact H) | exact H
       have Ny275 := Aside0.mk hy275
       clear hy275
       have H' := Aside0.mk H
       clear H
       go_wp2_with (first | ((with_reducible refine gate_dst (N := 32) rfl ?_); refine Kd.R_make k102 _ 102 rfl (N := 32) rfl 100 _ _ rfl a0 rfl rfl Try.underlying100 (.agg #[(.int .i64 0), (.int .i64 0), (.int .i64 0)]) 24 info102 rfl (by decide) (by omega) z102 (ok := fun _ => True) (okp := fun _ => True) (k102_mkM _ _ _ z102 ) (fun _ hk => hk) trivial (of_decide_eq_true (by first | (with_reducible assumption) | assumption)) (Nat.le_trans (Nat.mul_le_mul_right _ (of_decide_eq_true (by first | (with_reducible assumption) | assumption) : a0.toNat ≤ 11728124029610)) (by omega)) (Below.refl _ _) (Nat.le_refl _) ?_; intro v276 w9 ho10 hb hg_ hnew_; clear hg_ hnew_; (first | rw [← Ny275.out] at ho10 | (simp only [Int.reduceToNat] at ho10; rw [← Ny275.out] at ho10)); have n0_ := Aside0.mk (Kd.R_lower ho10 (below_size (by repeat (first | (with_reducible first | exact HB.out | apply below_alloc | apply pw_below_drewN | apply below_drew1) | exact HB.out)))); have n1_ := Aside0.mk (below_step (by repeat (first | (with_reducible first | exact HB.out | apply below_alloc | apply pw_below_drewN | apply below_drew1) | exact HB.out)) hb); clear HB; have HO277 := n0_; have HB := n1_; clear n0_ n1_; clear hb ho10))
       go_loopg [7, 8] kj2 (fun kq v7 v8 w' => ∃ (x6_2 : List (S102)) (x7_2 : Int) (x8_2 : Int), v7 = .int .i64 x7_2 ∧ v8 = .int .i64 x8_2 ∧ Aside0 (backoff_Contend.l0 kq a0 l1 x6_2 x7_2 x8_2 = some (r1, r2)) ∧ Aside0 (kq ≤ kj2) ∧ Aside0 (Kd.R k102 102 w' w.heap.size (fun _ => True) v276 x6_2) ∧ Aside0 (Below w.heap.size w w'))
       case atStart => exact ⟨(y275), (0), (a0), (by first | rfl | (simp; done) | (simp [*]; done)), (by first | rfl | (simp; done) | (simp [*]; done)), H', ⟨Nat.le_refl _⟩, ⟨by (with_reducible repeat (first | apply Kd.R_alloc | apply Kd.R_drewN | apply Kd.R_drew)); exact HO277.out⟩, ⟨by repeat (first | (with_reducible first | exact HB.out | apply below_alloc | apply pw_below_drewN | apply below_drew1) | exact HB.out)⟩⟩
       case round =>
        clear H'
        try clear c1
        try clear p2
        try clear c4
        try clear c4b0
        try clear c5
        try clear c6
        try clear c6b0
        try clear c6b1
        try clear c7
        try clear c7b0
        try clear c7b1
        try clear c8
        try clear c8b0
        try clear c8b1
        try clear p2
        obtain ⟨x6_2, x7_2, x8_2, rfl, rfl, HA, HK2, HO_6, HB⟩ := hrel
        cases gk with
        | zero => exact absurd HA.out (by simp [backoff_Contend.l0])
        | succ k2 =>
         have H := HA.out
         clear HA
         simp only [backoff_Contend.l0] at H
         by_cases c11 : x8_2 > 0
         ·rw [if_pos c11] at H
          have c11b0 : decide (0 < x8_2) = true := decide_eq_true c11
          clear c11
          have H' := Aside0.mk H
          clear H
          obtain ⟨Ao12, co12, eo12⟩ := Kd.R_slice HO_6.out
          subst eo12
          go_wp2
          go_loopg [9, 38] k2 (fun kq v9 v38 w' => ∃ (x9_3 : List Int) (x38_3 : Int), v38 = .int .i64 x38_3 ∧ Aside0 (backoff_Contend.l1 kq a0 l1 x6_2 x7_2 x8_2 x9_3 x6_2 (x6_2.length : Int) x38_3 = some (r1, r2)) ∧ Aside0 (kq ≤ k2) ∧ Aside0 (Kd.R k102 102 w' w.heap.size (fun _ => True) (.slice Ao12 x6_2.length co12) x6_2) ∧ Aside0 (Kd.R (Kd.int .i64) 3 w' w.heap.size (fun _ => True) v9 x9_3) ∧ Aside0 (Kd.R k102 102 w' w.heap.size (fun _ => True) (.slice Ao12 x6_2.length co12) x6_2) ∧ Aside0 (Below w.heap.size w w'))
          case atStart => exact ⟨(([] : List Int)), (0), (by first | rfl | (simp; done) | (simp [*]; done)), H', ⟨Nat.le_refl _⟩, ⟨by (with_reducible repeat (first | apply Kd.R_alloc | apply Kd.R_drewN | apply Kd.R_drew)); exact HO_6.out⟩, ⟨by first | exact Kd.R_nil _ _ _ _ _ | exact Kd.N_nil _ _ _ _ _ | exact Kd.V_nil _ _ _ _ _ | exact Kd.Q_nil _ _ _ _ _ | exact Kd.S_nil _ _ _ _ _⟩, ⟨by (with_reducible repeat (first | apply Kd.R_alloc | apply Kd.R_drewN | apply Kd.R_drew)); exact HO_6.out⟩, ⟨by repeat (first | (with_reducible first | exact HB.out | apply below_alloc | apply pw_below_drewN | apply below_drew1) | exact HB.out)⟩⟩
          case round =>
           clear H'
           try clear c1
           try clear p2
           try clear c4
           try clear c4b0
           try clear c5
           try clear c6
           try clear c6b0
           try clear c6b1
           try clear c7
           try clear c7b0
           try clear c7b1
           try clear c8
           try clear c8b0
           try clear c8b1
           try clear c11
           try clear c11b0
           try clear p2
           obtain ⟨x9_3, x38_3, rfl, HA, HK3, HO_6, HO_9, HO_36, HB⟩ := hrel
           cases gk with
           | zero => exact absurd HA.out (by simp [backoff_Contend.l1])
           | succ k3 =>
            have H := HA.out
            clear HA
            simp only [backoff_Contend.l1] at H
            by_cases c13 : x38_3 < (x6_2.length : Int)
            ·rw [if_pos c13] at H
             have c13b0 : decide (x38_3 < (x6_2.length : Int)) = true := decide_eq_true c13
             clear c13
             by_cases c14 : 0 ≤ x38_3
             ·rw [if_pos c14] at H
              have c14b0 : decide (0 ≤ x38_3) = true := decide_eq_true c14
              clear c14
              by_cases c15 : x38_3 < (x6_2.length : Int)
              ·rw [if_pos c15] at H
               have c15b0 : decide (x38_3 < (x6_2.length : Int)) = true := decide_eq_true c15
               clear c15
               by_cases c16 : ((rd_T102 x6_2 x38_3).f0) < 0
               ·rw [if_pos c16] at H
                have c16b0 : decide (((rd_T102 x6_2 x38_3).f0) < 0) = true := decide_eq_true c16
                clear c16
                have H' := Aside0.mk H
                clear H
                have p278 : 0 ≤ (x38_3 : Int) := of_decide_eq_true (by first | (with_reducible assumption) | assumption)
                have q278 : x38_3 < (x6_2.length : Int) := of_decide_eq_true (by first | (with_reducible assumption) | assumption)
                obtain ⟨ad278, e278, hx278_0, hx278_1, hx278_2⟩ := at_T102 (Kd.R_reads' HO_36.out).2.2 x38_3 p278 q278
                cases e278
                replace p278 := eq_true p278
                replace q278 := eq_true q278
                go_wp2_with (first | ((with_reducible refine gate_dst (N := 11) rfl ?_); refine box_event ?hg (N := 11) ?hd (cs := #[.int .i64 0, .int .i64 0, .int .i64 0]) (t := 102) ?hr ?_; (case hd => rfl); (case hg => rfl); (case hr => first | (go_simp; done) | (go_simp; rfl)); intro gb279 hg w17 hbox hb; have n0_ := Aside0.mk (Kd.R_below (Kd.R_elderB (by (with_reducible repeat (first | apply Kd.R_alloc | apply Kd.R_drewN | apply Kd.R_drew)); exact HO_6.out) gb279 (Nat.le_of_eq hg.symm)) hb); have n1_ := Aside0.mk (Kd.R_below (by (with_reducible repeat (first | apply Kd.R_alloc | apply Kd.R_drewN | apply Kd.R_drew)); exact HO_9.out) hb); have n2_ := Aside0.mk (Kd.R_below (Kd.R_elderB (by (with_reducible repeat (first | apply Kd.R_alloc | apply Kd.R_drewN | apply Kd.R_drew)); exact HO_36.out) gb279 (Nat.le_of_eq hg.symm)) hb); have n3_ := Aside0.mk (below_step (by repeat (first | (with_reducible first | exact HB.out | apply below_alloc | apply pw_below_drewN | apply below_drew1) | exact HB.out)) hb); have n4_ := Aside0.mk (hbox); have n5_ := Aside0.mk ((by rw [hg]; exact (below_size (by repeat (first | (with_reducible first | exact HB.out | apply below_alloc | apply pw_below_drewN | apply below_drew1) | exact HB.out))) : w.heap.size ≤ gb279)); have n6_ := Aside0.mk ((by rw [hg]; exact (below_size (by repeat (first | (with_reducible first | exact HB.out | apply below_alloc | apply pw_below_drewN | apply below_drew1) | exact HB.out))) : w.heap.size ≤ gb279)); clear HO_6; clear HO_9; clear HO_36; clear HB; have HO_6 := n0_; have HO_9 := n1_; have HO_36 := n2_; have HB := n3_; have BK279 := n4_; have GW279 := n5_; have GE279 := n6_; clear n0_ n1_ n2_ n3_ n4_ n5_ n6_; clear hb hbox hg; have hcz18_0 : w17.cell? ⟨gb279, 0, none⟩ = some (.int .i64 0) := (blk_cell BK279.out 0).trans rfl; have hcz18_1 : w17.cell? ⟨gb279, 1, none⟩ = some (.int .i64 0) := (blk_cell BK279.out 1).trans rfl; have hcz18_2 : w17.cell? ⟨gb279, 2, none⟩ = some (.int .i64 0) := (blk_cell BK279.out 2).trans rfl; have hfz18_0 := blk_frozen BK279.out 0; have hfz18_1 := blk_frozen BK279.out 1; have hfz18_2 := blk_frozen BK279.out 2))
                go_roundg k3
                case measure => have := HJ2.out; have := HK2.out; have := HK3.out; omega
                case rel => exact ⟨(x9_3), (wrap64 (x38_3 + 1)), (by first | rfl | (simp; done) | (simp [*]; done)), H', ⟨by have := HJ2.out; have := HK2.out; have := HK3.out; omega⟩, ⟨by (with_reducible repeat (first | apply Kd.R_alloc | apply Kd.R_drewN | apply Kd.R_drew)); exact Kd.R_mono (Kd.R_far (p := ⟨gb279, 2, none⟩) (Kd.R_far (p := ⟨gb279, 1, none⟩) (Kd.R_far (p := ⟨gb279, 0, none⟩) (Kd.R_mono HO_6.out (fun k_ hk => (⟨hk, hk.2⟩ : _ ∧ k_ ≠ gb279))) (fun _ hk => hk.2) (.int .i64 ((rd_T102 x6_2 x38_3).f0))) (fun _ hk => hk.2) (.int .i64 ((rd_T102 x6_2 x38_3).f1))) (fun _ hk => hk.2) (.int .i64 ((rd_T102 x6_2 x38_3).f2))) (fun _ hk => trivial)⟩, ⟨by (with_reducible repeat (first | apply Kd.R_alloc | apply Kd.R_drewN | apply Kd.R_drew)); exact Kd.R_mono (Kd.R_far (p := ⟨gb279, 2, none⟩) (Kd.R_far (p := ⟨gb279, 1, none⟩) (Kd.R_far (p := ⟨gb279, 0, none⟩) (Kd.R_types HO_9.out BK279.out (by decide)) (fun _ hk => hk.2) (.int .i64 ((rd_T102 x6_2 x38_3).f0))) (fun _ hk => hk.2) (.int .i64 ((rd_T102 x6_2 x38_3).f1))) (fun _ hk => hk.2) (.int .i64 ((rd_T102 x6_2 x38_3).f2))) (fun _ hk => trivial)⟩, ⟨by (with_reducible repeat (first | apply Kd.R_alloc | apply Kd.R_drewN | apply Kd.R_drew)); exact Kd.R_mono (Kd.R_far (p := ⟨gb279, 2, none⟩) (Kd.R_far (p := ⟨gb279, 1, none⟩) (Kd.R_far (p := ⟨gb279, 0, none⟩) (Kd.R_mono HO_36.out (fun k_ hk => (⟨hk, hk.2⟩ : _ ∧ k_ ≠ gb279))) (fun _ hk => hk.2) (.int .i64 ((rd_T102 x6_2 x38_3).f0))) (fun _ hk => hk.2) (.int .i64 ((rd_T102 x6_2 x38_3).f1))) (fun _ hk => hk.2) (.int .i64 ((rd_T102 x6_2 x38_3).f2))) (fun _ hk => trivial)⟩, ⟨by repeat (first | (with_reducible first | exact HB.out | apply below_alloc | apply pw_below_drewN | apply below_drew1 | refine below_set ?_ GE279.out) | exact HB.out)⟩⟩
               ·rw [if_neg c16] at H
                have c16b0 : decide (((rd_T102 x6_2 x38_3).f0) < 0) = false := decide_eq_false c16
                clear c16
                have HC19 := Aside0.mk H
                clear H
                have p278 : 0 ≤ (x38_3 : Int) := of_decide_eq_true (by first | (with_reducible assumption) | assumption)
                have q278 : x38_3 < (x6_2.length : Int) := of_decide_eq_true (by first | (with_reducible assumption) | assumption)
                obtain ⟨ad278, e278, hx278_0, hx278_1, hx278_2⟩ := at_T102 (Kd.R_reads' HO_36.out).2.2 x38_3 p278 q278
                cases e278
                replace p278 := eq_true p278
                replace q278 := eq_true q278
                go_upto_region 14 with (first | ((with_reducible refine gate_dst (N := 11) rfl ?_); refine box_event ?hg (N := 11) ?hd (cs := #[.int .i64 0, .int .i64 0, .int .i64 0]) (t := 102) ?hr ?_; (case hd => rfl); (case hg => rfl); (case hr => first | (go_simp; done) | (go_simp; rfl)); intro gb279 hg w20 hbox hb; have n0_ := Aside0.mk (Kd.R_below (Kd.R_elderB (by (with_reducible repeat (first | apply Kd.R_alloc | apply Kd.R_drewN | apply Kd.R_drew)); exact HO_6.out) gb279 (Nat.le_of_eq hg.symm)) hb); have n1_ := Aside0.mk (Kd.R_below (by (with_reducible repeat (first | apply Kd.R_alloc | apply Kd.R_drewN | apply Kd.R_drew)); exact HO_9.out) hb); have n2_ := Aside0.mk (Kd.R_below (Kd.R_elderB (by (with_reducible repeat (first | apply Kd.R_alloc | apply Kd.R_drewN | apply Kd.R_drew)); exact HO_36.out) gb279 (Nat.le_of_eq hg.symm)) hb); have n3_ := Aside0.mk (below_step (by repeat (first | (with_reducible first | exact HB.out | apply below_alloc | apply pw_below_drewN | apply below_drew1) | exact HB.out)) hb); have n4_ := Aside0.mk (hbox); have n5_ := Aside0.mk ((by rw [hg]; exact (below_size (by repeat (first | (with_reducible first | exact HB.out | apply below_alloc | apply pw_below_drewN | apply below_drew1) | exact HB.out))) : w.heap.size ≤ gb279)); have n6_ := Aside0.mk ((by rw [hg]; exact (below_size (by repeat (first | (with_reducible first | exact HB.out | apply below_alloc | apply pw_below_drewN | apply below_drew1) | exact HB.out))) : w.heap.size ≤ gb279)); clear HO_6; clear HO_9; clear HO_36; clear HB; have HO_6 := n0_; have HO_9 := n1_; have HO_36 := n2_; have HB := n3_; have BK279 := n4_; have GW279 := n5_; have GE279 := n6_; clear n0_ n1_ n2_ n3_ n4_ n5_ n6_; clear hb hbox hg; have hcz21_0 : w20.cell? ⟨gb279, 0, none⟩ = some (.int .i64 0) := (blk_cell BK279.out 0).trans rfl; have hcz21_1 : w20.cell? ⟨gb279, 1, none⟩ = some (.int .i64 0) := (blk_cell BK279.out 1).trans rfl; have hcz21_2 : w20.cell? ⟨gb279, 2, none⟩ = some (.int .i64 0) := (blk_cell BK279.out 2).trans rfl; have hfz21_0 := blk_frozen BK279.out 0; have hfz21_1 := blk_frozen BK279.out 1; have hfz21_2 := blk_frozen BK279.out 2))
                (try simp only [Act.put, List.setIfInBounds_toArray, List.set_cons_zero, List.set_cons_succ])
                go_cut [60] (fun v60 wc => ∃ (kq : Nat) (x60_18 : Bool), v60 = .bool x60_18 ∧ Aside0 (backoff_Contend.j3 kq a0 l1 x6_2 x7_2 x8_2 x9_3 x38_3 x6_2 (x6_2.length : Int) x38_3 x60_18 ((rd_T102 x6_2 x38_3).f0) ((rd_T102 x6_2 x38_3).f1) ((rd_T102 x6_2 x38_3).f2) = some (r1, r2)) ∧ Aside0 (kq ≤ k3) ∧ Aside0 (Kd.R k102 102 wc w.heap.size (fun k_ => k_ ≠ gb279) (.slice (some ad278) x6_2.length co12) x6_2) ∧ Aside0 (Kd.R (Kd.int .i64) 3 wc w.heap.size (fun _ => True) u9 x9_3) ∧ Aside0 (Kd.R k102 102 wc w.heap.size (fun k_ => k_ ≠ gb279) (.slice (some ad278) x6_2.length co12) x6_2) ∧ Aside0 (wc.heap[gb279]? = some (.cells #[.int .i64 ((rd_T102 x6_2 x38_3).f0), .int .i64 ((rd_T102 x6_2 x38_3).f1), .int .i64 ((rd_T102 x6_2 x38_3).f2)] 102 (0, 0))) ∧ Aside0 (Below w.heap.size w wc))
                case first =>
                 have H := HC19.out
                 clear HC19
                 by_cases c22 : (x9_3.length : Int) > 0
                 ·rw [if_pos c22] at H
                  have c22b0 : decide (0 < (x9_3.length : Int)) = true := decide_eq_true c22
                  have c22b1 : decide (0 < x9_3.length) = true := decide_eq_true (by omega)
                  clear c22
                  (first | rw [c22b0] | (simp only [i64_w, i32_w]; rw [c22b0]) | skip)
                  by_cases c23 : 0 < (x9_3.length : Int)
                  ·rw [if_pos c23] at H
                   have c23b0 : decide (0 < (x9_3.length : Int)) = true := decide_eq_true c23
                   have c23b1 : decide (0 < x9_3.length) = true := decide_eq_true (by omega)
                   clear c23
                   by_cases c24 : 0 ≤ (rd x9_3 0)
                   ·rw [if_pos c24] at H
                    have c24b0 : decide (0 ≤ (rd x9_3 0)) = true := decide_eq_true c24
                    clear c24
                    by_cases c25 : (rd x9_3 0) < (x6_2.length : Int)
                    ·rw [if_pos c25] at H
                     have c25b0 : decide ((rd x9_3 0) < (x6_2.length : Int)) = true := decide_eq_true c25
                     clear c25
                     have H' := Aside0.mk H
                     clear H
                     try go_wp2
                     have n0_ : Aside0 (Kd.R k102 102 (((w20.setCell ⟨gb279, 0, none⟩ (.int .i64 ((rd_T102 x6_2 x38_3).f0))).setCell ⟨gb279, 1, none⟩ (.int .i64 ((rd_T102 x6_2 x38_3).f1))).setCell ⟨gb279, 2, none⟩ (.int .i64 ((rd_T102 x6_2 x38_3).f2))) w.heap.size (fun k_ => k_ ≠ gb279) (.slice (some ad278) x6_2.length co12) x6_2) := ⟨by (with_reducible repeat (first | apply Kd.R_alloc | apply Kd.R_drewN | apply Kd.R_drew)); exact Kd.R_mono (Kd.R_far (p := ⟨gb279, 2, none⟩) (Kd.R_far (p := ⟨gb279, 1, none⟩) (Kd.R_far (p := ⟨gb279, 0, none⟩) (Kd.R_mono HO_6.out (fun k_ hk => (⟨hk, hk.2⟩ : _ ∧ k_ ≠ gb279))) (fun _ hk => hk.2) (.int .i64 ((rd_T102 x6_2 x38_3).f0))) (fun _ hk => hk.2) (.int .i64 ((rd_T102 x6_2 x38_3).f1))) (fun _ hk => hk.2) (.int .i64 ((rd_T102 x6_2 x38_3).f2))) (fun _ hk => hk.1.2)⟩
                     have n1_ : Aside0 (Kd.R (Kd.int .i64) 3 (((w20.setCell ⟨gb279, 0, none⟩ (.int .i64 ((rd_T102 x6_2 x38_3).f0))).setCell ⟨gb279, 1, none⟩ (.int .i64 ((rd_T102 x6_2 x38_3).f1))).setCell ⟨gb279, 2, none⟩ (.int .i64 ((rd_T102 x6_2 x38_3).f2))) w.heap.size (fun _ => True) u9 x9_3) := ⟨by (with_reducible repeat (first | apply Kd.R_alloc | apply Kd.R_drewN | apply Kd.R_drew)); exact Kd.R_mono (Kd.R_far (p := ⟨gb279, 2, none⟩) (Kd.R_far (p := ⟨gb279, 1, none⟩) (Kd.R_far (p := ⟨gb279, 0, none⟩) (Kd.R_types HO_9.out BK279.out (by decide)) (fun _ hk => hk.2) (.int .i64 ((rd_T102 x6_2 x38_3).f0))) (fun _ hk => hk.2) (.int .i64 ((rd_T102 x6_2 x38_3).f1))) (fun _ hk => hk.2) (.int .i64 ((rd_T102 x6_2 x38_3).f2))) (fun _ hk => trivial)⟩
                     have n2_ : Aside0 (Kd.R k102 102 (((w20.setCell ⟨gb279, 0, none⟩ (.int .i64 ((rd_T102 x6_2 x38_3).f0))).setCell ⟨gb279, 1, none⟩ (.int .i64 ((rd_T102 x6_2 x38_3).f1))).setCell ⟨gb279, 2, none⟩ (.int .i64 ((rd_T102 x6_2 x38_3).f2))) w.heap.size (fun k_ => k_ ≠ gb279) (.slice (some ad278) x6_2.length co12) x6_2) := ⟨by (with_reducible repeat (first | apply Kd.R_alloc | apply Kd.R_drewN | apply Kd.R_drew)); exact Kd.R_mono (Kd.R_far (p := ⟨gb279, 2, none⟩) (Kd.R_far (p := ⟨gb279, 1, none⟩) (Kd.R_far (p := ⟨gb279, 0, none⟩) (Kd.R_mono HO_36.out (fun k_ hk => (⟨hk, hk.2⟩ : _ ∧ k_ ≠ gb279))) (fun _ hk => hk.2) (.int .i64 ((rd_T102 x6_2 x38_3).f0))) (fun _ hk => hk.2) (.int .i64 ((rd_T102 x6_2 x38_3).f1))) (fun _ hk => hk.2) (.int .i64 ((rd_T102 x6_2 x38_3).f2))) (fun _ hk => hk.1.2)⟩
                     have n3_ : Aside0 ((((w20.setCell ⟨gb279, 0, none⟩ (.int .i64 ((rd_T102 x6_2 x38_3).f0))).setCell ⟨gb279, 1, none⟩ (.int .i64 ((rd_T102 x6_2 x38_3).f1))).setCell ⟨gb279, 2, none⟩ (.int .i64 ((rd_T102 x6_2 x38_3).f2))).heap[gb279]? = some (.cells #[.int .i64 ((rd_T102 x6_2 x38_3).f0), .int .i64 ((rd_T102 x6_2 x38_3).f1), .int .i64 ((rd_T102 x6_2 x38_3).f2)] 102 (0, 0))) := ⟨by (with_reducible repeat (first | refine blk_drewN ?_ _ | refine blk_drew ?_ | refine blk_alloc ?_ _)); refine blk_put (cs := #[.int .i64 ((rd_T102 x6_2 x38_3).f0), .int .i64 ((rd_T102 x6_2 x38_3).f1), .int .i64 0]) ?_ 2 _ rfl; (with_reducible repeat (first | refine blk_drewN ?_ _ | refine blk_drew ?_ | refine blk_alloc ?_ _)); refine blk_put (cs := #[.int .i64 ((rd_T102 x6_2 x38_3).f0), .int .i64 0, .int .i64 0]) ?_ 1 _ rfl; (with_reducible repeat (first | refine blk_drewN ?_ _ | refine blk_drew ?_ | refine blk_alloc ?_ _)); refine blk_put (cs := #[.int .i64 0, .int .i64 0, .int .i64 0]) ?_ 0 _ rfl; (with_reducible repeat (first | refine blk_drewN ?_ _ | refine blk_drew ?_ | refine blk_alloc ?_ _)); exact BK279.out⟩
                     have n4_ : Aside0 (Below w.heap.size w (((w20.setCell ⟨gb279, 0, none⟩ (.int .i64 ((rd_T102 x6_2 x38_3).f0))).setCell ⟨gb279, 1, none⟩ (.int .i64 ((rd_T102 x6_2 x38_3).f1))).setCell ⟨gb279, 2, none⟩ (.int .i64 ((rd_T102 x6_2 x38_3).f2)))) := ⟨by repeat (first | (with_reducible first | exact HB.out | apply below_alloc | apply pw_below_drewN | apply below_drew1 | refine below_set ?_ GE279.out) | exact HB.out)⟩
                     (try clear HO_6)
                     (try clear HO_9)
                     (try clear HO_36)
                     (try clear BK279)
                     (try clear HB)
                     generalize (((w20.setCell ⟨gb279, 0, none⟩ (.int .i64 ((rd_T102 x6_2 x38_3).f0))).setCell ⟨gb279, 1, none⟩ (.int .i64 ((rd_T102 x6_2 x38_3).f1))).setCell ⟨gb279, 2, none⟩ (.int .i64 ((rd_T102 x6_2 x38_3).f2))) = w26 at n0_ n1_ n2_ n3_ n4_ ⊢
                     have HO_6 := n0_
                     have HO_9 := n1_
                     have HO_36 := n2_
                     have BK279 := n3_
                     have HB := n4_
                     clear n0_ n1_ n2_ n3_ n4_
                     have n0_ := Aside0.mk (Kd.R_drew HO_6.out)
                     have n1_ := Aside0.mk (Kd.R_drew HO_9.out)
                     have n2_ := Aside0.mk (Kd.R_drew HO_36.out)
                     have n3_ := Aside0.mk (blk_drew BK279.out)
                     have n4_ := Aside0.mk (below_drew1 HB.out)
                     clear HO_6
                     clear HO_9
                     clear HO_36
                     clear BK279
                     clear HB
                     have HO_6 := n0_
                     have HO_9 := n1_
                     have HO_36 := n2_
                     have BK279 := n3_
                     have HB := n4_
                     clear n0_ n1_ n2_ n3_ n4_
                     obtain ⟨Ao28, co28, eo28⟩ := Kd.R_slice HO_9.out
                     (first | subst eo28 | (injection eo28 with f1_ f2_ f3_; have f4_ := f1_.symm; have f5_ := f3_.symm; clear f1_ f2_ f3_; subst f4_; subst f5_))
                     have p280 : 0 ≤ (0 : Int) := (by omega)
                     have q280 : 0 < (x9_3.length : Int) := of_decide_eq_true (by first | (with_reducible assumption) | assumption)
                     obtain ⟨ad280, e280, hx280_0⟩ := Kd.at_int (Kd.R_reads' HO_9.out).2.2 0 p280 q280
                     cases e280
                     have qi280 : (0 < x9_3.length) = True := eq_true (by omega)
                     (try rw [show ((0 : Int)).toNat = 0 from rfl] at hx280_0)
                     (try rw [Addr.add_zero'] at hx280_0)
                     replace p280 := eq_true p280
                     replace q280 := eq_true q280
                     have p281 : 0 ≤ ((rd x9_3 0) : Int) := of_decide_eq_true (by first | (with_reducible assumption) | assumption)
                     have q281 : (rd x9_3 0) < (x6_2.length : Int) := of_decide_eq_true (by first | (with_reducible assumption) | assumption)
                     obtain ⟨ad281, e281, hx281_0, hx281_1, hx281_2⟩ := at_T102 (Kd.R_reads' HO_6.out).2.2 (rd x9_3 0) p281 q281
                     obtain rfl : ad278 = ad281 := (by injection e281)
                     replace p281 := eq_true p281
                     replace q281 := eq_true q281
                     refine start_ (n := 15) (S := fun w' => w'.cell? ⟨gb279, 0, none⟩ = some (.int .i64 ((rd_T102 x6_2 x38_3).f0)) ∧ w'.cell? ⟨gb279, 1, none⟩ = some (.int .i64 ((rd_T102 x6_2 x38_3).f1)) ∧ w'.cell? ⟨gb279, 2, none⟩ = some (.int .i64 ((rd_T102 x6_2 x38_3).f2)) ∧ w'.cell? ad280 = some (.int .i64 (rd x9_3 0)) ∧ w'.cell? (ad278.add (((rd x9_3 0)).toNat * 3)) = some (.int .i64 ((rd_T102 x6_2 (rd x9_3 0)).f0)) ∧ w'.cell? ⟨(ad278.add (((rd x9_3 0)).toNat * 3)).block, (ad278.add (((rd x9_3 0)).toNat * 3)).off + 1, none⟩ = some (.int .i64 ((rd_T102 x6_2 (rd x9_3 0)).f1)) ∧ w'.cell? ⟨(ad278.add (((rd x9_3 0)).toNat * 3)).block, (ad278.add (((rd x9_3 0)).toNat * 3)).off + 2, none⟩ = some (.int .i64 ((rd_T102 x6_2 (rd x9_3 0)).f2))) (ds := []) #[false, false, false, false, false, false, false, false, false, false, false, false, false, false, false] (by kernel_rfl) rfl rfl ⟨(blk_cell BK279.out 0).trans rfl, (blk_cell BK279.out 1).trans rfl, (blk_cell BK279.out 2).trans rfl, hx280_0, hx281_0, hx281_1, hx281_2⟩ (fun hHeld => ?_); refine with_tabW backoff_Contend.tab14 backoff_Contend.bits14 (fun HT_ HW_ => ?_)
                     generalize w26.drew = w27 at HO_6 HO_9 HO_36 BK279 HB hx280_0 hx281_0 hx281_1 hx281_2 hHeld ⊢
                     refine pure_ (i := 0) (N := some 46) (v := ?_) (a' := ?_) #[true, false, false, false, false, false, false, false, false, false, false, false, false, false, false] rfl rfl (any_of HT_.out (by kernel_rfl)) (fun _ _ _ h => h) (Or.inl ⟨by rfl, ?_⟩) ?_ ?_
                     rotate_left
                     ·intro w'
                      go_simp
                      with_reducible rfl
                     rotate_left
                     ·simp only [Act.put, List.setIfInBounds_toArray, List.set_cons_zero, List.set_cons_succ, i64_w, i32_w]
                      rfl
                     refine pure_ (i := 1) (N := some 47) (v := ?_) (a' := ?_) #[true, true, false, false, false, false, false, false, false, false, false, false, false, false, false] rfl rfl (any_of HT_.out (by kernel_rfl)) (fun _ _ _ h => h) (Or.inl ⟨by rfl, ?_⟩) ?_ ?_
                     rotate_left
                     ·intro w'
                      go_simp
                      with_reducible rfl
                     rotate_left
                     ·simp only [Act.put, List.setIfInBounds_toArray, List.set_cons_zero, List.set_cons_succ, i64_w, i32_w]
                      rfl
                     refine pure_ (i := 2) (N := some 48) (v := ?_) (a' := ?_) #[true, true, true, false, false, false, false, false, false, false, false, false, false, false, false] rfl rfl (any_of HT_.out (by kernel_rfl)) (fun _ _ _ h => h) (Or.inl ⟨by rfl, ?_⟩) ?_ ?_
                     rotate_left
                     ·intro w'
                      go_simp
                      with_reducible rfl
                     rotate_left
                     ·simp only [Act.put, List.setIfInBounds_toArray, List.set_cons_zero, List.set_cons_succ, i64_w, i32_w]
                      rfl
                     refine pure_ (i := 3) (N := some 49) (v := ?_) (a' := ?_) #[true, true, true, true, false, false, false, false, false, false, false, false, false, false, false] rfl rfl (any_of HT_.out (by kernel_rfl)) (fun _ _ _ h => h) (Or.inl ⟨by rfl, ?_⟩) ?_ ?_
                     rotate_left
                     ·intro w'
                      go_simp
                      with_reducible rfl
                     rotate_left
                     ·simp only [Act.put, List.setIfInBounds_toArray, List.set_cons_zero, List.set_cons_succ, i64_w, i32_w]
                      rfl
                     refine pure_ (i := 4) (N := some 50) (v := ?_) (a' := ?_) #[true, true, true, true, true, false, false, false, false, false, false, false, false, false, false] rfl rfl (any_of HT_.out (by kernel_rfl)) (fun _ _ _ h => h) (Or.inl ⟨by rfl, ?_⟩) ?_ ?_
                     rotate_left
                     ·intro w'
                      go_simp
                      with_reducible rfl
                     rotate_left
                     ·simp only [Act.put, List.setIfInBounds_toArray, List.set_cons_zero, List.set_cons_succ, i64_w, i32_w]
                      rfl
                     refine pure_ (i := 6) (N := some 52) (v := ?_) (a' := ?_) #[true, true, true, true, true, false, true, false, false, false, false, false, false, false, false] rfl rfl (any_of HT_.out (by kernel_rfl)) (fun _ _ _ h => h) (Or.inl ⟨by rfl, ?_⟩) ?_ ?_
                     rotate_left
                     ·intro w'
                      go_simp
                      with_reducible rfl
                     rotate_left
                     ·simp only [Act.put, List.setIfInBounds_toArray, List.set_cons_zero, List.set_cons_succ, i64_w, i32_w]
                      rfl
                     refine pure_ (i := 7) (N := some 53) (v := ?_) (a' := ?_) #[true, true, true, true, true, false, true, true, false, false, false, false, false, false, false] rfl rfl (any_of HT_.out (by kernel_rfl)) (fun _ _ _ h => h) (Or.inl ⟨by rfl, ?_⟩) ?_ ?_
                     rotate_left
                     ·intro w'
                      go_simp
                      with_reducible rfl
                     rotate_left
                     ·simp only [Act.put, List.setIfInBounds_toArray, List.set_cons_zero, List.set_cons_succ, i64_w, i32_w]
                      rfl
                     refine pure_ (i := 8) (N := some 54) (v := ?_) (a' := ?_) #[true, true, true, true, true, false, true, true, true, false, false, false, false, false, false] rfl rfl (any_of HT_.out (by kernel_rfl)) (fun _ _ _ h => h) (Or.inl ⟨by rfl, ?_⟩) ?_ ?_
                     rotate_left
                     ·intro w'
                      go_simp
                      with_reducible rfl
                     rotate_left
                     ·simp only [Act.put, List.setIfInBounds_toArray, List.set_cons_zero, List.set_cons_succ, i64_w, i32_w]
                      rfl
                     refine take_ (i := 5) (N := some 51) (v := ?_) (a' := ?_) #[true, true, true, true, true, true, true, true, true, false, false, false, false, false, false] rfl rfl (take_ofW HT_.out HW_.out (by kernel_rfl)) (fun _ _ _ h => h) (Or.inl ⟨by rfl, ?_⟩) hHeld ?_ ?_
                     rotate_left
                     ·rintro w' ⟨s0, s1, s2, s3, s4, s5, s6⟩
                      go_simp
                      with_reducible rfl
                     rotate_left
                     ·simp only [Act.put, List.setIfInBounds_toArray, List.set_cons_zero, List.set_cons_succ, i64_w, i32_w]
                      rfl
                     refine take_ (i := 9) (N := some 55) (v := ?_) (a' := ?_) #[true, true, true, true, true, true, true, true, true, true, false, false, false, false, false] rfl rfl (take_ofW HT_.out HW_.out (by kernel_rfl)) (fun _ _ _ h => h) (Or.inl ⟨by rfl, ?_⟩) hHeld ?_ ?_
                     rotate_left
                     ·rintro w' ⟨s0, s1, s2, s3, s4, s5, s6⟩
                      go_simp
                      with_reducible rfl
                     rotate_left
                     ·simp only [Act.put, List.setIfInBounds_toArray, List.set_cons_zero, List.set_cons_succ, i64_w, i32_w]
                      rfl
                     refine pure_ (i := 10) (N := some 56) (v := ?_) (a' := ?_) #[true, true, true, true, true, true, true, true, true, true, true, false, false, false, false] rfl rfl (any_of HT_.out (by kernel_rfl)) (fun _ _ _ h => h) (Or.inl ⟨by rfl, ?_⟩) ?_ ?_
                     rotate_left
                     ·intro w'
                      go_simp
                      with_reducible rfl
                     rotate_left
                     ·simp only [Act.put, List.setIfInBounds_toArray, List.set_cons_zero, List.set_cons_succ, i64_w, i32_w]
                      rfl
                     refine pure_ (i := 11) (N := some 57) (v := ?_) (a' := ?_) #[true, true, true, true, true, true, true, true, true, true, true, true, false, false, false] rfl rfl (any_of HT_.out (by kernel_rfl)) (fun _ _ _ h => h) (Or.inl ⟨by rfl, ?_⟩) ?_ ?_
                     rotate_left
                     ·intro w'
                      go_simp
                      with_reducible rfl
                     rotate_left
                     ·simp only [Act.put, List.setIfInBounds_toArray, List.set_cons_zero, List.set_cons_succ, i64_w, i32_w]
                      rfl
                     refine take_ (i := 12) (N := some 58) (v := ?_) (a' := ?_) #[true, true, true, true, true, true, true, true, true, true, true, true, true, false, false] rfl rfl (take_ofW HT_.out HW_.out (by kernel_rfl)) (fun _ _ _ h => h) (Or.inl ⟨by rfl, ?_⟩) hHeld ?_ ?_
                     rotate_left
                     ·rintro w' ⟨s0, s1, s2, s3, s4, s5, s6⟩
                      go_simp
                      with_reducible rfl
                     rotate_left
                     ·simp only [Act.put, List.setIfInBounds_toArray, List.set_cons_zero, List.set_cons_succ, i64_w, i32_w]
                      rfl
                     refine pure_ (i := 13) (N := some 59) (v := ?_) (a' := ?_) #[true, true, true, true, true, true, true, true, true, true, true, true, true, true, false] rfl rfl (any_of HT_.out (by kernel_rfl)) (fun _ _ _ h => h) (Or.inl ⟨by rfl, ?_⟩) ?_ ?_
                     rotate_left
                     ·intro w'
                      go_simp
                      with_reducible rfl
                     rotate_left
                     ·simp only [Act.put, List.setIfInBounds_toArray, List.set_cons_zero, List.set_cons_succ, i64_w, i32_w]
                      rfl
                     refine pure_ (i := 14) (N := some 60) (v := ?_) (a' := ?_) #[true, true, true, true, true, true, true, true, true, true, true, true, true, true, true] rfl rfl (any_of HT_.out (by kernel_rfl)) (fun _ _ _ h => h) (Or.inl ⟨by rfl, ?_⟩) ?_ ?_
                     rotate_left
                     ·intro w'
                      go_simp
                      with_reducible rfl
                     rotate_left
                     ·simp only [Act.put, List.setIfInBounds_toArray, List.set_cons_zero, List.set_cons_succ, i64_w, i32_w]
                      rfl
                     refine done_ (done_of HT_.out (by kernel_rfl)) ?_
                     try go_wp2
                     go_meet
                     case rel => exact ⟨_, (decide (((rd_T102 x6_2 x38_3).f0) < ((rd_T102 x6_2 (rd x9_3 0)).f0))), (by first | rfl | (simp; done) | (simp [*]; done)), H', ⟨by have := HJ2.out; have := HK2.out; have := HK3.out; first | omega | exact Nat.le_refl _⟩, ⟨by (with_reducible repeat (first | apply Kd.R_alloc | apply Kd.R_drewN | apply Kd.R_drew)); exact HO_6.out⟩, ⟨by (with_reducible repeat (first | apply Kd.R_alloc | apply Kd.R_drewN | apply Kd.R_drew)); exact HO_9.out⟩, ⟨by (with_reducible repeat (first | apply Kd.R_alloc | apply Kd.R_drewN | apply Kd.R_drew)); exact HO_36.out⟩, ⟨by (with_reducible repeat (first | refine blk_drewN ?_ _ | refine blk_drew ?_ | refine blk_alloc ?_ _)); exact BK279.out⟩, ⟨by repeat (first | (with_reducible first | exact HB.out | apply below_alloc | apply pw_below_drewN | apply below_drew1 | refine below_set ?_ GE279.out) | exact HB.out)⟩⟩
                    ·rw [if_neg c25] at H
                     exact absurd H (by simp)
                   ·rw [if_neg c24] at H
                    exact absurd H (by simp)
                  ·rw [if_neg c23] at H
                   exact absurd H (by simp)
                 ·rw [if_neg c22] at H
                  have c22b0 : decide (0 < (x9_3.length : Int)) = false := decide_eq_false c22
                  have c22b1 : decide (0 < x9_3.length) = false := decide_eq_false (by omega)
                  clear c22
                  (first | rw [c22b0] | (simp only [i64_w, i32_w]; rw [c22b0]) | skip)
                  have H' := Aside0.mk H
                  clear H
                  try go_wp2
                  have n0_ : Aside0 (Kd.R k102 102 (((w20.setCell ⟨gb279, 0, none⟩ (.int .i64 ((rd_T102 x6_2 x38_3).f0))).setCell ⟨gb279, 1, none⟩ (.int .i64 ((rd_T102 x6_2 x38_3).f1))).setCell ⟨gb279, 2, none⟩ (.int .i64 ((rd_T102 x6_2 x38_3).f2))) w.heap.size (fun k_ => k_ ≠ gb279) (.slice (some ad278) x6_2.length co12) x6_2) := ⟨by (with_reducible repeat (first | apply Kd.R_alloc | apply Kd.R_drewN | apply Kd.R_drew)); exact Kd.R_mono (Kd.R_far (p := ⟨gb279, 2, none⟩) (Kd.R_far (p := ⟨gb279, 1, none⟩) (Kd.R_far (p := ⟨gb279, 0, none⟩) (Kd.R_mono HO_6.out (fun k_ hk => (⟨hk, hk.2⟩ : _ ∧ k_ ≠ gb279))) (fun _ hk => hk.2) (.int .i64 ((rd_T102 x6_2 x38_3).f0))) (fun _ hk => hk.2) (.int .i64 ((rd_T102 x6_2 x38_3).f1))) (fun _ hk => hk.2) (.int .i64 ((rd_T102 x6_2 x38_3).f2))) (fun _ hk => hk.1.2)⟩
                  have n1_ : Aside0 (Kd.R (Kd.int .i64) 3 (((w20.setCell ⟨gb279, 0, none⟩ (.int .i64 ((rd_T102 x6_2 x38_3).f0))).setCell ⟨gb279, 1, none⟩ (.int .i64 ((rd_T102 x6_2 x38_3).f1))).setCell ⟨gb279, 2, none⟩ (.int .i64 ((rd_T102 x6_2 x38_3).f2))) w.heap.size (fun _ => True) u9 x9_3) := ⟨by (with_reducible repeat (first | apply Kd.R_alloc | apply Kd.R_drewN | apply Kd.R_drew)); exact Kd.R_mono (Kd.R_far (p := ⟨gb279, 2, none⟩) (Kd.R_far (p := ⟨gb279, 1, none⟩) (Kd.R_far (p := ⟨gb279, 0, none⟩) (Kd.R_types HO_9.out BK279.out (by decide)) (fun _ hk => hk.2) (.int .i64 ((rd_T102 x6_2 x38_3).f0))) (fun _ hk => hk.2) (.int .i64 ((rd_T102 x6_2 x38_3).f1))) (fun _ hk => hk.2) (.int .i64 ((rd_T102 x6_2 x38_3).f2))) (fun _ hk => trivial)⟩
                  have n2_ : Aside0 (Kd.R k102 102 (((w20.setCell ⟨gb279, 0, none⟩ (.int .i64 ((rd_T102 x6_2 x38_3).f0))).setCell ⟨gb279, 1, none⟩ (.int .i64 ((rd_T102 x6_2 x38_3).f1))).setCell ⟨gb279, 2, none⟩ (.int .i64 ((rd_T102 x6_2 x38_3).f2))) w.heap.size (fun k_ => k_ ≠ gb279) (.slice (some ad278) x6_2.length co12) x6_2) := ⟨by (with_reducible repeat (first | apply Kd.R_alloc | apply Kd.R_drewN | apply Kd.R_drew)); exact Kd.R_mono (Kd.R_far (p := ⟨gb279, 2, none⟩) (Kd.R_far (p := ⟨gb279, 1, none⟩) (Kd.R_far (p := ⟨gb279, 0, none⟩) (Kd.R_mono HO_36.out (fun k_ hk => (⟨hk, hk.2⟩ : _ ∧ k_ ≠ gb279))) (fun _ hk => hk.2) (.int .i64 ((rd_T102 x6_2 x38_3).f0))) (fun _ hk => hk.2) (.int .i64 ((rd_T102 x6_2 x38_3).f1))) (fun _ hk => hk.2) (.int .i64 ((rd_T102 x6_2 x38_3).f2))) (fun _ hk => hk.1.2)⟩
                  have n3_ : Aside0 ((((w20.setCell ⟨gb279, 0, none⟩ (.int .i64 ((rd_T102 x6_2 x38_3).f0))).setCell ⟨gb279, 1, none⟩ (.int .i64 ((rd_T102 x6_2 x38_3).f1))).setCell ⟨gb279, 2, none⟩ (.int .i64 ((rd_T102 x6_2 x38_3).f2))).heap[gb279]? = some (.cells #[.int .i64 ((rd_T102 x6_2 x38_3).f0), .int .i64 ((rd_T102 x6_2 x38_3).f1), .int .i64 ((rd_T102 x6_2 x38_3).f2)] 102 (0, 0))) := ⟨by (with_reducible repeat (first | refine blk_drewN ?_ _ | refine blk_drew ?_ | refine blk_alloc ?_ _)); refine blk_put (cs := #[.int .i64 ((rd_T102 x6_2 x38_3).f0), .int .i64 ((rd_T102 x6_2 x38_3).f1), .int .i64 0]) ?_ 2 _ rfl; (with_reducible repeat (first | refine blk_drewN ?_ _ | refine blk_drew ?_ | refine blk_alloc ?_ _)); refine blk_put (cs := #[.int .i64 ((rd_T102 x6_2 x38_3).f0), .int .i64 0, .int .i64 0]) ?_ 1 _ rfl; (with_reducible repeat (first | refine blk_drewN ?_ _ | refine blk_drew ?_ | refine blk_alloc ?_ _)); refine blk_put (cs := #[.int .i64 0, .int .i64 0, .int .i64 0]) ?_ 0 _ rfl; (with_reducible repeat (first | refine blk_drewN ?_ _ | refine blk_drew ?_ | refine blk_alloc ?_ _)); exact BK279.out⟩
                  have n4_ : Aside0 (Below w.heap.size w (((w20.setCell ⟨gb279, 0, none⟩ (.int .i64 ((rd_T102 x6_2 x38_3).f0))).setCell ⟨gb279, 1, none⟩ (.int .i64 ((rd_T102 x6_2 x38_3).f1))).setCell ⟨gb279, 2, none⟩ (.int .i64 ((rd_T102 x6_2 x38_3).f2)))) := ⟨by repeat (first | (with_reducible first | exact HB.out | apply below_alloc | apply pw_below_drewN | apply below_drew1 | refine below_set ?_ GE279.out) | exact HB.out)⟩
                  (try clear HO_6)
                  (try clear HO_9)
                  (try clear HO_36)
                  (try clear BK279)
                  (try clear HB)
                  generalize (((w20.setCell ⟨gb279, 0, none⟩ (.int .i64 ((rd_T102 x6_2 x38_3).f0))).setCell ⟨gb279, 1, none⟩ (.int .i64 ((rd_T102 x6_2 x38_3).f1))).setCell ⟨gb279, 2, none⟩ (.int .i64 ((rd_T102 x6_2 x38_3).f2))) = w29 at n0_ n1_ n2_ n3_ n4_ ⊢
                  have HO_6 := n0_
                  have HO_9 := n1_
                  have HO_36 := n2_
                  have BK279 := n3_
                  have HB := n4_
                  clear n0_ n1_ n2_ n3_ n4_
                  have n0_ := Aside0.mk (Kd.R_drew HO_6.out)
                  have n1_ := Aside0.mk (Kd.R_drew HO_9.out)
                  have n2_ := Aside0.mk (Kd.R_drew HO_36.out)
                  have n3_ := Aside0.mk (blk_drew BK279.out)
                  have n4_ := Aside0.mk (below_drew1 HB.out)
                  clear HO_6
                  clear HO_9
                  clear HO_36
                  clear BK279
                  clear HB
                  have HO_6 := n0_
                  have HO_9 := n1_
                  have HO_36 := n2_
                  have BK279 := n3_
                  have HB := n4_
                  clear n0_ n1_ n2_ n3_ n4_
                  obtain ⟨Ao31, co31, eo31⟩ := Kd.R_slice HO_9.out
                  (first | subst eo31 | (injection eo31 with f1_ f2_ f3_; have f4_ := f1_.symm; have f5_ := f3_.symm; clear f1_ f2_ f3_; subst f4_; subst f5_))
                  refine start_ (n := 15) (S := fun w' => True) (ds := []) #[false, false, false, false, false, false, false, false, false, false, false, false, false, false, false] (by kernel_rfl) rfl rfl trivial (fun hHeld => ?_); refine with_tabW backoff_Contend.tab14 backoff_Contend.bits14 (fun HT_ HW_ => ?_)
                  generalize w29.drew = w30 at HO_6 HO_9 HO_36 BK279 HB hHeld ⊢
                  refine pure_ (i := 0) (N := some 46) (v := ?_) (a' := ?_) #[true, false, false, false, false, false, false, false, false, false, false, false, false, false, false] rfl rfl (any_of HT_.out (by kernel_rfl)) (fun _ _ _ h => h) (Or.inl ⟨by rfl, ?_⟩) ?_ ?_
                  rotate_left
                  ·intro w'
                   go_simp
                   with_reducible rfl
                  rotate_left
                  ·simp only [Act.put, List.setIfInBounds_toArray, List.set_cons_zero, List.set_cons_succ, i64_w, i32_w]
                   rfl
                  refine pure_ (i := 1) (N := some 47) (v := ?_) (a' := ?_) #[true, true, false, false, false, false, false, false, false, false, false, false, false, false, false] rfl rfl (any_of HT_.out (by kernel_rfl)) (fun _ _ _ h => h) (Or.inl ⟨by rfl, ?_⟩) ?_ ?_
                  rotate_left
                  ·intro w'
                   go_simp
                   with_reducible rfl
                  rotate_left
                  ·simp only [Act.put, List.setIfInBounds_toArray, List.set_cons_zero, List.set_cons_succ, i64_w, i32_w]
                   rfl
                  refine pure_ (i := 2) (N := some 48) (v := ?_) (a' := ?_) #[true, true, true, false, false, false, false, false, false, false, false, false, false, false, false] rfl rfl (any_of HT_.out (by kernel_rfl)) (fun _ _ _ h => h) (Or.inl ⟨by rfl, ?_⟩) ?_ ?_
                  rotate_left
                  ·intro w'
                   go_simp
                   with_reducible rfl
                  rotate_left
                  ·simp only [Act.put, List.setIfInBounds_toArray, List.set_cons_zero, List.set_cons_succ, i64_w, i32_w]
                   rfl
                  refine pure_ (i := 3) (N := some 49) (v := ?_) (a' := ?_) #[true, true, true, true, false, false, false, false, false, false, false, false, false, false, false] rfl rfl (any_of HT_.out (by kernel_rfl)) (fun _ _ _ h => h) (Or.inl ⟨by rfl, ?_⟩) ?_ ?_
                  rotate_left
                  ·intro w'
                   go_simp
                   with_reducible rfl
                  rotate_left
                  ·simp only [Act.put, List.setIfInBounds_toArray, List.set_cons_zero, List.set_cons_succ, i64_w, i32_w]
                   rfl
                  refine pure_ (i := 4) (N := some 50) (v := undef) (a' := ?_) #[true, true, true, true, true, false, false, false, false, false, false, false, false, false, false] rfl rfl (any_of HT_.out (by kernel_rfl)) (fun _ _ _ h => h) (Or.inr ⟨by rfl, rfl⟩) ?_ ?_
                  rotate_left
                  ·simp only [Act.put, List.setIfInBounds_toArray, List.set_cons_zero, List.set_cons_succ, i64_w, i32_w]
                   rfl
                  refine pure_ (i := 5) (N := some 51) (v := undef) (a' := ?_) #[true, true, true, true, true, true, false, false, false, false, false, false, false, false, false] rfl rfl (any_of HT_.out (by kernel_rfl)) (fun _ _ _ h => h) (Or.inr ⟨by rfl, rfl⟩) ?_ ?_
                  rotate_left
                  ·simp only [Act.put, List.setIfInBounds_toArray, List.set_cons_zero, List.set_cons_succ, i64_w, i32_w]
                   rfl
                  refine pure_ (i := 6) (N := some 52) (v := undef) (a' := ?_) #[true, true, true, true, true, true, true, false, false, false, false, false, false, false, false] rfl rfl (any_of HT_.out (by kernel_rfl)) (fun _ _ _ h => h) (Or.inr ⟨by rfl, rfl⟩) ?_ ?_
                  rotate_left
                  ·simp only [Act.put, List.setIfInBounds_toArray, List.set_cons_zero, List.set_cons_succ, i64_w, i32_w]
                   rfl
                  refine pure_ (i := 7) (N := some 53) (v := undef) (a' := ?_) #[true, true, true, true, true, true, true, true, false, false, false, false, false, false, false] rfl rfl (any_of HT_.out (by kernel_rfl)) (fun _ _ _ h => h) (Or.inr ⟨by rfl, rfl⟩) ?_ ?_
                  rotate_left
                  ·simp only [Act.put, List.setIfInBounds_toArray, List.set_cons_zero, List.set_cons_succ, i64_w, i32_w]
                   rfl
                  refine pure_ (i := 8) (N := some 54) (v := undef) (a' := ?_) #[true, true, true, true, true, true, true, true, true, false, false, false, false, false, false] rfl rfl (any_of HT_.out (by kernel_rfl)) (fun _ _ _ h => h) (Or.inr ⟨by rfl, rfl⟩) ?_ ?_
                  rotate_left
                  ·simp only [Act.put, List.setIfInBounds_toArray, List.set_cons_zero, List.set_cons_succ, i64_w, i32_w]
                   rfl
                  refine pure_ (i := 9) (N := some 55) (v := undef) (a' := ?_) #[true, true, true, true, true, true, true, true, true, true, false, false, false, false, false] rfl rfl (any_of HT_.out (by kernel_rfl)) (fun _ _ _ h => h) (Or.inr ⟨by rfl, rfl⟩) ?_ ?_
                  rotate_left
                  ·simp only [Act.put, List.setIfInBounds_toArray, List.set_cons_zero, List.set_cons_succ, i64_w, i32_w]
                   rfl
                  refine pure_ (i := 10) (N := some 56) (v := undef) (a' := ?_) #[true, true, true, true, true, true, true, true, true, true, true, false, false, false, false] rfl rfl (any_of HT_.out (by kernel_rfl)) (fun _ _ _ h => h) (Or.inr ⟨by rfl, rfl⟩) ?_ ?_
                  rotate_left
                  ·simp only [Act.put, List.setIfInBounds_toArray, List.set_cons_zero, List.set_cons_succ, i64_w, i32_w]
                   rfl
                  refine pure_ (i := 11) (N := some 57) (v := undef) (a' := ?_) #[true, true, true, true, true, true, true, true, true, true, true, true, false, false, false] rfl rfl (any_of HT_.out (by kernel_rfl)) (fun _ _ _ h => h) (Or.inr ⟨by rfl, rfl⟩) ?_ ?_
                  rotate_left
                  ·simp only [Act.put, List.setIfInBounds_toArray, List.set_cons_zero, List.set_cons_succ, i64_w, i32_w]
                   rfl
                  refine pure_ (i := 12) (N := some 58) (v := undef) (a' := ?_) #[true, true, true, true, true, true, true, true, true, true, true, true, true, false, false] rfl rfl (any_of HT_.out (by kernel_rfl)) (fun _ _ _ h => h) (Or.inr ⟨by rfl, rfl⟩) ?_ ?_
                  rotate_left
                  ·simp only [Act.put, List.setIfInBounds_toArray, List.set_cons_zero, List.set_cons_succ, i64_w, i32_w]
                   rfl
                  refine pure_ (i := 13) (N := some 59) (v := undef) (a' := ?_) #[true, true, true, true, true, true, true, true, true, true, true, true, true, true, false] rfl rfl (any_of HT_.out (by kernel_rfl)) (fun _ _ _ h => h) (Or.inr ⟨by rfl, rfl⟩) ?_ ?_
                  rotate_left
                  ·simp only [Act.put, List.setIfInBounds_toArray, List.set_cons_zero, List.set_cons_succ, i64_w, i32_w]
                   rfl
                  refine pure_ (i := 14) (N := some 60) (v := ?_) (a' := ?_) #[true, true, true, true, true, true, true, true, true, true, true, true, true, true, true] rfl rfl (any_of HT_.out (by kernel_rfl)) (fun _ _ _ h => h) (Or.inl ⟨by rfl, ?_⟩) ?_ ?_
                  rotate_left
                  ·intro w'
                   go_simp
                   with_reducible rfl
                  rotate_left
                  ·simp only [Act.put, List.setIfInBounds_toArray, List.set_cons_zero, List.set_cons_succ, i64_w, i32_w]
                   rfl
                  refine done_ (done_of HT_.out (by kernel_rfl)) ?_
                  try go_wp2
                  go_meet
                  case rel => exact ⟨_, (false), (by first | rfl | (simp; done) | (simp [*]; done)), H', ⟨by have := HJ2.out; have := HK2.out; have := HK3.out; first | omega | exact Nat.le_refl _⟩, ⟨by (with_reducible repeat (first | apply Kd.R_alloc | apply Kd.R_drewN | apply Kd.R_drew)); exact HO_6.out⟩, ⟨by (with_reducible repeat (first | apply Kd.R_alloc | apply Kd.R_drewN | apply Kd.R_drew)); exact HO_9.out⟩, ⟨by (with_reducible repeat (first | apply Kd.R_alloc | apply Kd.R_drewN | apply Kd.R_drew)); exact HO_36.out⟩, ⟨by (with_reducible repeat (first | refine blk_drewN ?_ _ | refine blk_drew ?_ | refine blk_alloc ?_ _)); exact BK279.out⟩, ⟨by repeat (first | (with_reducible first | exact HB.out | apply below_alloc | apply pw_below_drewN | apply below_drew1 | refine below_set ?_ GE279.out) | exact HB.out)⟩⟩
                case rest =>
                 clear HC19
                 try clear c1
                 try clear c2
                 try clear p2
                 try clear q2
                 try clear hx2
                 try clear qi2
                 try clear c4
                 try clear c4b0
                 try clear c5
                 try clear c6
                 try clear c6b0
                 try clear c6b1
                 try clear p6
                 try clear c7
                 try clear c7b0
                 try clear c7b1
                 try clear c8
                 try clear c8b0
                 try clear c8b1
                 try clear c11
                 try clear c11b0
                 try clear c13
                 try clear c13b0
                 try clear c14
                 try clear c14b0
                 try clear c15
                 try clear c15b0
                 try clear c16
                 try clear c16b0
                 try clear c22
                 try clear c22b0
                 try clear c22b1
                 try clear c23
                 try clear c23b0
                 try clear c23b1
                 try clear c24
                 try clear c24b0
                 try clear c25
                 try clear c25b0
                 try clear p27
                 try clear q27
                 try clear hx27
                 try clear p28
                 try clear q28
                 try clear hx28
                 try clear qi28
                 try clear hcz18_0
                 try clear hcz18_1
                 try clear hcz18_2
                 try clear hcz21_0
                 try clear hcz21_1
                 try clear hcz21_2
                 try clear hfz18_0
                 try clear hfz18_1
                 try clear hfz18_2
                 try clear hfz21_0
                 try clear hfz21_1
                 try clear hfz21_2
                 try clear hx278_0
                 try clear hx278_1
                 try clear hx278_2
                 try clear hx280_0
                 try clear hx281_0
                 try clear hx281_1
                 try clear hx281_2
                 try clear p2
                 try clear p278
                 try clear p280
                 try clear p281
                 try clear q278
                 try clear q280
                 try clear q281
                 obtain ⟨kq, x60_18, rfl, HA, HJ18, HO_6, HO_9, HO_36, BK279, HB⟩ := hcut
                 cases kq with
                 | zero => exact absurd HA.out (by simp [backoff_Contend.j3])
                 | succ kj18 =>
                  have H := HA.out
                  clear HA
                  simp only [backoff_Contend.j3] at H
                  by_cases c32 : x60_18 = true
                  ·subst c32
                   have H1 : (if (([] : List Int).length : Int) = 0 then (if ([] : List Int).length < 17592186044416 then (backoff_Contend.l1 kj18 a0 l1 x6_2 x7_2 x8_2 (([] : List Int) ++ [x38_3]) x6_2 (x6_2.length : Int) (wrap64 (x38_3 + 1))) else (none)) else (if 0 < (([] : List Int).length : Int) then (if 0 ≤ (rd ([] : List Int) 0) then (if (rd ([] : List Int) 0) < (x6_2.length : Int) then (if ((rd_T102 x6_2 x38_3).f0) = ((rd_T102 x6_2 (rd ([] : List Int) 0)).f0) then (if ([] : List Int).length < 17592186044416 then (backoff_Contend.l1 kj18 a0 l1 x6_2 x7_2 x8_2 (([] : List Int) ++ [x38_3]) x6_2 (x6_2.length : Int) (wrap64 (x38_3 + 1))) else (none)) else (backoff_Contend.l1 kj18 a0 l1 x6_2 x7_2 x8_2 ([] : List Int) x6_2 (x6_2.length : Int) (wrap64 (x38_3 + 1)))) else (none)) else (none)) else (none))) = some (r1, r2) := by rw [if_pos rfl] at H; exact H
                   clear H
                   have H := H1
                   clear H1
                   by_cases c33 : (([] : List Int).length : Int) = 0
                   ·rw [if_pos c33] at H
                    have c33b0 : ((([] : List Int).length : Int) == 0) = true := beq_iff_eq.mpr c33
                    have c33b1 : ((([] : List Int).length : Int) != 0) = false := bne_eq_false_iff_eq.mpr c33
                    clear c33
                    by_cases c34 : ([] : List Int).length < 17592186044416
                    ·rw [if_pos c34] at H
                     have LMc34 := Aside0.mk c34
                     clear c34
                     obtain ⟨y282, hy282⟩ : ∃ y_ : List Int, y_ = (([] : List Int) ++ [x38_3]) := ⟨_, rfl⟩
                     replace H : (backoff_Contend.l1 kj18 a0 l1 x6_2 x7_2 x8_2 y282 x6_2 (x6_2.length : Int) (wrap64 (x38_3 + 1))) = some (r1, r2) := by first | (rw [hy282]; with_reducible exact H) | (have H2_ := (Option.bind_some _ _).symm.trans H; rw [hy282]; with_reducible exact H2_) | (have H2_ := (Option.bind_some _ _).symm.trans H; with_reducible exact H2_) | with_reducible exact H | (rw [hy282]; exact H) | exact H
                     have Ny282 := Aside0.mk hy282
                     clear hy282
                     have H' := Aside0.mk H
                     clear H
                     try go_wp2
                     have n0_ := Aside0.mk (Kd.R_drew HO_6.out)
                     have n1_ := Aside0.mk (Kd.R_drew HO_9.out)
                     have n2_ := Aside0.mk (Kd.R_drew HO_36.out)
                     have n3_ := Aside0.mk (blk_drew BK279.out)
                     have n4_ := Aside0.mk (below_drew1 HB.out)
                     clear HO_6
                     clear HO_9
                     clear HO_36
                     clear BK279
                     clear HB
                     have HO_6 := n0_
                     have HO_9 := n1_
                     have HO_36 := n2_
                     have BK279 := n3_
                     have HB := n4_
                     clear n0_ n1_ n2_ n3_ n4_
                     refine start_ (n := 15) (S := fun w' => True) (ds := []) #[false, false, false, false, false, false, false, false, false, false, false, false, false, false, false] (by kernel_rfl) rfl rfl trivial (fun hHeld => ?_); refine with_tabW backoff_Contend.tab16 backoff_Contend.bits16 (fun HT_ HW_ => ?_)
                     generalize wc.drew = w35 at HO_6 HO_9 HO_36 BK279 HB hHeld ⊢
                     refine pure_ (i := 0) (N := some 61) (v := ?_) (a' := ?_) #[true, false, false, false, false, false, false, false, false, false, false, false, false, false, false] rfl rfl (any_of HT_.out (by kernel_rfl)) (fun _ _ _ h => h) (Or.inl ⟨by rfl, ?_⟩) ?_ ?_
                     rotate_left
                     ·intro w'
                      go_simp
                      with_reducible rfl
                     rotate_left
                     ·simp only [Act.put, List.setIfInBounds_toArray, List.set_cons_zero, List.set_cons_succ, i64_w, i32_w]
                      rfl
                     refine pure_ (i := 1) (N := some 62) (v := ?_) (a' := ?_) #[true, true, false, false, false, false, false, false, false, false, false, false, false, false, false] rfl rfl (any_of HT_.out (by kernel_rfl)) (fun _ _ _ h => h) (Or.inl ⟨by rfl, ?_⟩) ?_ ?_
                     rotate_left
                     ·intro w'
                      go_simp
                      with_reducible rfl
                     rotate_left
                     ·simp only [Act.put, List.setIfInBounds_toArray, List.set_cons_zero, List.set_cons_succ, i64_w, i32_w]
                      rfl
                     refine pure_ (i := 2) (N := some 63) (v := ?_) (a' := ?_) #[true, true, true, false, false, false, false, false, false, false, false, false, false, false, false] rfl rfl (any_of HT_.out (by kernel_rfl)) (fun _ _ _ h => h) (Or.inl ⟨by rfl, ?_⟩) ?_ ?_
                     rotate_left
                     ·intro w'
                      go_simp
                      with_reducible rfl
                     rotate_left
                     ·simp only [Act.put, List.setIfInBounds_toArray, List.set_cons_zero, List.set_cons_succ, i64_w, i32_w]
                      rfl
                     refine pure_ (i := 3) (N := some 64) (v := ?_) (a' := ?_) #[true, true, true, true, false, false, false, false, false, false, false, false, false, false, false] rfl rfl (any_of HT_.out (by kernel_rfl)) (fun _ _ _ h => h) (Or.inl ⟨by rfl, ?_⟩) ?_ ?_
                     rotate_left
                     ·intro w'
                      go_simp
                      with_reducible rfl
                     rotate_left
                     ·simp only [Act.put, List.setIfInBounds_toArray, List.set_cons_zero, List.set_cons_succ, i64_w, i32_w]
                      rfl
                     refine pure_ (i := 4) (N := some 65) (v := undef) (a' := ?_) #[true, true, true, true, true, false, false, false, false, false, false, false, false, false, false] rfl rfl (any_of HT_.out (by kernel_rfl)) (fun _ _ _ h => h) (Or.inr ⟨by rfl, rfl⟩) ?_ ?_
                     rotate_left
                     ·simp only [Act.put, List.setIfInBounds_toArray, List.set_cons_zero, List.set_cons_succ, i64_w, i32_w]
                      rfl
                     refine pure_ (i := 5) (N := some 66) (v := undef) (a' := ?_) #[true, true, true, true, true, true, false, false, false, false, false, false, false, false, false] rfl rfl (any_of HT_.out (by kernel_rfl)) (fun _ _ _ h => h) (Or.inr ⟨by rfl, rfl⟩) ?_ ?_
                     rotate_left
                     ·simp only [Act.put, List.setIfInBounds_toArray, List.set_cons_zero, List.set_cons_succ, i64_w, i32_w]
                      rfl
                     refine pure_ (i := 6) (N := some 67) (v := undef) (a' := ?_) #[true, true, true, true, true, true, true, false, false, false, false, false, false, false, false] rfl rfl (any_of HT_.out (by kernel_rfl)) (fun _ _ _ h => h) (Or.inr ⟨by rfl, rfl⟩) ?_ ?_
                     rotate_left
                     ·simp only [Act.put, List.setIfInBounds_toArray, List.set_cons_zero, List.set_cons_succ, i64_w, i32_w]
                      rfl
                     refine pure_ (i := 7) (N := some 68) (v := undef) (a' := ?_) #[true, true, true, true, true, true, true, true, false, false, false, false, false, false, false] rfl rfl (any_of HT_.out (by kernel_rfl)) (fun _ _ _ h => h) (Or.inr ⟨by rfl, rfl⟩) ?_ ?_
                     rotate_left
                     ·simp only [Act.put, List.setIfInBounds_toArray, List.set_cons_zero, List.set_cons_succ, i64_w, i32_w]
                      rfl
                     refine pure_ (i := 8) (N := some 69) (v := undef) (a' := ?_) #[true, true, true, true, true, true, true, true, true, false, false, false, false, false, false] rfl rfl (any_of HT_.out (by kernel_rfl)) (fun _ _ _ h => h) (Or.inr ⟨by rfl, rfl⟩) ?_ ?_
                     rotate_left
                     ·simp only [Act.put, List.setIfInBounds_toArray, List.set_cons_zero, List.set_cons_succ, i64_w, i32_w]
                      rfl
                     refine pure_ (i := 9) (N := some 70) (v := undef) (a' := ?_) #[true, true, true, true, true, true, true, true, true, true, false, false, false, false, false] rfl rfl (any_of HT_.out (by kernel_rfl)) (fun _ _ _ h => h) (Or.inr ⟨by rfl, rfl⟩) ?_ ?_
                     rotate_left
                     ·simp only [Act.put, List.setIfInBounds_toArray, List.set_cons_zero, List.set_cons_succ, i64_w, i32_w]
                      rfl
                     refine pure_ (i := 10) (N := some 71) (v := undef) (a' := ?_) #[true, true, true, true, true, true, true, true, true, true, true, false, false, false, false] rfl rfl (any_of HT_.out (by kernel_rfl)) (fun _ _ _ h => h) (Or.inr ⟨by rfl, rfl⟩) ?_ ?_
                     rotate_left
                     ·simp only [Act.put, List.setIfInBounds_toArray, List.set_cons_zero, List.set_cons_succ, i64_w, i32_w]
                      rfl
                     refine pure_ (i := 11) (N := some 72) (v := undef) (a' := ?_) #[true, true, true, true, true, true, true, true, true, true, true, true, false, false, false] rfl rfl (any_of HT_.out (by kernel_rfl)) (fun _ _ _ h => h) (Or.inr ⟨by rfl, rfl⟩) ?_ ?_
                     rotate_left
                     ·simp only [Act.put, List.setIfInBounds_toArray, List.set_cons_zero, List.set_cons_succ, i64_w, i32_w]
                      rfl
                     refine pure_ (i := 12) (N := some 73) (v := undef) (a' := ?_) #[true, true, true, true, true, true, true, true, true, true, true, true, true, false, false] rfl rfl (any_of HT_.out (by kernel_rfl)) (fun _ _ _ h => h) (Or.inr ⟨by rfl, rfl⟩) ?_ ?_
                     rotate_left
                     ·simp only [Act.put, List.setIfInBounds_toArray, List.set_cons_zero, List.set_cons_succ, i64_w, i32_w]
                      rfl
                     refine pure_ (i := 13) (N := some 74) (v := undef) (a' := ?_) #[true, true, true, true, true, true, true, true, true, true, true, true, true, true, false] rfl rfl (any_of HT_.out (by kernel_rfl)) (fun _ _ _ h => h) (Or.inr ⟨by rfl, rfl⟩) ?_ ?_
                     rotate_left
                     ·simp only [Act.put, List.setIfInBounds_toArray, List.set_cons_zero, List.set_cons_succ, i64_w, i32_w]
                      rfl
                     refine pure_ (i := 14) (N := some 75) (v := ?_) (a' := ?_) #[true, true, true, true, true, true, true, true, true, true, true, true, true, true, true] rfl rfl (any_of HT_.out (by kernel_rfl)) (fun _ _ _ h => h) (Or.inl ⟨by rfl, ?_⟩) ?_ ?_
                     rotate_left
                     ·intro w'
                      go_simp
                      with_reducible rfl
                     rotate_left
                     ·simp only [Act.put, List.setIfInBounds_toArray, List.set_cons_zero, List.set_cons_succ, i64_w, i32_w]
                      rfl
                     refine done_ (done_of HT_.out (by kernel_rfl)) ?_
                     try go_wp2_with (first | ((with_reducible refine gate_builtin (b := .append) (xs := #[.tmp 76, .tmp 78]) rfl ?_); at_builtin; refine Kd.R_append (Kd.int .i64) (w0 := w) w.heap.size rfl (.tmp 76) (.tmp 78) 40 3 (.int .i64 0) 8 rfl Try.underlying40 info3 rfl (by decide) (by omega) (.slice none 0 0) ([] : List Int) x38_3 [.int .i64 x38_3] (fun k_ => some k_ ≠ (u9 : Value).ownBlock) (fun _ => False) rfl rfl ?aP (fun _ hk => hk.elim) ?aF ?aO ?aB ?aS ?aL ?_; (case aP => exact rfl); (case aB => exact (by repeat (first | (with_reducible first | exact HB.out | apply below_alloc | apply pw_below_drewN | apply below_drew1 | refine below_set ?_ GE279.out) | exact HB.out))); (case aF => exact (fun k_ hk => Kd.fresh' (Kd.R_lt (by (with_reducible repeat (first | apply Kd.R_alloc | apply Kd.R_drewN | apply Kd.R_drew)); exact HO_9.out)) k_ hk)); (case aO => exact ((Kd.R_nil _ _ _ _ (fun k_ => some k_ ≠ (u9 : Value).ownBlock)))); (case aS => exact (below_size (by repeat (first | (with_reducible first | exact HB.out | apply below_alloc | apply pw_below_drewN | apply below_drew1 | refine below_set ?_ GE279.out) | exact HB.out)))); (case aL => have := LMc34.out; omega); intro v283 w36 ho hb hg hat; rw [← Ny282.out] at ho; have n0_ := Aside0.mk (Kd.R_grown (by (with_reducible repeat (first | apply Kd.R_alloc | apply Kd.R_drewN | apply Kd.R_drew)); exact HO_6.out) hg (fun _ _ => by simp [Value.ownBlock])); have n1_ := Aside0.mk (Kd.R_after (Kd.R_apart_nil (by (with_reducible repeat (first | apply Kd.R_alloc | apply Kd.R_drewN | apply Kd.R_drew)); exact HO_9.out)) hg hat); have n2_ := Aside0.mk (Kd.R_grown (by (with_reducible repeat (first | apply Kd.R_alloc | apply Kd.R_drewN | apply Kd.R_drew)); exact HO_36.out) hg (fun _ _ => by simp [Value.ownBlock])); have n3_ := Aside0.mk (blk_grown (g := gb279) (o := .cells #[.int .i64 ((rd_T102 x6_2 x38_3).f0), .int .i64 ((rd_T102 x6_2 x38_3).f1), .int .i64 ((rd_T102 x6_2 x38_3).f2)] 102 (0, 0)) (by (with_reducible repeat (first | refine blk_drewN ?_ _ | refine blk_drew ?_ | refine blk_alloc ?_ _)); exact BK279.out) hg (by simp [Value.ownBlock])); have n4_ := Aside0.mk (hb); have n5_ := Aside0.mk (ho); clear HO_6; clear HO_9; clear HO_36; clear BK279; clear HB; have HO_6 := n0_; have HO_9 := n1_; have HO_36 := n2_; have BK279 := n3_; have HB := n4_; have HO284 := n5_; clear n0_ n1_ n2_ n3_ n4_ n5_; clear ho hb hg hat))
                     go_roundg kj18
                     case measure => have := HJ2.out; have := HK2.out; have := HK3.out; have := HJ18.out; omega
                     case rel => exact ⟨(y282), (wrap64 (x38_3 + 1)), (by first | rfl | (simp; done) | (simp [*]; done)), H', ⟨by have := HJ2.out; have := HK2.out; have := HK3.out; have := HJ18.out; omega⟩, ⟨by (with_reducible repeat (first | apply Kd.R_alloc | apply Kd.R_drewN | apply Kd.R_drew)); exact Kd.R_mono HO_6.out (fun _ hk => trivial)⟩, ⟨by (with_reducible repeat (first | apply Kd.R_alloc | apply Kd.R_drewN | apply Kd.R_drew)); exact Kd.R_mono HO284.out (fun _ hk => trivial)⟩, ⟨by (with_reducible repeat (first | apply Kd.R_alloc | apply Kd.R_drewN | apply Kd.R_drew)); exact Kd.R_mono HO_36.out (fun _ hk => trivial)⟩, ⟨by repeat (first | (with_reducible first | exact HB.out | apply below_alloc | apply pw_below_drewN | apply below_drew1 | refine below_set ?_ GE279.out) | exact HB.out)⟩⟩
                    ·rw [if_neg c34] at H
                     exact absurd H (by simp)
                   ·rw [if_neg c33] at H
                    have c33b0 : ((([] : List Int).length : Int) == 0) = false := beq_eq_false_iff_ne.mpr c33
                    have c33b1 : ((([] : List Int).length : Int) != 0) = true := bne_iff_ne.mpr c33
                    have c33b2 : ¬ (([] : List Int) = []) := fun h_ => c33 (by rw [h_]; rfl)
                    by_cases c37 : 0 < (([] : List Int).length : Int)
                    ·rw [if_pos c37] at H
                     have c37b0 : decide (0 < (([] : List Int).length : Int)) = true := decide_eq_true c37
                     have c37b1 : decide (0 < ([] : List Int).length) = true := decide_eq_true (by omega)
                     clear c37
                     by_cases c38 : 0 ≤ (rd ([] : List Int) 0)
                     ·rw [if_pos c38] at H
                      have c38b0 : decide (0 ≤ (rd ([] : List Int) 0)) = true := decide_eq_true c38
                      clear c38
                      by_cases c39 : (rd ([] : List Int) 0) < (x6_2.length : Int)
                      ·rw [if_pos c39] at H
                       have c39b0 : decide ((rd ([] : List Int) 0) < (x6_2.length : Int)) = true := decide_eq_true c39
                       clear c39
                       by_cases c40 : ((rd_T102 x6_2 x38_3).f0) = ((rd_T102 x6_2 (rd ([] : List Int) 0)).f0)
                       ·rw [if_pos c40] at H
                        have c40b0 : (((rd_T102 x6_2 x38_3).f0) == ((rd_T102 x6_2 (rd ([] : List Int) 0)).f0)) = true := beq_iff_eq.mpr c40
                        have c40b1 : (((rd_T102 x6_2 x38_3).f0) != ((rd_T102 x6_2 (rd ([] : List Int) 0)).f0)) = false := bne_eq_false_iff_eq.mpr c40
                        clear c40
                        by_cases c41 : ([] : List Int).length < 17592186044416
                        ·rw [if_pos c41] at H
                         have LMc41 := Aside0.mk c41
                         clear c41
                         obtain ⟨y287, hy287⟩ : ∃ y_ : List Int, y_ = (([] : List Int) ++ [x38_3]) := ⟨_, rfl⟩
                         replace H : (backoff_Contend.l1 kj18 a0 l1 x6_2 x7_2 x8_2 y287 x6_2 (x6_2.length : Int) (wrap64 (x38_3 + 1))) = some (r1, r2) := by first | (rw [hy287]; with_reducible exact H) | (have H2_ := (Option.bind_some _ _).symm.trans H; rw [hy287]; with_reducible exact H2_) | (have H2_ := (Option.bind_some _ _).symm.trans H; with_reducible exact H2_) | with_reducible exact H | (rw [hy287]; exact H) | exact H
                         have Ny287 := Aside0.mk hy287
                         clear hy287
                         have H' := Aside0.mk H
                         clear H
                         try go_wp2
                         have n0_ := Aside0.mk (Kd.R_drew HO_6.out)
                         have n1_ := Aside0.mk (Kd.R_drew HO_9.out)
                         have n2_ := Aside0.mk (Kd.R_drew HO_36.out)
                         have n3_ := Aside0.mk (blk_drew BK279.out)
                         have n4_ := Aside0.mk (below_drew1 HB.out)
                         clear HO_6
                         clear HO_9
                         clear HO_36
                         clear BK279
                         clear HB
                         have HO_6 := n0_
                         have HO_9 := n1_
                         have HO_36 := n2_
                         have BK279 := n3_
                         have HB := n4_
                         clear n0_ n1_ n2_ n3_ n4_
                         have p285 : 0 ≤ (0 : Int) := (by omega)
                         have q285 : 0 < (([] : List Int).length : Int) := of_decide_eq_true (by first | (with_reducible assumption) | assumption)
                         exact absurd q285 (by simp)
                        ·rw [if_neg c41] at H
                         exact absurd H (by simp)
                       ·rw [if_neg c40] at H
                        have c40b0 : (((rd_T102 x6_2 x38_3).f0) == ((rd_T102 x6_2 (rd ([] : List Int) 0)).f0)) = false := beq_eq_false_iff_ne.mpr c40
                        have c40b1 : (((rd_T102 x6_2 x38_3).f0) != ((rd_T102 x6_2 (rd ([] : List Int) 0)).f0)) = true := bne_iff_ne.mpr c40
                        have H' := Aside0.mk H
                        clear H
                        try go_wp2
                        have n0_ := Aside0.mk (Kd.R_drew HO_6.out)
                        have n1_ := Aside0.mk (Kd.R_drew HO_9.out)
                        have n2_ := Aside0.mk (Kd.R_drew HO_36.out)
                        have n3_ := Aside0.mk (blk_drew BK279.out)
                        have n4_ := Aside0.mk (below_drew1 HB.out)
                        clear HO_6
                        clear HO_9
                        clear HO_36
                        clear BK279
                        clear HB
                        have HO_6 := n0_
                        have HO_9 := n1_
                        have HO_36 := n2_
                        have BK279 := n3_
                        have HB := n4_
                        clear n0_ n1_ n2_ n3_ n4_
                        have p285 : 0 ≤ (0 : Int) := (by omega)
                        have q285 : 0 < (([] : List Int).length : Int) := of_decide_eq_true (by first | (with_reducible assumption) | assumption)
                        exact absurd q285 (by simp)
                      ·rw [if_neg c39] at H
                       exact absurd H (by simp)
                     ·rw [if_neg c38] at H
                      exact absurd H (by simp)
                    ·rw [if_neg c37] at H
                     exact absurd H (by simp)
                  ·replace c32 := Bool.eq_false_iff.mpr c32
                   subst c32
                   have H1 : (if (x9_3.length : Int) = 0 then (if x9_3.length < 17592186044416 then (backoff_Contend.l1 kj18 a0 l1 x6_2 x7_2 x8_2 (x9_3 ++ [x38_3]) x6_2 (x6_2.length : Int) (wrap64 (x38_3 + 1))) else (none)) else (if 0 < (x9_3.length : Int) then (if 0 ≤ (rd x9_3 0) then (if (rd x9_3 0) < (x6_2.length : Int) then (if ((rd_T102 x6_2 x38_3).f0) = ((rd_T102 x6_2 (rd x9_3 0)).f0) then (if x9_3.length < 17592186044416 then (backoff_Contend.l1 kj18 a0 l1 x6_2 x7_2 x8_2 (x9_3 ++ [x38_3]) x6_2 (x6_2.length : Int) (wrap64 (x38_3 + 1))) else (none)) else (backoff_Contend.l1 kj18 a0 l1 x6_2 x7_2 x8_2 x9_3 x6_2 (x6_2.length : Int) (wrap64 (x38_3 + 1)))) else (none)) else (none)) else (none))) = some (r1, r2) := by rw [if_neg (show ¬ (false = true) by decide)] at H; exact H
                   clear H
                   have H := H1
                   clear H1
                   by_cases c45 : (x9_3.length : Int) = 0
                   ·rw [if_pos c45] at H
                    have c45b0 : ((x9_3.length : Int) == 0) = true := beq_iff_eq.mpr c45
                    have c45b1 : ((x9_3.length : Int) != 0) = false := bne_eq_false_iff_eq.mpr c45
                    clear c45
                    by_cases c46 : x9_3.length < 17592186044416
                    ·rw [if_pos c46] at H
                     have LMc46 := Aside0.mk c46
                     clear c46
                     obtain ⟨y290, hy290⟩ : ∃ y_ : List Int, y_ = (x9_3 ++ [x38_3]) := ⟨_, rfl⟩
                     replace H : (backoff_Contend.l1 kj18 a0 l1 x6_2 x7_2 x8_2 y290 x6_2 (x6_2.length : Int) (wrap64 (x38_3 + 1))) = some (r1, r2) := by first | (rw [hy290]; with_reducible exact H) | (have H2_ := (Option.bind_some _ _).symm.trans H; rw [hy290]; with_reducible exact H2_) | (have H2_ := (Option.bind_some _ _).symm.trans H; with_reducible exact H2_) | with_reducible exact H | (rw [hy290]; exact H) | exact H
                     have Ny290 := Aside0.mk hy290
                     clear hy290
                     have H' := Aside0.mk H
                     clear H
                     try go_wp2
                     have n0_ := Aside0.mk (Kd.R_drew HO_6.out)
                     have n1_ := Aside0.mk (Kd.R_drew HO_9.out)
                     have n2_ := Aside0.mk (Kd.R_drew HO_36.out)
                     have n3_ := Aside0.mk (blk_drew BK279.out)
                     have n4_ := Aside0.mk (below_drew1 HB.out)
                     clear HO_6
                     clear HO_9
                     clear HO_36
                     clear BK279
                     clear HB
                     have HO_6 := n0_
                     have HO_9 := n1_
                     have HO_36 := n2_
                     have BK279 := n3_
                     have HB := n4_
                     clear n0_ n1_ n2_ n3_ n4_
                     obtain ⟨Ao48, co48, eo48⟩ := Kd.R_slice HO_9.out
                     (first | subst eo48 | (injection eo48 with f1_ f2_ f3_; have f4_ := f1_.symm; have f5_ := f3_.symm; clear f1_ f2_ f3_; subst f4_; subst f5_))
                     refine start_ (n := 15) (S := fun w' => True) (ds := []) #[false, false, false, false, false, false, false, false, false, false, false, false, false, false, false] (by kernel_rfl) rfl rfl trivial (fun hHeld => ?_); refine with_tabW backoff_Contend.tab16 backoff_Contend.bits16 (fun HT_ HW_ => ?_)
                     generalize wc.drew = w47 at HO_6 HO_9 HO_36 BK279 HB hHeld ⊢
                     refine pure_ (i := 0) (N := some 61) (v := ?_) (a' := ?_) #[true, false, false, false, false, false, false, false, false, false, false, false, false, false, false] rfl rfl (any_of HT_.out (by kernel_rfl)) (fun _ _ _ h => h) (Or.inl ⟨by rfl, ?_⟩) ?_ ?_
                     rotate_left
                     ·intro w'
                      go_simp
                      with_reducible rfl
                     rotate_left
                     ·simp only [Act.put, List.setIfInBounds_toArray, List.set_cons_zero, List.set_cons_succ, i64_w, i32_w]
                      rfl
                     refine pure_ (i := 1) (N := some 62) (v := ?_) (a' := ?_) #[true, true, false, false, false, false, false, false, false, false, false, false, false, false, false] rfl rfl (any_of HT_.out (by kernel_rfl)) (fun _ _ _ h => h) (Or.inl ⟨by rfl, ?_⟩) ?_ ?_
                     rotate_left
                     ·intro w'
                      go_simp
                      with_reducible rfl
                     rotate_left
                     ·simp only [Act.put, List.setIfInBounds_toArray, List.set_cons_zero, List.set_cons_succ, i64_w, i32_w]
                      rfl
                     refine pure_ (i := 2) (N := some 63) (v := ?_) (a' := ?_) #[true, true, true, false, false, false, false, false, false, false, false, false, false, false, false] rfl rfl (any_of HT_.out (by kernel_rfl)) (fun _ _ _ h => h) (Or.inl ⟨by rfl, ?_⟩) ?_ ?_
                     rotate_left
                     ·intro w'
                      go_simp
                      with_reducible rfl
                     rotate_left
                     ·simp only [Act.put, List.setIfInBounds_toArray, List.set_cons_zero, List.set_cons_succ, i64_w, i32_w]
                      rfl
                     refine pure_ (i := 3) (N := some 64) (v := ?_) (a' := ?_) #[true, true, true, true, false, false, false, false, false, false, false, false, false, false, false] rfl rfl (any_of HT_.out (by kernel_rfl)) (fun _ _ _ h => h) (Or.inl ⟨by rfl, ?_⟩) ?_ ?_
                     rotate_left
                     ·intro w'
                      go_simp
                      with_reducible rfl
                     rotate_left
                     ·simp only [Act.put, List.setIfInBounds_toArray, List.set_cons_zero, List.set_cons_succ, i64_w, i32_w]
                      rfl
                     refine pure_ (i := 4) (N := some 65) (v := undef) (a' := ?_) #[true, true, true, true, true, false, false, false, false, false, false, false, false, false, false] rfl rfl (any_of HT_.out (by kernel_rfl)) (fun _ _ _ h => h) (Or.inr ⟨by rfl, rfl⟩) ?_ ?_
                     rotate_left
                     ·simp only [Act.put, List.setIfInBounds_toArray, List.set_cons_zero, List.set_cons_succ, i64_w, i32_w]
                      rfl
                     refine pure_ (i := 5) (N := some 66) (v := undef) (a' := ?_) #[true, true, true, true, true, true, false, false, false, false, false, false, false, false, false] rfl rfl (any_of HT_.out (by kernel_rfl)) (fun _ _ _ h => h) (Or.inr ⟨by rfl, rfl⟩) ?_ ?_
                     rotate_left
                     ·simp only [Act.put, List.setIfInBounds_toArray, List.set_cons_zero, List.set_cons_succ, i64_w, i32_w]
                      rfl
                     refine pure_ (i := 6) (N := some 67) (v := undef) (a' := ?_) #[true, true, true, true, true, true, true, false, false, false, false, false, false, false, false] rfl rfl (any_of HT_.out (by kernel_rfl)) (fun _ _ _ h => h) (Or.inr ⟨by rfl, rfl⟩) ?_ ?_
                     rotate_left
                     ·simp only [Act.put, List.setIfInBounds_toArray, List.set_cons_zero, List.set_cons_succ, i64_w, i32_w]
                      rfl
                     refine pure_ (i := 7) (N := some 68) (v := undef) (a' := ?_) #[true, true, true, true, true, true, true, true, false, false, false, false, false, false, false] rfl rfl (any_of HT_.out (by kernel_rfl)) (fun _ _ _ h => h) (Or.inr ⟨by rfl, rfl⟩) ?_ ?_
                     rotate_left
                     ·simp only [Act.put, List.setIfInBounds_toArray, List.set_cons_zero, List.set_cons_succ, i64_w, i32_w]
                      rfl
                     refine pure_ (i := 8) (N := some 69) (v := undef) (a' := ?_) #[true, true, true, true, true, true, true, true, true, false, false, false, false, false, false] rfl rfl (any_of HT_.out (by kernel_rfl)) (fun _ _ _ h => h) (Or.inr ⟨by rfl, rfl⟩) ?_ ?_
                     rotate_left
                     ·simp only [Act.put, List.setIfInBounds_toArray, List.set_cons_zero, List.set_cons_succ, i64_w, i32_w]
                      rfl
                     refine pure_ (i := 9) (N := some 70) (v := undef) (a' := ?_) #[true, true, true, true, true, true, true, true, true, true, false, false, false, false, false] rfl rfl (any_of HT_.out (by kernel_rfl)) (fun _ _ _ h => h) (Or.inr ⟨by rfl, rfl⟩) ?_ ?_
                     rotate_left
                     ·simp only [Act.put, List.setIfInBounds_toArray, List.set_cons_zero, List.set_cons_succ, i64_w, i32_w]
                      rfl
                     refine pure_ (i := 10) (N := some 71) (v := undef) (a' := ?_) #[true, true, true, true, true, true, true, true, true, true, true, false, false, false, false] rfl rfl (any_of HT_.out (by kernel_rfl)) (fun _ _ _ h => h) (Or.inr ⟨by rfl, rfl⟩) ?_ ?_
                     rotate_left
                     ·simp only [Act.put, List.setIfInBounds_toArray, List.set_cons_zero, List.set_cons_succ, i64_w, i32_w]
                      rfl
                     refine pure_ (i := 11) (N := some 72) (v := undef) (a' := ?_) #[true, true, true, true, true, true, true, true, true, true, true, true, false, false, false] rfl rfl (any_of HT_.out (by kernel_rfl)) (fun _ _ _ h => h) (Or.inr ⟨by rfl, rfl⟩) ?_ ?_
                     rotate_left
                     ·simp only [Act.put, List.setIfInBounds_toArray, List.set_cons_zero, List.set_cons_succ, i64_w, i32_w]
                      rfl
                     refine pure_ (i := 12) (N := some 73) (v := undef) (a' := ?_) #[true, true, true, true, true, true, true, true, true, true, true, true, true, false, false] rfl rfl (any_of HT_.out (by kernel_rfl)) (fun _ _ _ h => h) (Or.inr ⟨by rfl, rfl⟩) ?_ ?_
                     rotate_left
                     ·simp only [Act.put, List.setIfInBounds_toArray, List.set_cons_zero, List.set_cons_succ, i64_w, i32_w]
                      rfl
                     refine pure_ (i := 13) (N := some 74) (v := undef) (a' := ?_) #[true, true, true, true, true, true, true, true, true, true, true, true, true, true, false] rfl rfl (any_of HT_.out (by kernel_rfl)) (fun _ _ _ h => h) (Or.inr ⟨by rfl, rfl⟩) ?_ ?_
                     rotate_left
                     ·simp only [Act.put, List.setIfInBounds_toArray, List.set_cons_zero, List.set_cons_succ, i64_w, i32_w]
                      rfl
                     refine pure_ (i := 14) (N := some 75) (v := ?_) (a' := ?_) #[true, true, true, true, true, true, true, true, true, true, true, true, true, true, true] rfl rfl (any_of HT_.out (by kernel_rfl)) (fun _ _ _ h => h) (Or.inl ⟨by rfl, ?_⟩) ?_ ?_
                     rotate_left
                     ·intro w'
                      go_simp
                      with_reducible rfl
                     rotate_left
                     ·simp only [Act.put, List.setIfInBounds_toArray, List.set_cons_zero, List.set_cons_succ, i64_w, i32_w]
                      rfl
                     refine done_ (done_of HT_.out (by kernel_rfl)) ?_
                     try go_wp2_with (first | ((with_reducible refine gate_builtin (b := .append) (xs := #[.tmp 76, .tmp 78]) rfl ?_); at_builtin; refine Kd.R_append (Kd.int .i64) (w0 := w) w.heap.size rfl (.tmp 76) (.tmp 78) 40 3 (.int .i64 0) 8 rfl Try.underlying40 info3 rfl (by decide) (by omega) (.slice Ao48 x9_3.length co48) x9_3 x38_3 [.int .i64 x38_3] (fun _ => True) (fun _ => False) rfl rfl ?aP (fun _ hk => hk.elim) ?aF ?aO ?aB ?aS ?aL ?_; (case aP => exact rfl); (case aB => exact (by repeat (first | (with_reducible first | exact HB.out | apply below_alloc | apply pw_below_drewN | apply below_drew1 | refine below_set ?_ GE279.out) | exact HB.out))); (case aF => exact (fun _ _ => trivial)); (case aO => exact (by (with_reducible repeat (first | apply Kd.R_alloc | apply Kd.R_drewN | apply Kd.R_drew)); exact HO_9.out)); (case aS => exact (below_size (by repeat (first | (with_reducible first | exact HB.out | apply below_alloc | apply pw_below_drewN | apply below_drew1 | refine below_set ?_ GE279.out) | exact HB.out)))); (case aL => have := LMc46.out; omega); intro v291 w49 ho hb hg hat; rw [← Ny290.out] at ho; have n0_ := Aside0.mk (Kd.R_over' (by (with_reducible repeat (first | apply Kd.R_alloc | apply Kd.R_drewN | apply Kd.R_drew)); exact HO_6.out) (Kd.R_typed (by (with_reducible repeat (first | apply Kd.R_alloc | apply Kd.R_drewN | apply Kd.R_drew)); exact HO_9.out)) (by decide) hg); have n1_ := Aside0.mk (Kd.R_over' (by (with_reducible repeat (first | apply Kd.R_alloc | apply Kd.R_drewN | apply Kd.R_drew)); exact HO_36.out) (Kd.R_typed (by (with_reducible repeat (first | apply Kd.R_alloc | apply Kd.R_drewN | apply Kd.R_drew)); exact HO_9.out)) (by decide) hg); have n2_ := Aside0.mk (blk_grown (g := gb279) (o := .cells #[.int .i64 ((rd_T102 x6_2 x38_3).f0), .int .i64 ((rd_T102 x6_2 x38_3).f1), .int .i64 ((rd_T102 x6_2 x38_3).f2)] 102 (0, 0)) (by (with_reducible repeat (first | refine blk_drewN ?_ _ | refine blk_drew ?_ | refine blk_alloc ?_ _)); exact BK279.out) hg (Kd.R_ne HO_9.out BK279.out (by decide))); have n3_ := Aside0.mk (hb); have n4_ := Aside0.mk (ho); clear HO_6; clear HO_36; clear BK279; clear HB; clear HO_9; have HO_6 := n0_; have HO_36 := n1_; have BK279 := n2_; have HB := n3_; have HO292 := n4_; clear n0_ n1_ n2_ n3_ n4_; clear ho hb hg hat))
                     go_roundg kj18
                     case measure => have := HJ2.out; have := HK2.out; have := HK3.out; have := HJ18.out; omega
                     case rel => exact ⟨(y290), (wrap64 (x38_3 + 1)), (by first | rfl | (simp; done) | (simp [*]; done)), H', ⟨by have := HJ2.out; have := HK2.out; have := HK3.out; have := HJ18.out; omega⟩, ⟨by (with_reducible repeat (first | apply Kd.R_alloc | apply Kd.R_drewN | apply Kd.R_drew)); exact Kd.R_mono HO_6.out (fun _ hk => trivial)⟩, ⟨by (with_reducible repeat (first | apply Kd.R_alloc | apply Kd.R_drewN | apply Kd.R_drew)); exact HO292.out⟩, ⟨by (with_reducible repeat (first | apply Kd.R_alloc | apply Kd.R_drewN | apply Kd.R_drew)); exact Kd.R_mono HO_36.out (fun _ hk => trivial)⟩, ⟨by repeat (first | (with_reducible first | exact HB.out | apply below_alloc | apply pw_below_drewN | apply below_drew1 | refine below_set ?_ GE279.out) | exact HB.out)⟩⟩
                    ·rw [if_neg c46] at H
                     exact absurd H (by simp)
                   ·rw [if_neg c45] at H
                    have c45b0 : ((x9_3.length : Int) == 0) = false := beq_eq_false_iff_ne.mpr c45
                    have c45b1 : ((x9_3.length : Int) != 0) = true := bne_iff_ne.mpr c45
                    have c45b2 : ¬ (x9_3 = []) := fun h_ => c45 (by rw [h_]; rfl)
                    by_cases c50 : 0 < (x9_3.length : Int)
                    ·rw [if_pos c50] at H
                     have c50b0 : decide (0 < (x9_3.length : Int)) = true := decide_eq_true c50
                     have c50b1 : decide (0 < x9_3.length) = true := decide_eq_true (by omega)
                     clear c50
                     by_cases c51 : 0 ≤ (rd x9_3 0)
                     ·rw [if_pos c51] at H
                      have c51b0 : decide (0 ≤ (rd x9_3 0)) = true := decide_eq_true c51
                      clear c51
                      by_cases c52 : (rd x9_3 0) < (x6_2.length : Int)
                      ·rw [if_pos c52] at H
                       have c52b0 : decide ((rd x9_3 0) < (x6_2.length : Int)) = true := decide_eq_true c52
                       clear c52
                       by_cases c53 : ((rd_T102 x6_2 x38_3).f0) = ((rd_T102 x6_2 (rd x9_3 0)).f0)
                       ·rw [if_pos c53] at H
                        have c53b0 : (((rd_T102 x6_2 x38_3).f0) == ((rd_T102 x6_2 (rd x9_3 0)).f0)) = true := beq_iff_eq.mpr c53
                        have c53b1 : (((rd_T102 x6_2 x38_3).f0) != ((rd_T102 x6_2 (rd x9_3 0)).f0)) = false := bne_eq_false_iff_eq.mpr c53
                        clear c53
                        by_cases c54 : x9_3.length < 17592186044416
                        ·rw [if_pos c54] at H
                         have LMc54 := Aside0.mk c54
                         clear c54
                         obtain ⟨y295, hy295⟩ : ∃ y_ : List Int, y_ = (x9_3 ++ [x38_3]) := ⟨_, rfl⟩
                         replace H : (backoff_Contend.l1 kj18 a0 l1 x6_2 x7_2 x8_2 y295 x6_2 (x6_2.length : Int) (wrap64 (x38_3 + 1))) = some (r1, r2) := by first | (rw [hy295]; with_reducible exact H) | (have H2_ := (Option.bind_some _ _).symm.trans H; rw [hy295]; with_reducible exact H2_) | (have H2_ := (Option.bind_some _ _).symm.trans H; with_reducible exact H2_) | with_reducible exact H | (rw [hy295]; exact H) | exact H
                         have Ny295 := Aside0.mk hy295
                         clear hy295
                         have H' := Aside0.mk H
                         clear H
                         try go_wp2
                         have n0_ := Aside0.mk (Kd.R_drew HO_6.out)
                         have n1_ := Aside0.mk (Kd.R_drew HO_9.out)
                         have n2_ := Aside0.mk (Kd.R_drew HO_36.out)
                         have n3_ := Aside0.mk (blk_drew BK279.out)
                         have n4_ := Aside0.mk (below_drew1 HB.out)
                         clear HO_6
                         clear HO_9
                         clear HO_36
                         clear BK279
                         clear HB
                         have HO_6 := n0_
                         have HO_9 := n1_
                         have HO_36 := n2_
                         have BK279 := n3_
                         have HB := n4_
                         clear n0_ n1_ n2_ n3_ n4_
                         obtain ⟨Ao56, co56, eo56⟩ := Kd.R_slice HO_9.out
                         (first | subst eo56 | (injection eo56 with f1_ f2_ f3_; have f4_ := f1_.symm; have f5_ := f3_.symm; clear f1_ f2_ f3_; subst f4_; subst f5_))
                         have p293 : 0 ≤ (0 : Int) := (by omega)
                         have q293 : 0 < (x9_3.length : Int) := of_decide_eq_true (by first | (with_reducible assumption) | assumption)
                         obtain ⟨ad293, e293, hx293_0⟩ := Kd.at_int (Kd.R_reads' HO_9.out).2.2 0 p293 q293
                         cases e293
                         have qi293 : (0 < x9_3.length) = True := eq_true (by omega)
                         (try rw [show ((0 : Int)).toNat = 0 from rfl] at hx293_0)
                         (try rw [Addr.add_zero'] at hx293_0)
                         replace p293 := eq_true p293
                         replace q293 := eq_true q293
                         have p294 : 0 ≤ ((rd x9_3 0) : Int) := of_decide_eq_true (by first | (with_reducible assumption) | assumption)
                         have q294 : (rd x9_3 0) < (x6_2.length : Int) := of_decide_eq_true (by first | (with_reducible assumption) | assumption)
                         obtain ⟨ad294, e294, hx294_0, hx294_1, hx294_2⟩ := at_T102 (Kd.R_reads' HO_6.out).2.2 (rd x9_3 0) p294 q294
                         obtain rfl : ad278 = ad294 := (by injection e294)
                         replace p294 := eq_true p294
                         replace q294 := eq_true q294
                         refine start_ (n := 15) (S := fun w' => w'.cell? ⟨gb279, 0, none⟩ = some (.int .i64 ((rd_T102 x6_2 x38_3).f0)) ∧ w'.cell? ⟨gb279, 1, none⟩ = some (.int .i64 ((rd_T102 x6_2 x38_3).f1)) ∧ w'.cell? ⟨gb279, 2, none⟩ = some (.int .i64 ((rd_T102 x6_2 x38_3).f2)) ∧ w'.cell? ad293 = some (.int .i64 (rd x9_3 0)) ∧ w'.cell? (ad278.add (((rd x9_3 0)).toNat * 3)) = some (.int .i64 ((rd_T102 x6_2 (rd x9_3 0)).f0)) ∧ w'.cell? ⟨(ad278.add (((rd x9_3 0)).toNat * 3)).block, (ad278.add (((rd x9_3 0)).toNat * 3)).off + 1, none⟩ = some (.int .i64 ((rd_T102 x6_2 (rd x9_3 0)).f1)) ∧ w'.cell? ⟨(ad278.add (((rd x9_3 0)).toNat * 3)).block, (ad278.add (((rd x9_3 0)).toNat * 3)).off + 2, none⟩ = some (.int .i64 ((rd_T102 x6_2 (rd x9_3 0)).f2))) (ds := []) #[false, false, false, false, false, false, false, false, false, false, false, false, false, false, false] (by kernel_rfl) rfl rfl ⟨(blk_cell BK279.out 0).trans rfl, (blk_cell BK279.out 1).trans rfl, (blk_cell BK279.out 2).trans rfl, hx293_0, hx294_0, hx294_1, hx294_2⟩ (fun hHeld => ?_); refine with_tabW backoff_Contend.tab16 backoff_Contend.bits16 (fun HT_ HW_ => ?_)
                         generalize wc.drew = w55 at HO_6 HO_9 HO_36 BK279 HB hx293_0 hx294_0 hx294_1 hx294_2 hHeld ⊢
                         refine pure_ (i := 0) (N := some 61) (v := ?_) (a' := ?_) #[true, false, false, false, false, false, false, false, false, false, false, false, false, false, false] rfl rfl (any_of HT_.out (by kernel_rfl)) (fun _ _ _ h => h) (Or.inl ⟨by rfl, ?_⟩) ?_ ?_
                         rotate_left
                         ·intro w'
                          go_simp
                          with_reducible rfl
                         rotate_left
                         ·simp only [Act.put, List.setIfInBounds_toArray, List.set_cons_zero, List.set_cons_succ, i64_w, i32_w]
                          rfl
                         refine pure_ (i := 1) (N := some 62) (v := ?_) (a' := ?_) #[true, true, false, false, false, false, false, false, false, false, false, false, false, false, false] rfl rfl (any_of HT_.out (by kernel_rfl)) (fun _ _ _ h => h) (Or.inl ⟨by rfl, ?_⟩) ?_ ?_
                         rotate_left
                         ·intro w'
                          go_simp
                          with_reducible rfl
                         rotate_left
                         ·simp only [Act.put, List.setIfInBounds_toArray, List.set_cons_zero, List.set_cons_succ, i64_w, i32_w]
                          rfl
                         refine pure_ (i := 2) (N := some 63) (v := ?_) (a' := ?_) #[true, true, true, false, false, false, false, false, false, false, false, false, false, false, false] rfl rfl (any_of HT_.out (by kernel_rfl)) (fun _ _ _ h => h) (Or.inl ⟨by rfl, ?_⟩) ?_ ?_
                         rotate_left
                         ·intro w'
                          go_simp
                          with_reducible rfl
                         rotate_left
                         ·simp only [Act.put, List.setIfInBounds_toArray, List.set_cons_zero, List.set_cons_succ, i64_w, i32_w]
                          rfl
                         refine pure_ (i := 3) (N := some 64) (v := ?_) (a' := ?_) #[true, true, true, true, false, false, false, false, false, false, false, false, false, false, false] rfl rfl (any_of HT_.out (by kernel_rfl)) (fun _ _ _ h => h) (Or.inl ⟨by rfl, ?_⟩) ?_ ?_
                         rotate_left
                         ·intro w'
                          go_simp
                          with_reducible rfl
                         rotate_left
                         ·simp only [Act.put, List.setIfInBounds_toArray, List.set_cons_zero, List.set_cons_succ, i64_w, i32_w]
                          rfl
                         refine pure_ (i := 4) (N := some 65) (v := ?_) (a' := ?_) #[true, true, true, true, true, false, false, false, false, false, false, false, false, false, false] rfl rfl (any_of HT_.out (by kernel_rfl)) (fun _ _ _ h => h) (Or.inl ⟨by rfl, ?_⟩) ?_ ?_
                         rotate_left
                         ·intro w'
                          go_simp
                          with_reducible rfl
                         rotate_left
                         ·simp only [Act.put, List.setIfInBounds_toArray, List.set_cons_zero, List.set_cons_succ, i64_w, i32_w]
                          rfl
                         refine pure_ (i := 6) (N := some 67) (v := ?_) (a' := ?_) #[true, true, true, true, true, false, true, false, false, false, false, false, false, false, false] rfl rfl (any_of HT_.out (by kernel_rfl)) (fun _ _ _ h => h) (Or.inl ⟨by rfl, ?_⟩) ?_ ?_
                         rotate_left
                         ·intro w'
                          go_simp
                          with_reducible rfl
                         rotate_left
                         ·simp only [Act.put, List.setIfInBounds_toArray, List.set_cons_zero, List.set_cons_succ, i64_w, i32_w]
                          rfl
                         refine pure_ (i := 7) (N := some 68) (v := ?_) (a' := ?_) #[true, true, true, true, true, false, true, true, false, false, false, false, false, false, false] rfl rfl (any_of HT_.out (by kernel_rfl)) (fun _ _ _ h => h) (Or.inl ⟨by rfl, ?_⟩) ?_ ?_
                         rotate_left
                         ·intro w'
                          go_simp
                          with_reducible rfl
                         rotate_left
                         ·simp only [Act.put, List.setIfInBounds_toArray, List.set_cons_zero, List.set_cons_succ, i64_w, i32_w]
                          rfl
                         refine pure_ (i := 8) (N := some 69) (v := ?_) (a' := ?_) #[true, true, true, true, true, false, true, true, true, false, false, false, false, false, false] rfl rfl (any_of HT_.out (by kernel_rfl)) (fun _ _ _ h => h) (Or.inl ⟨by rfl, ?_⟩) ?_ ?_
                         rotate_left
                         ·intro w'
                          go_simp
                          with_reducible rfl
                         rotate_left
                         ·simp only [Act.put, List.setIfInBounds_toArray, List.set_cons_zero, List.set_cons_succ, i64_w, i32_w]
                          rfl
                         refine take_ (i := 5) (N := some 66) (v := ?_) (a' := ?_) #[true, true, true, true, true, true, true, true, true, false, false, false, false, false, false] rfl rfl (take_ofW HT_.out HW_.out (by kernel_rfl)) (fun _ _ _ h => h) (Or.inl ⟨by rfl, ?_⟩) hHeld ?_ ?_
                         rotate_left
                         ·rintro w' ⟨s0, s1, s2, s3, s4, s5, s6⟩
                          go_simp
                          with_reducible rfl
                         rotate_left
                         ·simp only [Act.put, List.setIfInBounds_toArray, List.set_cons_zero, List.set_cons_succ, i64_w, i32_w]
                          rfl
                         refine take_ (i := 9) (N := some 70) (v := ?_) (a' := ?_) #[true, true, true, true, true, true, true, true, true, true, false, false, false, false, false] rfl rfl (take_ofW HT_.out HW_.out (by kernel_rfl)) (fun _ _ _ h => h) (Or.inl ⟨by rfl, ?_⟩) hHeld ?_ ?_
                         rotate_left
                         ·rintro w' ⟨s0, s1, s2, s3, s4, s5, s6⟩
                          go_simp
                          with_reducible rfl
                         rotate_left
                         ·simp only [Act.put, List.setIfInBounds_toArray, List.set_cons_zero, List.set_cons_succ, i64_w, i32_w]
                          rfl
                         refine pure_ (i := 10) (N := some 71) (v := ?_) (a' := ?_) #[true, true, true, true, true, true, true, true, true, true, true, false, false, false, false] rfl rfl (any_of HT_.out (by kernel_rfl)) (fun _ _ _ h => h) (Or.inl ⟨by rfl, ?_⟩) ?_ ?_
                         rotate_left
                         ·intro w'
                          go_simp
                          with_reducible rfl
                         rotate_left
                         ·simp only [Act.put, List.setIfInBounds_toArray, List.set_cons_zero, List.set_cons_succ, i64_w, i32_w]
                          rfl
                         refine pure_ (i := 11) (N := some 72) (v := ?_) (a' := ?_) #[true, true, true, true, true, true, true, true, true, true, true, true, false, false, false] rfl rfl (any_of HT_.out (by kernel_rfl)) (fun _ _ _ h => h) (Or.inl ⟨by rfl, ?_⟩) ?_ ?_
                         rotate_left
                         ·intro w'
                          go_simp
                          with_reducible rfl
                         rotate_left
                         ·simp only [Act.put, List.setIfInBounds_toArray, List.set_cons_zero, List.set_cons_succ, i64_w, i32_w]
                          rfl
                         refine take_ (i := 12) (N := some 73) (v := ?_) (a' := ?_) #[true, true, true, true, true, true, true, true, true, true, true, true, true, false, false] rfl rfl (take_ofW HT_.out HW_.out (by kernel_rfl)) (fun _ _ _ h => h) (Or.inl ⟨by rfl, ?_⟩) hHeld ?_ ?_
                         rotate_left
                         ·rintro w' ⟨s0, s1, s2, s3, s4, s5, s6⟩
                          go_simp
                          with_reducible rfl
                         rotate_left
                         ·simp only [Act.put, List.setIfInBounds_toArray, List.set_cons_zero, List.set_cons_succ, i64_w, i32_w]
                          rfl
                         refine pure_ (i := 13) (N := some 74) (v := ?_) (a' := ?_) #[true, true, true, true, true, true, true, true, true, true, true, true, true, true, false] rfl rfl (any_of HT_.out (by kernel_rfl)) (fun _ _ _ h => h) (Or.inl ⟨by rfl, ?_⟩) ?_ ?_
                         rotate_left
                         ·intro w'
                          go_simp
                          with_reducible rfl
                         rotate_left
                         ·simp only [Act.put, List.setIfInBounds_toArray, List.set_cons_zero, List.set_cons_succ, i64_w, i32_w]
                          rfl
                         refine pure_ (i := 14) (N := some 75) (v := ?_) (a' := ?_) #[true, true, true, true, true, true, true, true, true, true, true, true, true, true, true] rfl rfl (any_of HT_.out (by kernel_rfl)) (fun _ _ _ h => h) (Or.inl ⟨by rfl, ?_⟩) ?_ ?_
                         rotate_left
                         ·intro w'
                          go_simp
                          with_reducible rfl
                         rotate_left
                         ·simp only [Act.put, List.setIfInBounds_toArray, List.set_cons_zero, List.set_cons_succ, i64_w, i32_w]
                          rfl
                         refine done_ (done_of HT_.out (by kernel_rfl)) ?_
                         try go_wp2_with (first | ((with_reducible refine gate_builtin (b := .append) (xs := #[.tmp 76, .tmp 78]) rfl ?_); at_builtin; refine Kd.R_append (Kd.int .i64) (w0 := w) w.heap.size rfl (.tmp 76) (.tmp 78) 40 3 (.int .i64 0) 8 rfl Try.underlying40 info3 rfl (by decide) (by omega) (.slice (some ad293) x9_3.length co56) x9_3 x38_3 [.int .i64 x38_3] (fun _ => True) (fun _ => False) rfl rfl ?aP (fun _ hk => hk.elim) ?aF ?aO ?aB ?aS ?aL ?_; (case aP => exact rfl); (case aB => exact (by repeat (first | (with_reducible first | exact HB.out | apply below_alloc | apply pw_below_drewN | apply below_drew1 | refine below_set ?_ GE279.out) | exact HB.out))); (case aF => exact (fun _ _ => trivial)); (case aO => exact (by (with_reducible repeat (first | apply Kd.R_alloc | apply Kd.R_drewN | apply Kd.R_drew)); exact HO_9.out)); (case aS => exact (below_size (by repeat (first | (with_reducible first | exact HB.out | apply below_alloc | apply pw_below_drewN | apply below_drew1 | refine below_set ?_ GE279.out) | exact HB.out)))); (case aL => have := LMc54.out; omega); intro v296 w57 ho hb hg hat; rw [← Ny295.out] at ho; have n0_ := Aside0.mk (Kd.R_over' (by (with_reducible repeat (first | apply Kd.R_alloc | apply Kd.R_drewN | apply Kd.R_drew)); exact HO_6.out) (Kd.R_typed (by (with_reducible repeat (first | apply Kd.R_alloc | apply Kd.R_drewN | apply Kd.R_drew)); exact HO_9.out)) (by decide) hg); have n1_ := Aside0.mk (Kd.R_over' (by (with_reducible repeat (first | apply Kd.R_alloc | apply Kd.R_drewN | apply Kd.R_drew)); exact HO_36.out) (Kd.R_typed (by (with_reducible repeat (first | apply Kd.R_alloc | apply Kd.R_drewN | apply Kd.R_drew)); exact HO_9.out)) (by decide) hg); have n2_ := Aside0.mk (blk_grown (g := gb279) (o := .cells #[.int .i64 ((rd_T102 x6_2 x38_3).f0), .int .i64 ((rd_T102 x6_2 x38_3).f1), .int .i64 ((rd_T102 x6_2 x38_3).f2)] 102 (0, 0)) (by (with_reducible repeat (first | refine blk_drewN ?_ _ | refine blk_drew ?_ | refine blk_alloc ?_ _)); exact BK279.out) hg (Kd.R_ne HO_9.out BK279.out (by decide))); have n3_ := Aside0.mk (hb); have n4_ := Aside0.mk (ho); clear HO_6; clear HO_36; clear BK279; clear HB; clear HO_9; have HO_6 := n0_; have HO_36 := n1_; have BK279 := n2_; have HB := n3_; have HO297 := n4_; clear n0_ n1_ n2_ n3_ n4_; clear ho hb hg hat))
                         go_roundg kj18
                         case measure => have := HJ2.out; have := HK2.out; have := HK3.out; have := HJ18.out; omega
                         case rel => exact ⟨(y295), (wrap64 (x38_3 + 1)), (by first | rfl | (simp; done) | (simp [*]; done)), H', ⟨by have := HJ2.out; have := HK2.out; have := HK3.out; have := HJ18.out; omega⟩, ⟨by (with_reducible repeat (first | apply Kd.R_alloc | apply Kd.R_drewN | apply Kd.R_drew)); exact Kd.R_mono HO_6.out (fun _ hk => trivial)⟩, ⟨by (with_reducible repeat (first | apply Kd.R_alloc | apply Kd.R_drewN | apply Kd.R_drew)); exact HO297.out⟩, ⟨by (with_reducible repeat (first | apply Kd.R_alloc | apply Kd.R_drewN | apply Kd.R_drew)); exact Kd.R_mono HO_36.out (fun _ hk => trivial)⟩, ⟨by repeat (first | (with_reducible first | exact HB.out | apply below_alloc | apply pw_below_drewN | apply below_drew1 | refine below_set ?_ GE279.out) | exact HB.out)⟩⟩
                        ·rw [if_neg c54] at H
                         exact absurd H (by simp)
                       ·rw [if_neg c53] at H
                        have c53b0 : (((rd_T102 x6_2 x38_3).f0) == ((rd_T102 x6_2 (rd x9_3 0)).f0)) = false := beq_eq_false_iff_ne.mpr c53
                        have c53b1 : (((rd_T102 x6_2 x38_3).f0) != ((rd_T102 x6_2 (rd x9_3 0)).f0)) = true := bne_iff_ne.mpr c53
                        have H' := Aside0.mk H
                        clear H
                        try go_wp2
                        have n0_ := Aside0.mk (Kd.R_drew HO_6.out)
                        have n1_ := Aside0.mk (Kd.R_drew HO_9.out)
                        have n2_ := Aside0.mk (Kd.R_drew HO_36.out)
                        have n3_ := Aside0.mk (blk_drew BK279.out)
                        have n4_ := Aside0.mk (below_drew1 HB.out)
                        clear HO_6
                        clear HO_9
                        clear HO_36
                        clear BK279
                        clear HB
                        have HO_6 := n0_
                        have HO_9 := n1_
                        have HO_36 := n2_
                        have BK279 := n3_
                        have HB := n4_
                        clear n0_ n1_ n2_ n3_ n4_
                        obtain ⟨Ao59, co59, eo59⟩ := Kd.R_slice HO_9.out
                        (first | subst eo59 | (injection eo59 with f1_ f2_ f3_; have f4_ := f1_.symm; have f5_ := f3_.symm; clear f1_ f2_ f3_; subst f4_; subst f5_))
                        have p293 : 0 ≤ (0 : Int) := (by omega)
                        have q293 : 0 < (x9_3.length : Int) := of_decide_eq_true (by first | (with_reducible assumption) | assumption)
                        obtain ⟨ad293, e293, hx293_0⟩ := Kd.at_int (Kd.R_reads' HO_9.out).2.2 0 p293 q293
                        cases e293
                        have qi293 : (0 < x9_3.length) = True := eq_true (by omega)
                        (try rw [show ((0 : Int)).toNat = 0 from rfl] at hx293_0)
                        (try rw [Addr.add_zero'] at hx293_0)
                        replace p293 := eq_true p293
                        replace q293 := eq_true q293
                        have p294 : 0 ≤ ((rd x9_3 0) : Int) := of_decide_eq_true (by first | (with_reducible assumption) | assumption)
                        have q294 : (rd x9_3 0) < (x6_2.length : Int) := of_decide_eq_true (by first | (with_reducible assumption) | assumption)
                        obtain ⟨ad294, e294, hx294_0, hx294_1, hx294_2⟩ := at_T102 (Kd.R_reads' HO_6.out).2.2 (rd x9_3 0) p294 q294
                        obtain rfl : ad278 = ad294 := (by injection e294)
                        replace p294 := eq_true p294
                        replace q294 := eq_true q294
                        refine start_ (n := 15) (S := fun w' => w'.cell? ⟨gb279, 0, none⟩ = some (.int .i64 ((rd_T102 x6_2 x38_3).f0)) ∧ w'.cell? ⟨gb279, 1, none⟩ = some (.int .i64 ((rd_T102 x6_2 x38_3).f1)) ∧ w'.cell? ⟨gb279, 2, none⟩ = some (.int .i64 ((rd_T102 x6_2 x38_3).f2)) ∧ w'.cell? ad293 = some (.int .i64 (rd x9_3 0)) ∧ w'.cell? (ad278.add (((rd x9_3 0)).toNat * 3)) = some (.int .i64 ((rd_T102 x6_2 (rd x9_3 0)).f0)) ∧ w'.cell? ⟨(ad278.add (((rd x9_3 0)).toNat * 3)).block, (ad278.add (((rd x9_3 0)).toNat * 3)).off + 1, none⟩ = some (.int .i64 ((rd_T102 x6_2 (rd x9_3 0)).f1)) ∧ w'.cell? ⟨(ad278.add (((rd x9_3 0)).toNat * 3)).block, (ad278.add (((rd x9_3 0)).toNat * 3)).off + 2, none⟩ = some (.int .i64 ((rd_T102 x6_2 (rd x9_3 0)).f2))) (ds := []) #[false, false, false, false, false, false, false, false, false, false, false, false, false, false, false] (by kernel_rfl) rfl rfl ⟨(blk_cell BK279.out 0).trans rfl, (blk_cell BK279.out 1).trans rfl, (blk_cell BK279.out 2).trans rfl, hx293_0, hx294_0, hx294_1, hx294_2⟩ (fun hHeld => ?_); refine with_tabW backoff_Contend.tab16 backoff_Contend.bits16 (fun HT_ HW_ => ?_)
                        generalize wc.drew = w58 at HO_6 HO_9 HO_36 BK279 HB hx293_0 hx294_0 hx294_1 hx294_2 hHeld ⊢
                        refine pure_ (i := 0) (N := some 61) (v := ?_) (a' := ?_) #[true, false, false, false, false, false, false, false, false, false, false, false, false, false, false] rfl rfl (any_of HT_.out (by kernel_rfl)) (fun _ _ _ h => h) (Or.inl ⟨by rfl, ?_⟩) ?_ ?_
                        rotate_left
                        ·intro w'
                         go_simp
                         with_reducible rfl
                        rotate_left
                        ·simp only [Act.put, List.setIfInBounds_toArray, List.set_cons_zero, List.set_cons_succ, i64_w, i32_w]
                         rfl
                        refine pure_ (i := 1) (N := some 62) (v := ?_) (a' := ?_) #[true, true, false, false, false, false, false, false, false, false, false, false, false, false, false] rfl rfl (any_of HT_.out (by kernel_rfl)) (fun _ _ _ h => h) (Or.inl ⟨by rfl, ?_⟩) ?_ ?_
                        rotate_left
                        ·intro w'
                         go_simp
                         with_reducible rfl
                        rotate_left
                        ·simp only [Act.put, List.setIfInBounds_toArray, List.set_cons_zero, List.set_cons_succ, i64_w, i32_w]
                         rfl
                        refine pure_ (i := 2) (N := some 63) (v := ?_) (a' := ?_) #[true, true, true, false, false, false, false, false, false, false, false, false, false, false, false] rfl rfl (any_of HT_.out (by kernel_rfl)) (fun _ _ _ h => h) (Or.inl ⟨by rfl, ?_⟩) ?_ ?_
                        rotate_left
                        ·intro w'
                         go_simp
                         with_reducible rfl
                        rotate_left
                        ·simp only [Act.put, List.setIfInBounds_toArray, List.set_cons_zero, List.set_cons_succ, i64_w, i32_w]
                         rfl
                        refine pure_ (i := 3) (N := some 64) (v := ?_) (a' := ?_) #[true, true, true, true, false, false, false, false, false, false, false, false, false, false, false] rfl rfl (any_of HT_.out (by kernel_rfl)) (fun _ _ _ h => h) (Or.inl ⟨by rfl, ?_⟩) ?_ ?_
                        rotate_left
                        ·intro w'
                         go_simp
                         with_reducible rfl
                        rotate_left
                        ·simp only [Act.put, List.setIfInBounds_toArray, List.set_cons_zero, List.set_cons_succ, i64_w, i32_w]
                         rfl
                        refine pure_ (i := 4) (N := some 65) (v := ?_) (a' := ?_) #[true, true, true, true, true, false, false, false, false, false, false, false, false, false, false] rfl rfl (any_of HT_.out (by kernel_rfl)) (fun _ _ _ h => h) (Or.inl ⟨by rfl, ?_⟩) ?_ ?_
                        rotate_left
                        ·intro w'
                         go_simp
                         with_reducible rfl
                        rotate_left
                        ·simp only [Act.put, List.setIfInBounds_toArray, List.set_cons_zero, List.set_cons_succ, i64_w, i32_w]
                         rfl
                        refine pure_ (i := 6) (N := some 67) (v := ?_) (a' := ?_) #[true, true, true, true, true, false, true, false, false, false, false, false, false, false, false] rfl rfl (any_of HT_.out (by kernel_rfl)) (fun _ _ _ h => h) (Or.inl ⟨by rfl, ?_⟩) ?_ ?_
                        rotate_left
                        ·intro w'
                         go_simp
                         with_reducible rfl
                        rotate_left
                        ·simp only [Act.put, List.setIfInBounds_toArray, List.set_cons_zero, List.set_cons_succ, i64_w, i32_w]
                         rfl
                        refine pure_ (i := 7) (N := some 68) (v := ?_) (a' := ?_) #[true, true, true, true, true, false, true, true, false, false, false, false, false, false, false] rfl rfl (any_of HT_.out (by kernel_rfl)) (fun _ _ _ h => h) (Or.inl ⟨by rfl, ?_⟩) ?_ ?_
                        rotate_left
                        ·intro w'
                         go_simp
                         with_reducible rfl
                        rotate_left
                        ·simp only [Act.put, List.setIfInBounds_toArray, List.set_cons_zero, List.set_cons_succ, i64_w, i32_w]
                         rfl
                        refine pure_ (i := 8) (N := some 69) (v := ?_) (a' := ?_) #[true, true, true, true, true, false, true, true, true, false, false, false, false, false, false] rfl rfl (any_of HT_.out (by kernel_rfl)) (fun _ _ _ h => h) (Or.inl ⟨by rfl, ?_⟩) ?_ ?_
                        rotate_left
                        ·intro w'
                         go_simp
                         with_reducible rfl
                        rotate_left
                        ·simp only [Act.put, List.setIfInBounds_toArray, List.set_cons_zero, List.set_cons_succ, i64_w, i32_w]
                         rfl
                        refine take_ (i := 5) (N := some 66) (v := ?_) (a' := ?_) #[true, true, true, true, true, true, true, true, true, false, false, false, false, false, false] rfl rfl (take_ofW HT_.out HW_.out (by kernel_rfl)) (fun _ _ _ h => h) (Or.inl ⟨by rfl, ?_⟩) hHeld ?_ ?_
                        rotate_left
                        ·rintro w' ⟨s0, s1, s2, s3, s4, s5, s6⟩
                         go_simp
                         with_reducible rfl
                        rotate_left
                        ·simp only [Act.put, List.setIfInBounds_toArray, List.set_cons_zero, List.set_cons_succ, i64_w, i32_w]
                         rfl
                        refine take_ (i := 9) (N := some 70) (v := ?_) (a' := ?_) #[true, true, true, true, true, true, true, true, true, true, false, false, false, false, false] rfl rfl (take_ofW HT_.out HW_.out (by kernel_rfl)) (fun _ _ _ h => h) (Or.inl ⟨by rfl, ?_⟩) hHeld ?_ ?_
                        rotate_left
                        ·rintro w' ⟨s0, s1, s2, s3, s4, s5, s6⟩
                         go_simp
                         with_reducible rfl
                        rotate_left
                        ·simp only [Act.put, List.setIfInBounds_toArray, List.set_cons_zero, List.set_cons_succ, i64_w, i32_w]
                         rfl
                        refine pure_ (i := 10) (N := some 71) (v := ?_) (a' := ?_) #[true, true, true, true, true, true, true, true, true, true, true, false, false, false, false] rfl rfl (any_of HT_.out (by kernel_rfl)) (fun _ _ _ h => h) (Or.inl ⟨by rfl, ?_⟩) ?_ ?_
                        rotate_left
                        ·intro w'
                         go_simp
                         with_reducible rfl
                        rotate_left
                        ·simp only [Act.put, List.setIfInBounds_toArray, List.set_cons_zero, List.set_cons_succ, i64_w, i32_w]
                         rfl
                        refine pure_ (i := 11) (N := some 72) (v := ?_) (a' := ?_) #[true, true, true, true, true, true, true, true, true, true, true, true, false, false, false] rfl rfl (any_of HT_.out (by kernel_rfl)) (fun _ _ _ h => h) (Or.inl ⟨by rfl, ?_⟩) ?_ ?_
                        rotate_left
                        ·intro w'
                         go_simp
                         with_reducible rfl
                        rotate_left
                        ·simp only [Act.put, List.setIfInBounds_toArray, List.set_cons_zero, List.set_cons_succ, i64_w, i32_w]
                         rfl
                        refine take_ (i := 12) (N := some 73) (v := ?_) (a' := ?_) #[true, true, true, true, true, true, true, true, true, true, true, true, true, false, false] rfl rfl (take_ofW HT_.out HW_.out (by kernel_rfl)) (fun _ _ _ h => h) (Or.inl ⟨by rfl, ?_⟩) hHeld ?_ ?_
                        rotate_left
                        ·rintro w' ⟨s0, s1, s2, s3, s4, s5, s6⟩
                         go_simp
                         with_reducible rfl
                        rotate_left
                        ·simp only [Act.put, List.setIfInBounds_toArray, List.set_cons_zero, List.set_cons_succ, i64_w, i32_w]
                         rfl
                        refine pure_ (i := 13) (N := some 74) (v := ?_) (a' := ?_) #[true, true, true, true, true, true, true, true, true, true, true, true, true, true, false] rfl rfl (any_of HT_.out (by kernel_rfl)) (fun _ _ _ h => h) (Or.inl ⟨by rfl, ?_⟩) ?_ ?_
                        rotate_left
                        ·intro w'
                         go_simp
                         with_reducible rfl
                        rotate_left
                        ·simp only [Act.put, List.setIfInBounds_toArray, List.set_cons_zero, List.set_cons_succ, i64_w, i32_w]
                         rfl
                        refine pure_ (i := 14) (N := some 75) (v := ?_) (a' := ?_) #[true, true, true, true, true, true, true, true, true, true, true, true, true, true, true] rfl rfl (any_of HT_.out (by kernel_rfl)) (fun _ _ _ h => h) (Or.inl ⟨by rfl, ?_⟩) ?_ ?_
                        rotate_left
                        ·intro w'
                         go_simp
                         with_reducible rfl
                        rotate_left
                        ·simp only [Act.put, List.setIfInBounds_toArray, List.set_cons_zero, List.set_cons_succ, i64_w, i32_w]
                         rfl
                        refine done_ (done_of HT_.out (by kernel_rfl)) ?_
                        try go_wp2
                        go_roundg kj18
                        case measure => have := HJ2.out; have := HK2.out; have := HK3.out; have := HJ18.out; omega
                        case rel => exact ⟨(x9_3), (wrap64 (x38_3 + 1)), (by first | rfl | (simp; done) | (simp [*]; done)), H', ⟨by have := HJ2.out; have := HK2.out; have := HK3.out; have := HJ18.out; omega⟩, ⟨by (with_reducible repeat (first | apply Kd.R_alloc | apply Kd.R_drewN | apply Kd.R_drew)); exact Kd.R_mono HO_6.out (fun _ hk => trivial)⟩, ⟨by (with_reducible repeat (first | apply Kd.R_alloc | apply Kd.R_drewN | apply Kd.R_drew)); exact HO_9.out⟩, ⟨by (with_reducible repeat (first | apply Kd.R_alloc | apply Kd.R_drewN | apply Kd.R_drew)); exact Kd.R_mono HO_36.out (fun _ hk => trivial)⟩, ⟨by repeat (first | (with_reducible first | exact HB.out | apply below_alloc | apply pw_below_drewN | apply below_drew1 | refine below_set ?_ GE279.out) | exact HB.out)⟩⟩
                      ·rw [if_neg c52] at H
                       exact absurd H (by simp)
                     ·rw [if_neg c51] at H
                      exact absurd H (by simp)
                    ·rw [if_neg c50] at H
                     exact absurd H (by simp)
              ·rw [if_neg c15] at H
               exact absurd H (by simp)
             ·rw [if_neg c14] at H
              exact absurd H (by simp)
            ·rw [if_neg c13] at H
             have c13b0 : decide (x38_3 < (x6_2.length : Int)) = false := decide_eq_false c13
             clear c13
             by_cases c60 : 0 < (x9_3.length : Int)
             ·rw [if_pos c60] at H
              have c60b0 : decide (0 < (x9_3.length : Int)) = true := decide_eq_true c60
              have c60b1 : decide (0 < x9_3.length) = true := decide_eq_true (by omega)
              clear c60
              by_cases c61 : 0 ≤ (rd x9_3 0)
              ·rw [if_pos c61] at H
               have c61b0 : decide (0 ≤ (rd x9_3 0)) = true := decide_eq_true c61
               clear c61
               by_cases c62 : (rd x9_3 0) < (x6_2.length : Int)
               ·rw [if_pos c62] at H
                have c62b0 : decide ((rd x9_3 0) < (x6_2.length : Int)) = true := decide_eq_true c62
                clear c62
                by_cases c63 : (x9_3.length : Int) = 1
                ·rw [if_pos c63] at H
                 have c63b0 : ((x9_3.length : Int) == 1) = true := beq_iff_eq.mpr c63
                 have c63b1 : ((x9_3.length : Int) != 1) = false := bne_eq_false_iff_eq.mpr c63
                 clear c63
                 obtain ⟨y302, hy302⟩ : ∃ y_ : List (S102), y_ = (x6_2.set ((rd x9_3 0) : Int).toNat (⟨(rd_T102 x6_2 (rd x9_3 0)).f0, (rd_T102 x6_2 (rd x9_3 0)).f1, (rd_T102 x6_2 (rd x9_3 0)).f0⟩ : S102)) := ⟨_, rfl⟩
                 replace H : (backoff_Contend.l0 k3 a0 l1 (y302.set ((rd x9_3 0) : Int).toNat (⟨(-1), (rd_T102 y302 (rd x9_3 0)).f1, (rd_T102 y302 (rd x9_3 0)).f2⟩ : S102)) x7_2 (wrap64 (x8_2 - 1))) = some (r1, r2) := by first | (rw [hy302]; with_reducible exact H) | (have H2_ := (Option.bind_some _ _).symm.trans H; rw [hy302]; with_reducible exact H2_) | (have H2_ := (Option.bind_some _ _).symm.trans H; with_reducible exact H2_) | with_reducible exact H | (rw [hy302]; exact H) | exact H
                 have Ny302 := Aside0.mk hy302
                 clear hy302
                 obtain ⟨y303, hy303⟩ : ∃ y_ : List (S102), y_ = (y302.set ((rd x9_3 0) : Int).toNat (⟨(-1), (rd_T102 y302 (rd x9_3 0)).f1, (rd_T102 y302 (rd x9_3 0)).f2⟩ : S102)) := ⟨_, rfl⟩
                 replace H : (backoff_Contend.l0 k3 a0 l1 y303 x7_2 (wrap64 (x8_2 - 1))) = some (r1, r2) := by first | (rw [hy303]; with_reducible exact H) | (have H2_ := (Option.bind_some _ _).symm.trans H; rw [hy303]; with_reducible exact H2_) | (have H2_ := (Option.bind_some _ _).symm.trans H; with_reducible exact H2_) | with_reducible exact H | (rw [hy303]; exact H) | exact H
                 have Ny303 := Aside0.mk hy303
                 clear hy303
                 have H' := Aside0.mk H
                 clear H
                 obtain ⟨Ao66, co66, eo66⟩ := Kd.R_slice HO_9.out
                 subst eo66
                 have p298 : 0 ≤ (0 : Int) := (by omega)
                 have q298 : 0 < (x9_3.length : Int) := of_decide_eq_true (by first | (with_reducible assumption) | assumption)
                 obtain ⟨ad298, e298, hx298_0⟩ := Kd.at_int (Kd.R_reads' HO_9.out).2.2 0 p298 q298
                 cases e298
                 have qi298 : (0 < x9_3.length) = True := eq_true (by omega)
                 (try rw [show ((0 : Int)).toNat = 0 from rfl] at hx298_0)
                 (try rw [Addr.add_zero'] at hx298_0)
                 replace p298 := eq_true p298
                 replace q298 := eq_true q298
                 have p299 : 0 ≤ ((rd x9_3 0) : Int) := of_decide_eq_true (by first | (with_reducible assumption) | assumption)
                 have q299 : (rd x9_3 0) < (x6_2.length : Int) := of_decide_eq_true (by first | (with_reducible assumption) | assumption)
                 obtain ⟨ad299, e299, hx299_0, hx299_1, hx299_2⟩ := at_T102 (Kd.R_reads' HO_6.out).2.2 (rd x9_3 0) p299 q299
                 cases e299
                 replace p299 := eq_true p299
                 replace q299 := eq_true q299
                 try go_wp2
                 have n0_ := Aside0.mk (Kd.R_drew HO_6.out)
                 have n1_ := Aside0.mk (Kd.R_drew HO_9.out)
                 have n2_ := Aside0.mk (Kd.R_drew HO_36.out)
                 have n3_ := Aside0.mk (below_drew1 HB.out)
                 clear HO_6
                 clear HO_9
                 clear HO_36
                 clear HB
                 have HO_6 := n0_
                 have HO_9 := n1_
                 have HO_36 := n2_
                 have HB := n3_
                 clear n0_ n1_ n2_ n3_
                 have p300 : 0 ≤ (0 : Int) := (by omega)
                 have q300 : 0 < (x9_3.length : Int) := of_decide_eq_true (by first | (with_reducible assumption) | assumption)
                 obtain ⟨ad300, e300, hx300_0⟩ := Kd.at_int (Kd.R_reads' HO_9.out).2.2 0 p300 q300
                 obtain rfl : ad298 = ad300 := (by injection e300)
                 have qi300 : (0 < x9_3.length) = True := eq_true (by omega)
                 (try rw [show ((0 : Int)).toNat = 0 from rfl] at hx300_0)
                 (try rw [Addr.add_zero'] at hx300_0)
                 replace p300 := eq_true p300
                 replace q300 := eq_true q300
                 have p301 : 0 ≤ (0 : Int) := (by omega)
                 have q301 : 0 < (x9_3.length : Int) := of_decide_eq_true (by first | (with_reducible assumption) | assumption)
                 obtain ⟨ad301, e301, hx301_0⟩ := Kd.at_int (Kd.R_reads' HO_9.out).2.2 0 p301 q301
                 obtain rfl : ad298 = ad301 := (by injection e301)
                 have qi301 : (0 < x9_3.length) = True := eq_true (by omega)
                 (try rw [show ((0 : Int)).toNat = 0 from rfl] at hx301_0)
                 (try rw [Addr.add_zero'] at hx301_0)
                 replace p301 := eq_true p301
                 replace q301 := eq_true q301
                 have p64 : 0 ≤ ((rd x9_3 0) : Int) := of_decide_eq_true (by first | (with_reducible assumption) | assumption)
                 have q64 : ((rd x9_3 0) : Int) < ((x6_2.length : Int) : Int) := of_decide_eq_true (by first | (with_reducible assumption) | assumption)
                 obtain ⟨go64, co64, eo64, gb64, gl64, cl64, HG64⟩ := Kd.R_form HO_6.out (by omega)
                 (first | cases eo64 | (injection eo64 with ea_ en_ ec_; (first | subst ea_ | (injection ea_ with ea_; subst ea_)); subst ec_; clear en_))
                 have GB64 := Aside0.mk gb64
                 have GG64 := Aside0.mk HG64
                 clear gb64 gl64 HG64
                 (first | simp only [add_plain] at hx299_0 | skip)
                 (first | simp only [add_plain] at hx299_1 | skip)
                 (first | simp only [add_plain] at hx299_2 | skip)
                 obtain ⟨ce64, hcl64, hM64, hcc64, hfr64⟩ := Kd.R_elem HO_6.out z102 ((rd x9_3 0) : Int) p64 q64
                 obtain rfl := k102_openM hM64
                 have hx64_0 : World.cell? _ ⟨go64, ((rd x9_3 0) : Int).toNat * 3, none⟩ = some (.int .i64 ((rd_T102 x6_2 (rd x9_3 0)).f0)) := hcc64 0 _ rfl
                 have hx64_1 : World.cell? _ ⟨go64, ((rd x9_3 0) : Int).toNat * 3 + 1, none⟩ = some (.int .i64 ((rd_T102 x6_2 (rd x9_3 0)).f1)) := hcc64 1 _ rfl
                 have hx64_2 : World.cell? _ ⟨go64, ((rd x9_3 0) : Int).toNat * 3 + 2, none⟩ = some (.int .i64 ((rd_T102 x6_2 (rd x9_3 0)).f2)) := hcc64 2 _ rfl
                 have hf64_0 : World.frozen? _ ⟨go64, ((rd x9_3 0) : Int).toNat * 3, none⟩ = false := hfr64 0
                 have hf64_1 : World.frozen? _ ⟨go64, ((rd x9_3 0) : Int).toNat * 3 + 1, none⟩ = false := hfr64 1
                 have hf64_2 : World.frozen? _ ⟨go64, ((rd x9_3 0) : Int).toNat * 3 + 2, none⟩ = false := hfr64 2
                 clear hcl64 hcc64 hfr64 hM64
                 replace p64 := eq_true p64
                 replace q64 := eq_true q64
                 obtain ⟨ce68, hcl68, hM68, hcc68, hfr68⟩ := Kd.R_elem HO_6.out z102 ((rd x9_3 0) : Int) (of_decide_eq_true (by first | (with_reducible assumption) | assumption)) (by have h_ : ((rd x9_3 0) : Int) < ((x6_2.length : Int) : Int) := of_decide_eq_true (by first | (with_reducible assumption) | assumption); first | exact h_ | (have e_ := (Kd.R_reads' HO_6.out).1; omega) | simpa using h_)
                 obtain rfl := k102_openM hM68
                 have HP68 := (Kd.R_seg HO_6.out ((rd x9_3 0) : Int) (of_decide_eq_true (by first | (with_reducible assumption) | assumption)) (by have h_ : ((rd x9_3 0) : Int) < ((x6_2.length : Int) : Int) := of_decide_eq_true (by first | (with_reducible assumption) | assumption); first | exact h_ | (have e_ := (Kd.R_reads' HO_6.out).1; omega) | simpa using h_) (seg := [.int .i64 ((rd_T102 x6_2 (rd x9_3 0)).f0)]) (j := 2) hcl68 hcc68 (show 3 ≤ 3 from by decide) (x' := (⟨(rd_T102 x6_2 (rd x9_3 0)).f0, (rd_T102 x6_2 (rd x9_3 0)).f1, (rd_T102 x6_2 (rd x9_3 0)).f0⟩ : S102)) (k102_mkM _ _ _ (⟨(rd_T102 x6_2 (rd x9_3 0)).f0, (rd_T102 x6_2 (rd x9_3 0)).f1, (rd_T102 x6_2 (rd x9_3 0)).f0⟩ : S102) ) (fun _ hk => hk)).1
                 rw [← Ny302.out] at HP68
                 have HQ68 := Aside0.mk HP68
                 clear hcl68 hcc68 hfr68 hM68 HP68
                 have p65 : 0 ≤ ((rd x9_3 0) : Int) := of_decide_eq_true (by first | (with_reducible assumption) | assumption)
                 have q65 : ((rd x9_3 0) : Int) < ((x6_2.length : Int) : Int) := of_decide_eq_true (by first | (with_reducible assumption) | assumption)
                 replace p65 := eq_true p65
                 replace q65 := eq_true q65
                 obtain ⟨ce69, hcl69, hM69, hcc69, hfr69⟩ := Kd.R_elem HQ68.out z102 ((rd x9_3 0) : Int) (of_decide_eq_true (by first | (with_reducible assumption) | assumption)) (by have h_ : ((rd x9_3 0) : Int) < ((x6_2.length : Int) : Int) := of_decide_eq_true (by first | (with_reducible assumption) | assumption); first | exact h_ | (have e_ := (Kd.R_reads' HO_6.out).1; omega) | simpa using h_)
                 obtain rfl := k102_openM hM69
                 have HP69 := (Kd.R_seg HQ68.out ((rd x9_3 0) : Int) (of_decide_eq_true (by first | (with_reducible assumption) | assumption)) (by have h_ : ((rd x9_3 0) : Int) < ((x6_2.length : Int) : Int) := of_decide_eq_true (by first | (with_reducible assumption) | assumption); first | exact h_ | (have e_ := (Kd.R_reads' HO_6.out).1; omega) | simpa using h_) (seg := [.int .i64 (-1)]) (j := 0) hcl69 hcc69 (show 1 ≤ 3 from by decide) (x' := (⟨(-1), (rd_T102 y302 (rd x9_3 0)).f1, (rd_T102 y302 (rd x9_3 0)).f2⟩ : S102)) (k102_mkM _ _ _ (⟨(-1), (rd_T102 y302 (rd x9_3 0)).f1, (rd_T102 y302 (rd x9_3 0)).f2⟩ : S102) ) (fun _ hk => hk)).1
                 rw [← Ny303.out] at HP69
                 have HQ69 := Aside0.mk HP69
                 clear hcl69 hcc69 hfr69 hM69 HP69
                 refine start_ (n := 15) (S := fun w' => w'.cell? ad298 = some (.int .i64 (rd x9_3 0)) ∧ w'.cell? ad298 = some (.int .i64 (rd x9_3 0))) (ds := [11, 14]) #[false, false, false, false, false, false, false, false, false, false, false, false, false, false, false] (by kernel_rfl) rfl rfl ⟨hx300_0, hx301_0⟩ (fun hHeld => ?_); refine with_tabW backoff_Contend.tab21 backoff_Contend.bits21 (fun HT_ HW_ => ?_)
                 generalize wr.drew = w67 at HO_6 HO_9 HO_36 HB GG64 HQ68 HQ69 hf64_0 hf64_1 hf64_2 hx299_0 hx299_1 hx299_2 hx300_0 hx301_0 hx64_0 hx64_1 hx64_2 hHeld ⊢
                 refine pure_ (i := 0) (N := some 91) (v := ?_) (a' := ?_) #[true, false, false, false, false, false, false, false, false, false, false, false, false, false, false] rfl rfl (any_of HT_.out (by kernel_rfl)) (fun _ _ _ h => h) (Or.inl ⟨by rfl, ?_⟩) ?_ ?_
                 rotate_left
                 ·intro w'
                  go_simp
                  with_reducible rfl
                 rotate_left
                 ·simp only [Act.put, List.setIfInBounds_toArray, List.set_cons_zero, List.set_cons_succ, i64_w, i32_w]
                  rfl
                 refine pure_ (i := 1) (N := some 92) (v := ?_) (a' := ?_) #[true, true, false, false, false, false, false, false, false, false, false, false, false, false, false] rfl rfl (any_of HT_.out (by kernel_rfl)) (fun _ _ _ h => h) (Or.inl ⟨by rfl, ?_⟩) ?_ ?_
                 rotate_left
                 ·intro w'
                  go_simp
                  with_reducible rfl
                 rotate_left
                 ·simp only [Act.put, List.setIfInBounds_toArray, List.set_cons_zero, List.set_cons_succ, i64_w, i32_w]
                  rfl
                 refine pure_ (i := 2) (N := some 93) (v := ?_) (a' := ?_) #[true, true, true, false, false, false, false, false, false, false, false, false, false, false, false] rfl rfl (any_of HT_.out (by kernel_rfl)) (fun _ _ _ h => h) (Or.inl ⟨by rfl, ?_⟩) ?_ ?_
                 rotate_left
                 ·intro w'
                  go_simp
                  with_reducible rfl
                 rotate_left
                 ·simp only [Act.put, List.setIfInBounds_toArray, List.set_cons_zero, List.set_cons_succ, i64_w, i32_w]
                  rfl
                 refine pure_ (i := 4) (N := some 95) (v := ?_) (a' := ?_) #[true, true, true, false, true, false, false, false, false, false, false, false, false, false, false] rfl rfl (any_of HT_.out (by kernel_rfl)) (fun _ _ _ h => h) (Or.inl ⟨by rfl, ?_⟩) ?_ ?_
                 rotate_left
                 ·intro w'
                  go_simp
                  with_reducible rfl
                 rotate_left
                 ·simp only [Act.put, List.setIfInBounds_toArray, List.set_cons_zero, List.set_cons_succ, i64_w, i32_w]
                  rfl
                 refine pure_ (i := 5) (N := some 96) (v := ?_) (a' := ?_) #[true, true, true, false, true, true, false, false, false, false, false, false, false, false, false] rfl rfl (any_of HT_.out (by kernel_rfl)) (fun _ _ _ h => h) (Or.inl ⟨by rfl, ?_⟩) ?_ ?_
                 rotate_left
                 ·intro w'
                  go_simp
                  with_reducible rfl
                 rotate_left
                 ·simp only [Act.put, List.setIfInBounds_toArray, List.set_cons_zero, List.set_cons_succ, i64_w, i32_w]
                  rfl
                 refine pure_ (i := 6) (N := some 97) (v := ?_) (a' := ?_) #[true, true, true, false, true, true, true, false, false, false, false, false, false, false, false] rfl rfl (any_of HT_.out (by kernel_rfl)) (fun _ _ _ h => h) (Or.inl ⟨by rfl, ?_⟩) ?_ ?_
                 rotate_left
                 ·intro w'
                  go_simp
                  with_reducible rfl
                 rotate_left
                 ·simp only [Act.put, List.setIfInBounds_toArray, List.set_cons_zero, List.set_cons_succ, i64_w, i32_w]
                  rfl
                 refine pure_ (i := 8) (N := some 99) (v := ?_) (a' := ?_) #[true, true, true, false, true, true, true, false, true, false, false, false, false, false, false] rfl rfl (any_of HT_.out (by kernel_rfl)) (fun _ _ _ h => h) (Or.inl ⟨by rfl, ?_⟩) ?_ ?_
                 rotate_left
                 ·intro w'
                  go_simp
                  with_reducible rfl
                 rotate_left
                 ·simp only [Act.put, List.setIfInBounds_toArray, List.set_cons_zero, List.set_cons_succ, i64_w, i32_w]
                  rfl
                 refine take_ (i := 3) (N := some 94) (v := ?_) (a' := ?_) #[true, true, true, true, true, true, true, false, true, false, false, false, false, false, false] rfl rfl (take_ofW HT_.out HW_.out (by kernel_rfl)) (fun _ _ _ h => h) (Or.inl ⟨by rfl, ?_⟩) hHeld ?_ ?_
                 rotate_left
                 ·rintro w' ⟨s0, s1⟩
                  go_simp
                  with_reducible rfl
                 rotate_left
                 ·simp only [Act.put, List.setIfInBounds_toArray, List.set_cons_zero, List.set_cons_succ, i64_w, i32_w]
                  rfl
                 refine take_ (i := 7) (N := some 98) (v := ?_) (a' := ?_) #[true, true, true, true, true, true, true, true, true, false, false, false, false, false, false] rfl rfl (take_ofW HT_.out HW_.out (by kernel_rfl)) (fun _ _ _ h => h) (Or.inl ⟨by rfl, ?_⟩) hHeld ?_ ?_
                 rotate_left
                 ·rintro w' ⟨s0, s1⟩
                  go_simp
                  with_reducible rfl
                 rotate_left
                 ·simp only [Act.put, List.setIfInBounds_toArray, List.set_cons_zero, List.set_cons_succ, i64_w, i32_w]
                  rfl
                 refine pure_ (i := 9) (N := some 100) (v := ?_) (a' := ?_) #[true, true, true, true, true, true, true, true, true, true, false, false, false, false, false] rfl rfl (any_of HT_.out (by kernel_rfl)) (fun _ _ _ h => h) (Or.inl ⟨by rfl, ?_⟩) ?_ ?_
                 rotate_left
                 ·intro w'
                  go_simp
                  with_reducible rfl
                 rotate_left
                 ·simp only [Act.put, List.setIfInBounds_toArray, List.set_cons_zero, List.set_cons_succ, i64_w, i32_w]
                  rfl
                 refine pure_ (i := 10) (N := some 101) (v := ?_) (a' := ?_) #[true, true, true, true, true, true, true, true, true, true, true, false, false, false, false] rfl rfl (any_of HT_.out (by kernel_rfl)) (fun _ _ _ h => h) (Or.inl ⟨by rfl, ?_⟩) ?_ ?_
                 rotate_left
                 ·intro w'
                  go_simp
                  with_reducible rfl
                 rotate_left
                 ·simp only [Act.put, List.setIfInBounds_toArray, List.set_cons_zero, List.set_cons_succ, i64_w, i32_w]
                  rfl
                 refine last_ (i := 11) (N := none) #[true, true, true, true, true, true, true, true, true, true, true, true, false, false, false] rfl rfl (one_of HT_.out (by kernel_rfl)) (by decide) (fun K hK => ?_)
                 refine skip_ (w1 := ?_) (by rfl) rfl ?_ ?_
                 rotate_left
                 ·go_simp
                  rfl
                 refine hK.out _ _ ?_
                 clear hK K
                 refine pure_ (i := 12) (N := some 102) (v := ?_) (a' := ?_) #[true, true, true, true, true, true, true, true, true, true, true, true, true, false, false] rfl rfl (any_of HT_.out (by kernel_rfl)) (fun _ _ _ h => h) (Or.inl ⟨by rfl, ?_⟩) ?_ ?_
                 rotate_left
                 ·intro w'
                  go_simp
                  with_reducible rfl
                 rotate_left
                 ·simp only [Act.put, List.setIfInBounds_toArray, List.set_cons_zero, List.set_cons_succ, i64_w, i32_w]
                  rfl
                 refine pure_ (i := 13) (N := some 103) (v := ?_) (a' := ?_) #[true, true, true, true, true, true, true, true, true, true, true, true, true, true, false] rfl rfl (any_of HT_.out (by kernel_rfl)) (fun _ _ _ h => h) (Or.inl ⟨by rfl, ?_⟩) ?_ ?_
                 rotate_left
                 ·intro w'
                  go_simp
                  with_reducible rfl
                 rotate_left
                 ·simp only [Act.put, List.setIfInBounds_toArray, List.set_cons_zero, List.set_cons_succ, i64_w, i32_w]
                  rfl
                 refine last_ (i := 14) (N := none) #[true, true, true, true, true, true, true, true, true, true, true, true, true, true, true] rfl rfl (one_of HT_.out (by kernel_rfl)) (by decide) (fun K hK => ?_)
                 refine skip_ (w1 := ?_) (by rfl) rfl ?_ ?_
                 rotate_left
                 ·go_simp
                  rfl
                 refine hK.out _ _ ?_
                 clear hK K
                 refine done_ (done_of HT_.out (by kernel_rfl)) ?_
                 try go_wp2
                 go_roundg k3
                 case measure => have := HJ2.out; have := HK2.out; have := HK3.out; omega
                 case rel => exact ⟨(y303), (x7_2), (wrap64 (x8_2 - 1)), (by first | rfl | (simp; done) | (simp [*]; done)), (by first | rfl | (simp; done) | (simp [*]; done)), H', ⟨by have := HJ2.out; have := HK2.out; have := HK3.out; omega⟩, ⟨by (with_reducible repeat (first | apply Kd.R_alloc | apply Kd.R_drewN | apply Kd.R_drew)); exact HQ69.out⟩, ⟨by repeat (first | (with_reducible first | exact HB.out | apply below_alloc | apply pw_below_drewN | apply below_drew1 | refine below_set ?_ GB64.out | refine below_set ?_ GB64.out) | exact HB.out)⟩⟩
                ·rw [if_neg c63] at H
                 have c63b0 : ((x9_3.length : Int) == 1) = false := beq_eq_false_iff_ne.mpr c63
                 have c63b1 : ((x9_3.length : Int) != 1) = true := bne_iff_ne.mpr c63
                 have H' := Aside0.mk H
                 clear H
                 obtain ⟨Ao70, co70, eo70⟩ := Kd.R_slice HO_9.out
                 subst eo70
                 have p298 : 0 ≤ (0 : Int) := (by omega)
                 have q298 : 0 < (x9_3.length : Int) := of_decide_eq_true (by first | (with_reducible assumption) | assumption)
                 obtain ⟨ad298, e298, hx298_0⟩ := Kd.at_int (Kd.R_reads' HO_9.out).2.2 0 p298 q298
                 cases e298
                 have qi298 : (0 < x9_3.length) = True := eq_true (by omega)
                 (try rw [show ((0 : Int)).toNat = 0 from rfl] at hx298_0)
                 (try rw [Addr.add_zero'] at hx298_0)
                 replace p298 := eq_true p298
                 replace q298 := eq_true q298
                 have p299 : 0 ≤ ((rd x9_3 0) : Int) := of_decide_eq_true (by first | (with_reducible assumption) | assumption)
                 have q299 : (rd x9_3 0) < (x6_2.length : Int) := of_decide_eq_true (by first | (with_reducible assumption) | assumption)
                 obtain ⟨ad299, e299, hx299_0, hx299_1, hx299_2⟩ := at_T102 (Kd.R_reads' HO_6.out).2.2 (rd x9_3 0) p299 q299
                 cases e299
                 replace p299 := eq_true p299
                 replace q299 := eq_true q299
                 go_wp2
                 have q9_ : 0 < x6_2.length := (by have h1_ : ((rd x9_3 0) : Int) < (x6_2.length : Int) := of_decide_eq_true (by assumption); have h2_ : 0 ≤ ((rd x9_3 0) : Int) := of_decide_eq_true (by assumption); omega)
                 obtain ⟨go9_, co9_, eo9_, _, _, _, _⟩ := Kd.R_form HO_6.out q9_
                 cases eo9_
                 clear q9_
                 (try simp only [add_plain])
                 go_loopg [7, 8, 108] k3 (fun kq v7 v8 v108 w' => ∃ (x6_4 : List (S102)) (x7_4 : Int) (x8_4 : Int) (x108_4 : Int), v7 = .int .i64 x7_4 ∧ v8 = .int .i64 x8_4 ∧ v108 = .int .i64 x108_4 ∧ Aside0 (backoff_Contend.l2 kq a0 l1 x6_4 x7_4 x8_4 ((rd_T102 x6_2 (rd x9_3 0)).f0) x9_3 (x9_3.length : Int) x108_4 = some (r1, r2)) ∧ Aside0 (kq ≤ k3) ∧ Aside0 (Kd.R k102 102 w' w.heap.size (fun _ => True) (.slice (some (⟨go9_, 0, none⟩ : Addr)) x6_2.length co12) x6_4) ∧ Aside0 (Kd.R (Kd.int .i64) 3 w' w.heap.size (fun _ => True) (.slice (some ad298) x9_3.length co70) x9_3) ∧ Aside0 (Below w.heap.size w w'))
                 case atStart => exact ⟨(x6_2), (x7_2), (x8_2), (0), (by first | rfl | (simp; done) | (simp [*]; done)), (by first | rfl | (simp; done) | (simp [*]; done)), (by first | rfl | (simp; done) | (simp [*]; done)), H', ⟨Nat.le_refl _⟩, ⟨by (with_reducible repeat (first | apply Kd.R_alloc | apply Kd.R_drewN | apply Kd.R_drew)); exact HO_6.out⟩, ⟨by (with_reducible repeat (first | apply Kd.R_alloc | apply Kd.R_drewN | apply Kd.R_drew)); exact HO_9.out⟩, ⟨by repeat (first | (with_reducible first | exact HB.out | apply below_alloc | apply pw_below_drewN | apply below_drew1) | exact HB.out)⟩⟩
                 case round =>
                  clear H'
                  try clear c1
                  try clear p2
                  try clear q2
                  try clear hx2
                  try clear qi2
                  try clear p3
                  try clear q3
                  try clear hx3
                  try clear qi3
                  try clear c5
                  try clear c6
                  try clear p6
                  try clear q6
                  try clear hx6
                  try clear hf6
                  try clear c13
                  try clear c13b0
                  try clear c14
                  try clear c15
                  try clear p29
                  try clear q29
                  try clear hx29
                  try clear qi29
                  try clear p30
                  try clear q30
                  try clear hx30
                  try clear qi30
                  try clear c50
                  try clear c51
                  try clear c52
                  try clear c53
                  try clear c53b0
                  try clear c53b1
                  try clear c54
                  try clear c60
                  try clear c60b0
                  try clear c60b1
                  try clear c61
                  try clear c61b0
                  try clear c62
                  try clear c62b0
                  try clear c63
                  try clear c63b0
                  try clear c63b1
                  try clear c64
                  try clear p64
                  try clear q64
                  try clear hx64
                  try clear hf64
                  try clear p65
                  try clear q65
                  try clear c68
                  try clear c69
                  try clear hx293_0
                  try clear hx294_0
                  try clear hx294_1
                  try clear hx294_2
                  try clear hx298_0
                  try clear hx299_0
                  try clear hx299_1
                  try clear hx299_2
                  try clear hx300_0
                  try clear hx301_0
                  try clear hx64_0
                  try clear hx64_1
                  try clear hx64_2
                  try clear p293
                  try clear p294
                  try clear p298
                  try clear p299
                  try clear p300
                  try clear p301
                  try clear p64
                  try clear p65
                  try clear q293
                  try clear q294
                  try clear q298
                  try clear q299
                  try clear q300
                  try clear q301
                  try clear q64
                  try clear q65
                  obtain ⟨x6_4, x7_4, x8_4, x108_4, rfl, rfl, rfl, HA, HK4, HO_6, HO_106, HB⟩ := hrel
                  have hl6_4 := (Kd.R_reads' HO_6.out).1
                  rw [hl6_4] at HO_6
                  (try simp only [hl6_4])
                  (try simp only [hl6_4] at HO_106)
                  cases gk with
                  | zero => exact absurd HA.out (by simp [backoff_Contend.l2])
                  | succ k4 =>
                   have H := HA.out
                   clear HA
                   simp only [backoff_Contend.l2] at H
                   by_cases c71 : x108_4 < (x9_3.length : Int)
                   ·rw [if_pos c71] at H
                    have c71b0 : decide (x108_4 < (x9_3.length : Int)) = true := decide_eq_true c71
                    (try simp only [hl6_4] at c71b0)
                    clear c71
                    by_cases c72 : 0 ≤ x108_4
                    ·rw [if_pos c72] at H
                     have c72b0 : decide (0 ≤ x108_4) = true := decide_eq_true c72
                     (try simp only [hl6_4] at c72b0)
                     clear c72
                     by_cases c73 : x108_4 < (x9_3.length : Int)
                     ·rw [if_pos c73] at H
                      have c73b0 : decide (x108_4 < (x9_3.length : Int)) = true := decide_eq_true c73
                      (try simp only [hl6_4] at c73b0)
                      clear c73
                      by_cases c74 : 0 ≤ (rd x9_3 x108_4)
                      ·rw [if_pos c74] at H
                       have c74b0 : decide (0 ≤ (rd x9_3 x108_4)) = true := decide_eq_true c74
                       (try simp only [hl6_4] at c74b0)
                       clear c74
                       by_cases c75 : (rd x9_3 x108_4) < (x6_4.length : Int)
                       ·rw [if_pos c75] at H
                        have c75b0 : decide ((rd x9_3 x108_4) < (x6_4.length : Int)) = true := decide_eq_true c75
                        (try simp only [hl6_4] at c75b0)
                        clear c75
                        obtain ⟨y307, hy307⟩ : ∃ y_ : List (S102), y_ = (x6_4.set ((rd x9_3 x108_4) : Int).toNat (⟨(rd_T102 x6_4 (rd x9_3 x108_4)).f0, wrap64 (((rd_T102 x6_4 (rd x9_3 x108_4)).f1) + 1), (rd_T102 x6_4 (rd x9_3 x108_4)).f2⟩ : S102)) := ⟨_, rfl⟩
                        replace H : (if ((rd_T102 y307 (rd x9_3 x108_4)).f1) > 16 then ((some (y307.set ((rd x9_3 x108_4) : Int).toNat (⟨(rd_T102 y307 (rd x9_3 x108_4)).f0, (rd_T102 y307 (rd x9_3 x108_4)).f1, (-1)⟩ : S102) : List (S102))).bind fun y309 => (backoff_Contend.l2 k4 a0 l1 (y309.set ((rd x9_3 x108_4) : Int).toNat (⟨(-1), (rd_T102 y309 (rd x9_3 x108_4)).f1, (rd_T102 y309 (rd x9_3 x108_4)).f2⟩ : S102)) x7_4 (wrap64 (x8_4 - 1)) ((rd_T102 x6_2 (rd x9_3 0)).f0) x9_3 (x9_3.length : Int) (wrap64 (x108_4 + 1)))) else (if (l1.length : Int) > 0 then (if (l1.length : Int) = 0 then (none) else (if 0 ≤ (Int.tmod x7_4 (l1.length : Int)) then (if (Int.tmod x7_4 (l1.length : Int)) < (l1.length : Int) then ((backoff_Wait.f ((rd_T102 y307 (rd x9_3 x108_4)).f1) (rd l1 (Int.tmod x7_4 (l1.length : Int)))).bind fun bt313 => (backoff_Contend.l2 k4 a0 l1 (y307.set ((rd x9_3 x108_4) : Int).toNat (⟨wrap64 ((wrap64 (((rd_T102 x6_2 (rd x9_3 0)).f0) + 1)) + bt313.1), (rd_T102 y307 (rd x9_3 x108_4)).f1, (rd_T102 y307 (rd x9_3 x108_4)).f2⟩ : S102)) (wrap64 (x7_4 + 1)) x8_4 ((rd_T102 x6_2 (rd x9_3 0)).f0) x9_3 (x9_3.length : Int) (wrap64 (x108_4 + 1)))) else (none)) else (none))) else ((backoff_Wait.f ((rd_T102 y307 (rd x9_3 x108_4)).f1) 0).bind fun bt317 => (backoff_Contend.l2 k4 a0 l1 (y307.set ((rd x9_3 x108_4) : Int).toNat (⟨wrap64 ((wrap64 (((rd_T102 x6_2 (rd x9_3 0)).f0) + 1)) + bt317.1), (rd_T102 y307 (rd x9_3 x108_4)).f1, (rd_T102 y307 (rd x9_3 x108_4)).f2⟩ : S102)) (wrap64 (x7_4 + 1)) x8_4 ((rd_T102 x6_2 (rd x9_3 0)).f0) x9_3 (x9_3.length : Int) (wrap64 (x108_4 + 1)))))) = some (r1, r2) := by first | (rw [hy307]; with_reducible exact H) | (have H2_ := (Option.bind_some _ _).symm.trans H; rw [hy307]; with_reducible exact H2_) | (have H2_ := (Option.bind_some _ _).symm.trans H; with_reducible exact H2_) | with_reducible exact H | (rw [hy307]; exact H) | exact H
                        have Ny307 := Aside0.mk hy307
                        clear hy307
                        by_cases c77 : ((rd_T102 y307 (rd x9_3 x108_4)).f1) > 16
                        ·rw [if_pos c77] at H
                         have c77b0 : decide (16 < ((rd_T102 y307 (rd x9_3 x108_4)).f1)) = true := decide_eq_true c77
                         (try simp only [hl6_4] at c77b0)
                         clear c77
                         obtain ⟨y309, hy309⟩ : ∃ y_ : List (S102), y_ = (y307.set ((rd x9_3 x108_4) : Int).toNat (⟨(rd_T102 y307 (rd x9_3 x108_4)).f0, (rd_T102 y307 (rd x9_3 x108_4)).f1, (-1)⟩ : S102)) := ⟨_, rfl⟩
                         replace H : (backoff_Contend.l2 k4 a0 l1 (y309.set ((rd x9_3 x108_4) : Int).toNat (⟨(-1), (rd_T102 y309 (rd x9_3 x108_4)).f1, (rd_T102 y309 (rd x9_3 x108_4)).f2⟩ : S102)) x7_4 (wrap64 (x8_4 - 1)) ((rd_T102 x6_2 (rd x9_3 0)).f0) x9_3 (x9_3.length : Int) (wrap64 (x108_4 + 1))) = some (r1, r2) := by first | (rw [hy309]; with_reducible exact H) | (have H2_ := (Option.bind_some _ _).symm.trans H; rw [hy309]; with_reducible exact H2_) | (have H2_ := (Option.bind_some _ _).symm.trans H; with_reducible exact H2_) | with_reducible exact H | (rw [hy309]; exact H) | exact H
                         have Ny309 := Aside0.mk hy309
                         clear hy309
                         obtain ⟨y310, hy310⟩ : ∃ y_ : List (S102), y_ = (y309.set ((rd x9_3 x108_4) : Int).toNat (⟨(-1), (rd_T102 y309 (rd x9_3 x108_4)).f1, (rd_T102 y309 (rd x9_3 x108_4)).f2⟩ : S102)) := ⟨_, rfl⟩
                         replace H : (backoff_Contend.l2 k4 a0 l1 y310 x7_4 (wrap64 (x8_4 - 1)) ((rd_T102 x6_2 (rd x9_3 0)).f0) x9_3 (x9_3.length : Int) (wrap64 (x108_4 + 1))) = some (r1, r2) := by first | (rw [hy310]; with_reducible exact H) | (have H2_ := (Option.bind_some _ _).symm.trans H; rw [hy310]; with_reducible exact H2_) | (have H2_ := (Option.bind_some _ _).symm.trans H; with_reducible exact H2_) | with_reducible exact H | (rw [hy310]; exact H) | exact H
                         have Ny310 := Aside0.mk hy310
                         clear hy310
                         have H' := Aside0.mk H
                         clear H
                         have p304 : 0 ≤ (x108_4 : Int) := of_decide_eq_true (by first | (with_reducible assumption) | assumption)
                         have q304 : x108_4 < (x9_3.length : Int) := of_decide_eq_true (by first | (with_reducible assumption) | assumption)
                         obtain ⟨ad304, e304, hx304_0⟩ := Kd.at_int (Kd.R_reads' HO_106.out).2.2 x108_4 p304 q304
                         obtain rfl : ad298 = ad304 := (by injection e304)
                         replace p304 := eq_true p304
                         replace q304 := eq_true q304
                         have p305 : 0 ≤ ((rd x9_3 x108_4) : Int) := of_decide_eq_true (by first | (with_reducible assumption) | assumption)
                         have q305 : (rd x9_3 x108_4) < (x6_4.length : Int) := of_decide_eq_true (by first | (with_reducible assumption) | assumption)
                         obtain ⟨ad305, e305, hx305_0, hx305_1, hx305_2⟩ := at_T102 (Kd.R_reads' HO_6.out).2.2 (rd x9_3 x108_4) p305 q305
                         obtain rfl : (⟨go9_, 0, none⟩ : Addr) = ad305 := (by injection e305)
                         replace p305 := eq_true p305
                         replace q305 := eq_true q305
                         have p306 : 0 ≤ ((rd x9_3 x108_4) : Int) := of_decide_eq_true (by first | (with_reducible assumption) | assumption)
                         have q306 : (rd x9_3 x108_4) < (x6_4.length : Int) := of_decide_eq_true (by first | (with_reducible assumption) | assumption)
                         obtain ⟨ad306, e306, hx306_0, hx306_1, hx306_2⟩ := at_T102 (Kd.R_reads' HO_6.out).2.2 (rd x9_3 x108_4) p306 q306
                         obtain rfl : (⟨go9_, 0, none⟩ : Addr) = ad306 := (by injection e306)
                         replace p306 := eq_true p306
                         replace q306 := eq_true q306
                         have p76 : 0 ≤ ((rd x9_3 x108_4) : Int) := of_decide_eq_true (by first | (with_reducible assumption) | assumption)
                         have q76 : ((rd x9_3 x108_4) : Int) < ((x6_4.length : Int) : Int) := of_decide_eq_true (by first | (with_reducible assumption) | assumption)
                         obtain ⟨go76, co76, eo76, gb76, gl76, cl76, HG76⟩ := Kd.R_form HO_6.out (by omega)
                         (first | cases eo76 | (injection eo76 with ea_ en_ ec_; (first | subst ea_ | (injection ea_ with ea_; subst ea_)); subst ec_; clear en_))
                         have GB76 := Aside0.mk gb76
                         have GG76 := Aside0.mk HG76
                         clear gb76 gl76 HG76
                         (first | simp only [add_plain] at hx299_0 | skip)
                         (first | simp only [add_plain] at hx299_1 | skip)
                         (first | simp only [add_plain] at hx299_2 | skip)
                         (first | simp only [add_plain] at hx305_0 | skip)
                         (first | simp only [add_plain] at hx305_1 | skip)
                         (first | simp only [add_plain] at hx305_2 | skip)
                         (first | simp only [add_plain] at hx306_0 | skip)
                         (first | simp only [add_plain] at hx306_1 | skip)
                         (first | simp only [add_plain] at hx306_2 | skip)
                         obtain ⟨ce76, hcl76, hM76, hcc76, hfr76⟩ := Kd.R_elem HO_6.out z102 ((rd x9_3 x108_4) : Int) p76 q76
                         obtain rfl := k102_openM hM76
                         have hx76_0 : wr.cell? ⟨go9_, ((rd x9_3 x108_4) : Int).toNat * 3, none⟩ = some (.int .i64 ((rd_T102 x6_4 (rd x9_3 x108_4)).f0)) := hcc76 0 _ rfl
                         have hx76_1 : wr.cell? ⟨go9_, ((rd x9_3 x108_4) : Int).toNat * 3 + 1, none⟩ = some (.int .i64 ((rd_T102 x6_4 (rd x9_3 x108_4)).f1)) := hcc76 1 _ rfl
                         have hx76_2 : wr.cell? ⟨go9_, ((rd x9_3 x108_4) : Int).toNat * 3 + 2, none⟩ = some (.int .i64 ((rd_T102 x6_4 (rd x9_3 x108_4)).f2)) := hcc76 2 _ rfl
                         have hf76_0 : wr.frozen? ⟨go9_, ((rd x9_3 x108_4) : Int).toNat * 3, none⟩ = false := hfr76 0
                         have hf76_1 : wr.frozen? ⟨go9_, ((rd x9_3 x108_4) : Int).toNat * 3 + 1, none⟩ = false := hfr76 1
                         have hf76_2 : wr.frozen? ⟨go9_, ((rd x9_3 x108_4) : Int).toNat * 3 + 2, none⟩ = false := hfr76 2
                         clear hcl76 hcc76 hfr76 hM76
                         replace p76 := eq_true p76
                         replace q76 := eq_true q76
                         have HX80 := Aside0.mk (show Kd.R k102 102 wr w.heap.size (fun _ => True) (.slice (some ⟨go9_, 0, none⟩) x6_4.length co12) x6_4 from (by (with_reducible repeat (first | apply Kd.R_alloc | apply Kd.R_drewN | apply Kd.R_drew)); exact HO_6.out))
                         obtain ⟨ce80, hcl80, hM80, hcc80, hfr80⟩ := Kd.R_elem HX80.out z102 ((rd x9_3 x108_4) : Int) (of_decide_eq_true (by first | (with_reducible assumption) | assumption)) (by have h_ : ((rd x9_3 x108_4) : Int) < ((x6_4.length : Int) : Int) := of_decide_eq_true (by first | (with_reducible assumption) | assumption); first | exact h_ | (have e_ := (Kd.R_reads' HO_6.out).1; omega) | simpa using h_)
                         obtain rfl := k102_openM hM80
                         have HP80 := Kd.R_seg HX80.out ((rd x9_3 x108_4) : Int) (of_decide_eq_true (by first | (with_reducible assumption) | assumption)) (by have h_ : ((rd x9_3 x108_4) : Int) < ((x6_4.length : Int) : Int) := of_decide_eq_true (by first | (with_reducible assumption) | assumption); first | exact h_ | (have e_ := (Kd.R_reads' HO_6.out).1; omega) | simpa using h_) (seg := [.int .i64 (wrap64 (((rd_T102 x6_4 (rd x9_3 x108_4)).f1) + 1))]) (j := 1) hcl80 hcc80 (show 2 ≤ 3 from by decide) (x' := (⟨(rd_T102 x6_4 (rd x9_3 x108_4)).f0, wrap64 (((rd_T102 x6_4 (rd x9_3 x108_4)).f1) + 1), (rd_T102 x6_4 (rd x9_3 x108_4)).f2⟩ : S102)) (k102_mkM _ _ _ (⟨(rd_T102 x6_4 (rd x9_3 x108_4)).f0, wrap64 (((rd_T102 x6_4 (rd x9_3 x108_4)).f1) + 1), (rd_T102 x6_4 (rd x9_3 x108_4)).f2⟩ : S102) ) (fun _ hk => hk)
                         have hx80_1 := hcc80 1 _ rfl
                         (try simp only [show (k102).sz = 3 from rfl, Nat.mul_one, Nat.add_zero] at hx80_1)
                         have hf80_1 := hfr80 1
                         (try simp only [show (k102).sz = 3 from rfl, Nat.mul_one, Nat.add_zero] at hf80_1)
                         clear hcl80 hcc80 hfr80 hM80
                         go_wp2_with (first | ((with_reducible refine gate_store (t := 3) (p := 121) rfl ?_); refine store_event (t := 3) (p := 121) (v := ?vo_w81) (w1 := (wr.setCell ⟨go9_, ((rd x9_3 x108_4) : Int).toNat * 3 + 1, none⟩ (.int .i64 (wrap64 (((rd_T102 x6_4 (rd x9_3 x108_4)).f1) + 1))))) ?hg ?ho ?hn ?hr ?_; (case ho => rfl); (case hg => rfl); (case hn => rfl); (case hr => first | (go_simp; done) | (go_simp; rfl)); intro w81 hw; have hg : wr.grownBy w81 (some go9_) := (by rw [hw]; exact HP80.2); have hp_ : Kd.R k102 102 w81 w.heap.size (fun _ => True) (.slice (some ⟨go9_, 0, none⟩) x6_4.length co12) y307 := (by rw [hw, Ny307.out]; exact HP80.1); clear HP80; have n0_ := Aside0.mk (hp_); have n1_ := Aside0.mk (Kd.R_over' (v := (.slice (some ⟨go9_, 0, none⟩) x6_4.length co12)) (by (with_reducible repeat (first | apply Kd.R_alloc | apply Kd.R_drewN | apply Kd.R_drew)); exact HO_106.out) (Kd.R_typed HO_6.out) (by decide) hg); have n2_ := Aside0.mk ((by rw [hw]; exact below_set (HB.out) GB76.out : Below w.heap.size w w81)); clear HO_6; clear HO_106; clear HB; have HO_6 := n0_; have HO_106 := n1_; have HB := n2_; clear n0_ n1_ n2_; clear hg hw hp_; have p308 : 0 ≤ ((rd x9_3 x108_4) : Int) := of_decide_eq_true (by first | (with_reducible assumption) | assumption); have q308 : (rd x9_3 x108_4) < (y307.length : Int) := (by have h_ : ((rd x9_3 x108_4) : Int) < ((x6_4.length : Int) : Int) := of_decide_eq_true (by first | (with_reducible assumption) | assumption); first | (have e_ := (Kd.R_reads' HO_6.out).1; omega) | simpa only [Ny307.out, List.length_set] using h_); have ql308 : (((rd x9_3 x108_4) : Int) < ((x6_4.length : Int) : Int)) = True := eq_true (of_decide_eq_true (by first | (with_reducible assumption) | assumption)); obtain ⟨ad308, e308, hx308_0, hx308_1, hx308_2⟩ := at_T102 (Kd.R_reads' HO_6.out).2.2 (rd x9_3 x108_4) p308 q308; obtain rfl : (⟨go9_, 0, none⟩ : Addr) = ad308 := (by injection e308); (first | simp only [add_plain] at hx308_0 | simp only [add_at] at hx308_0 | simp only [Addr.add, Nat.zero_add] at hx308_0 | skip); (first | simp only [add_plain] at hx308_1 | simp only [add_at] at hx308_1 | simp only [Addr.add, Nat.zero_add] at hx308_1 | skip); (first | simp only [add_plain] at hx308_2 | simp only [add_at] at hx308_2 | simp only [Addr.add, Nat.zero_add] at hx308_2 | skip); replace p308 := eq_true p308; replace q308 := eq_true q308; have p78 : 0 ≤ ((rd x9_3 x108_4) : Int) := of_decide_eq_true (by first | (with_reducible assumption) | assumption); have q78 : ((rd x9_3 x108_4) : Int) < ((x6_4.length : Int) : Int) := of_decide_eq_true (by first | (with_reducible assumption) | assumption); obtain ⟨ce78, hcl78, hM78, hcc78, hfr78⟩ := Kd.R_elem HO_6.out z102 ((rd x9_3 x108_4) : Int) p78 q78; obtain rfl := k102_openM hM78; have hx78_0 : w81.cell? ⟨go9_, ((rd x9_3 x108_4) : Int).toNat * 3, none⟩ = some (.int .i64 ((rd_T102 y307 (rd x9_3 x108_4)).f0)) := hcc78 0 _ rfl; have hx78_1 : w81.cell? ⟨go9_, ((rd x9_3 x108_4) : Int).toNat * 3 + 1, none⟩ = some (.int .i64 ((rd_T102 y307 (rd x9_3 x108_4)).f1)) := hcc78 1 _ rfl; have hx78_2 : w81.cell? ⟨go9_, ((rd x9_3 x108_4) : Int).toNat * 3 + 2, none⟩ = some (.int .i64 ((rd_T102 y307 (rd x9_3 x108_4)).f2)) := hcc78 2 _ rfl; have hf78_0 : w81.frozen? ⟨go9_, ((rd x9_3 x108_4) : Int).toNat * 3, none⟩ = false := hfr78 0; have hf78_1 : w81.frozen? ⟨go9_, ((rd x9_3 x108_4) : Int).toNat * 3 + 1, none⟩ = false := hfr78 1; have hf78_2 : w81.frozen? ⟨go9_, ((rd x9_3 x108_4) : Int).toNat * 3 + 2, none⟩ = false := hfr78 2; clear hcl78 hcc78 hfr78 hM78; replace p78 := eq_true p78; replace q78 := eq_true q78; have HX82 := Aside0.mk (show Kd.R k102 102 w81 w.heap.size (fun _ => True) (.slice (some ⟨go9_, 0, none⟩) x6_4.length co12) y307 from (by (with_reducible repeat (first | apply Kd.R_alloc | apply Kd.R_drewN | apply Kd.R_drew)); exact HO_6.out)); obtain ⟨ce82, hcl82, hM82, hcc82, hfr82⟩ := Kd.R_elem HX82.out z102 ((rd x9_3 x108_4) : Int) (of_decide_eq_true (by first | (with_reducible assumption) | assumption)) (by have h_ : ((rd x9_3 x108_4) : Int) < ((x6_4.length : Int) : Int) := of_decide_eq_true (by first | (with_reducible assumption) | assumption); first | exact h_ | (have e_ := (Kd.R_reads' HO_6.out).1; omega) | simpa using h_); obtain rfl := k102_openM hM82; have HP82 := Kd.R_seg HX82.out ((rd x9_3 x108_4) : Int) (of_decide_eq_true (by first | (with_reducible assumption) | assumption)) (by have h_ : ((rd x9_3 x108_4) : Int) < ((x6_4.length : Int) : Int) := of_decide_eq_true (by first | (with_reducible assumption) | assumption); first | exact h_ | (have e_ := (Kd.R_reads' HO_6.out).1; omega) | simpa using h_) (seg := [.int .i64 (-1)]) (j := 2) hcl82 hcc82 (show 3 ≤ 3 from by decide) (x' := (⟨(rd_T102 y307 (rd x9_3 x108_4)).f0, (rd_T102 y307 (rd x9_3 x108_4)).f1, (-1)⟩ : S102)) (k102_mkM _ _ _ (⟨(rd_T102 y307 (rd x9_3 x108_4)).f0, (rd_T102 y307 (rd x9_3 x108_4)).f1, (-1)⟩ : S102) ) (fun _ hk => hk); have hx82_2 := hcc82 2 _ rfl; (try simp only [show (k102).sz = 3 from rfl, Nat.mul_one, Nat.add_zero] at hx82_2); have hf82_2 := hfr82 2; (try simp only [show (k102).sz = 3 from rfl, Nat.mul_one, Nat.add_zero] at hf82_2); clear hcl82 hcc82 hfr82 hM82) | ((with_reducible refine gate_store (t := 3) (p := 130) rfl ?_); refine store_event (t := 3) (p := 130) (v := ?vo_w83) (w1 := (w81.setCell ⟨go9_, ((rd x9_3 x108_4) : Int).toNat * 3 + 2, none⟩ (.int .i64 (-1)))) ?hg ?ho ?hn ?hr ?_; (case ho => rfl); (case hg => rfl); (case hn => rfl); (case hr => first | (go_simp; done) | (go_simp; rfl)); intro w83 hw; have hg : w81.grownBy w83 (some go9_) := (by rw [hw]; exact HP82.2); have hp_ : Kd.R k102 102 w83 w.heap.size (fun _ => True) (.slice (some ⟨go9_, 0, none⟩) x6_4.length co12) y309 := (by rw [hw, Ny309.out]; exact HP82.1); clear HP82; have n0_ := Aside0.mk (hp_); have n1_ := Aside0.mk (Kd.R_over' (v := (.slice (some ⟨go9_, 0, none⟩) x6_4.length co12)) (by (with_reducible repeat (first | apply Kd.R_alloc | apply Kd.R_drewN | apply Kd.R_drew)); exact HO_106.out) (Kd.R_typed HO_6.out) (by decide) hg); have n2_ := Aside0.mk ((by rw [hw]; exact below_set (HB.out) GB76.out : Below w.heap.size w w83)); clear HO_6; clear HO_106; clear HB; have HO_6 := n0_; have HO_106 := n1_; have HB := n2_; clear n0_ n1_ n2_; clear hg hw hp_; have p79 : 0 ≤ ((rd x9_3 x108_4) : Int) := of_decide_eq_true (by first | (with_reducible assumption) | assumption); have q79 : ((rd x9_3 x108_4) : Int) < ((x6_4.length : Int) : Int) := of_decide_eq_true (by first | (with_reducible assumption) | assumption); obtain ⟨ce79, hcl79, hM79, hcc79, hfr79⟩ := Kd.R_elem HO_6.out z102 ((rd x9_3 x108_4) : Int) p79 q79; obtain rfl := k102_openM hM79; have hx79_0 : w83.cell? ⟨go9_, ((rd x9_3 x108_4) : Int).toNat * 3, none⟩ = some (.int .i64 ((rd_T102 y309 (rd x9_3 x108_4)).f0)) := hcc79 0 _ rfl; have hx79_1 : w83.cell? ⟨go9_, ((rd x9_3 x108_4) : Int).toNat * 3 + 1, none⟩ = some (.int .i64 ((rd_T102 y309 (rd x9_3 x108_4)).f1)) := hcc79 1 _ rfl; have hx79_2 : w83.cell? ⟨go9_, ((rd x9_3 x108_4) : Int).toNat * 3 + 2, none⟩ = some (.int .i64 ((rd_T102 y309 (rd x9_3 x108_4)).f2)) := hcc79 2 _ rfl; have hf79_0 : w83.frozen? ⟨go9_, ((rd x9_3 x108_4) : Int).toNat * 3, none⟩ = false := hfr79 0; have hf79_1 : w83.frozen? ⟨go9_, ((rd x9_3 x108_4) : Int).toNat * 3 + 1, none⟩ = false := hfr79 1; have hf79_2 : w83.frozen? ⟨go9_, ((rd x9_3 x108_4) : Int).toNat * 3 + 2, none⟩ = false := hfr79 2; clear hcl79 hcc79 hfr79 hM79; replace p79 := eq_true p79; replace q79 := eq_true q79; have HX84 := Aside0.mk (show Kd.R k102 102 w83 w.heap.size (fun _ => True) (.slice (some ⟨go9_, 0, none⟩) x6_4.length co12) y309 from (by (with_reducible repeat (first | apply Kd.R_alloc | apply Kd.R_drewN | apply Kd.R_drew)); exact HO_6.out)); obtain ⟨ce84, hcl84, hM84, hcc84, hfr84⟩ := Kd.R_elem HX84.out z102 ((rd x9_3 x108_4) : Int) (of_decide_eq_true (by first | (with_reducible assumption) | assumption)) (by have h_ : ((rd x9_3 x108_4) : Int) < ((x6_4.length : Int) : Int) := of_decide_eq_true (by first | (with_reducible assumption) | assumption); first | exact h_ | (have e_ := (Kd.R_reads' HO_6.out).1; omega) | simpa using h_); obtain rfl := k102_openM hM84; have HP84 := Kd.R_seg HX84.out ((rd x9_3 x108_4) : Int) (of_decide_eq_true (by first | (with_reducible assumption) | assumption)) (by have h_ : ((rd x9_3 x108_4) : Int) < ((x6_4.length : Int) : Int) := of_decide_eq_true (by first | (with_reducible assumption) | assumption); first | exact h_ | (have e_ := (Kd.R_reads' HO_6.out).1; omega) | simpa using h_) (seg := [.int .i64 (-1)]) (j := 0) hcl84 hcc84 (show 1 ≤ 3 from by decide) (x' := (⟨(-1), (rd_T102 y309 (rd x9_3 x108_4)).f1, (rd_T102 y309 (rd x9_3 x108_4)).f2⟩ : S102)) (k102_mkM _ _ _ (⟨(-1), (rd_T102 y309 (rd x9_3 x108_4)).f1, (rd_T102 y309 (rd x9_3 x108_4)).f2⟩ : S102) ) (fun _ hk => hk); have hx84_0 := hcc84 0 _ rfl; (try simp only [show (k102).sz = 3 from rfl, Nat.mul_one, Nat.add_zero] at hx84_0); have hf84_0 := hfr84 0; (try simp only [show (k102).sz = 3 from rfl, Nat.mul_one, Nat.add_zero] at hf84_0); clear hcl84 hcc84 hfr84 hM84) | ((with_reducible refine gate_store (t := 3) (p := 132) rfl ?_); refine store_event (t := 3) (p := 132) (v := ?vo_w85) (w1 := (w83.setCell ⟨go9_, ((rd x9_3 x108_4) : Int).toNat * 3, none⟩ (.int .i64 (-1)))) ?hg ?ho ?hn ?hr ?_; (case ho => rfl); (case hg => rfl); (case hn => rfl); (case hr => first | (go_simp; done) | (go_simp; rfl)); intro w85 hw; have hg : w83.grownBy w85 (some go9_) := (by rw [hw]; exact HP84.2); have hp_ : Kd.R k102 102 w85 w.heap.size (fun _ => True) (.slice (some ⟨go9_, 0, none⟩) x6_4.length co12) y310 := (by rw [hw, Ny310.out]; exact HP84.1); clear HP84; have n0_ := Aside0.mk (hp_); have n1_ := Aside0.mk (Kd.R_over' (v := (.slice (some ⟨go9_, 0, none⟩) x6_4.length co12)) (by (with_reducible repeat (first | apply Kd.R_alloc | apply Kd.R_drewN | apply Kd.R_drew)); exact HO_106.out) (Kd.R_typed HO_6.out) (by decide) hg); have n2_ := Aside0.mk ((by rw [hw]; exact below_set (HB.out) GB76.out : Below w.heap.size w w85)); clear HO_6; clear HO_106; clear HB; have HO_6 := n0_; have HO_106 := n1_; have HB := n2_; clear n0_ n1_ n2_; clear hg hw hp_))
                         (try simp only [← hl6_4])
                         go_roundg k4
                         case measure => have := HJ2.out; have := HK2.out; have := HK3.out; have := HK4.out; omega
                         case rel => exact ⟨(y310), (x7_4), (wrap64 (x8_4 - 1)), (wrap64 (x108_4 + 1)), (by first | rfl | (simp; done) | (simp [*]; done)), (by first | rfl | (simp; done) | (simp [*]; done)), (by first | rfl | (simp; done) | (simp [*]; done)), H', ⟨by have := HJ2.out; have := HK2.out; have := HK3.out; have := HK4.out; omega⟩, ⟨by (try simp only [hl6_4]); (with_reducible repeat (first | apply Kd.R_alloc | apply Kd.R_drewN | apply Kd.R_drew)); exact HO_6.out⟩, ⟨by (try simp only [hl6_4]); (with_reducible repeat (first | apply Kd.R_alloc | apply Kd.R_drewN | apply Kd.R_drew)); exact HO_106.out⟩, ⟨by repeat (first | (with_reducible first | exact HB.out | apply below_alloc | apply pw_below_drewN | apply below_drew1) | exact HB.out)⟩⟩
                        ·rw [if_neg c77] at H
                         have c77b0 : decide (16 < ((rd_T102 y307 (rd x9_3 x108_4)).f1)) = false := decide_eq_false c77
                         (try simp only [hl6_4] at c77b0)
                         clear c77
                         by_cases c86 : (l1.length : Int) > 0
                         ·rw [if_pos c86] at H
                          have c86b0 : decide (0 < (l1.length : Int)) = true := decide_eq_true c86
                          (try simp only [hl6_4] at c86b0)
                          have c86b1 : decide (0 < l1.length) = true := decide_eq_true (by omega)
                          (try simp only [hl6_4] at c86b1)
                          clear c86
                          by_cases c87 : (l1.length : Int) = 0
                          ·rw [if_pos c87] at H
                           exact absurd H (by simp)
                          ·rw [if_neg c87] at H
                           have c87b0 : ((l1.length : Int) == 0) = false := beq_eq_false_iff_ne.mpr c87
                           (try simp only [hl6_4] at c87b0)
                           have c87b1 : ((l1.length : Int) != 0) = true := bne_iff_ne.mpr c87
                           (try simp only [hl6_4] at c87b1)
                           have c87b2 : ¬ (l1 = []) := fun h_ => c87 (by rw [h_]; rfl)
                           (try simp only [hl6_4] at c87b2)
                           obtain ⟨ji88, hji88⟩ : ∃ j_ : Int, (Int.tmod x7_4 (l1.length : Int)) = j_ := ⟨_, rfl⟩
                           replace H : (if 0 ≤ (ji88) then (if (ji88) < (l1.length : Int) then ((backoff_Wait.f ((rd_T102 y307 (rd x9_3 x108_4)).f1) (rd l1 (ji88))).bind fun bt313 => (backoff_Contend.l2 k4 a0 l1 (y307.set ((rd x9_3 x108_4) : Int).toNat (⟨wrap64 ((wrap64 (((rd_T102 x6_2 (rd x9_3 0)).f0) + 1)) + bt313.1), (rd_T102 y307 (rd x9_3 x108_4)).f1, (rd_T102 y307 (rd x9_3 x108_4)).f2⟩ : S102)) (wrap64 (x7_4 + 1)) x8_4 ((rd_T102 x6_2 (rd x9_3 0)).f0) x9_3 (x9_3.length : Int) (wrap64 (x108_4 + 1)))) else (none)) else (none)) = some (r1, r2) := by first | (rw [hji88] at H; exact H) | (simp only [hji88] at H ⊢; exact H)
                           by_cases c89 : 0 ≤ (ji88)
                           ·rw [if_pos c89] at H
                            have c89b0 : decide (0 ≤ (ji88)) = true := decide_eq_true c89
                            (try simp only [hl6_4] at c89b0)
                            clear c89
                            by_cases c90 : (ji88) < (l1.length : Int)
                            ·rw [if_pos c90] at H
                             have c90b0 : decide ((ji88) < (l1.length : Int)) = true := decide_eq_true c90
                             (try simp only [hl6_4] at c90b0)
                             clear c90
                             replace H := Option.bind_eq_some_iff.mp H
                             obtain ⟨⟨t313, t314⟩, A910, H⟩ := H
                             replace H : (backoff_Contend.l2 k4 a0 l1 (y307.set ((rd x9_3 x108_4) : Int).toNat (⟨wrap64 ((wrap64 (((rd_T102 x6_2 (rd x9_3 0)).f0) + 1)) + t313), (rd_T102 y307 (rd x9_3 x108_4)).f1, (rd_T102 y307 (rd x9_3 x108_4)).f2⟩ : S102)) (wrap64 (x7_4 + 1)) x8_4 ((rd_T102 x6_2 (rd x9_3 0)).f0) x9_3 (x9_3.length : Int) (wrap64 (x108_4 + 1))) = some (r1, r2) := H
                             have A91 := Aside0.mk A910
                             clear A910
                             obtain ⟨y315, hy315⟩ : ∃ y_ : List (S102), y_ = (y307.set ((rd x9_3 x108_4) : Int).toNat (⟨wrap64 ((wrap64 (((rd_T102 x6_2 (rd x9_3 0)).f0) + 1)) + t313), (rd_T102 y307 (rd x9_3 x108_4)).f1, (rd_T102 y307 (rd x9_3 x108_4)).f2⟩ : S102)) := ⟨_, rfl⟩
                             replace H : (backoff_Contend.l2 k4 a0 l1 y315 (wrap64 (x7_4 + 1)) x8_4 ((rd_T102 x6_2 (rd x9_3 0)).f0) x9_3 (x9_3.length : Int) (wrap64 (x108_4 + 1))) = some (r1, r2) := by first | (rw [hy315]; with_reducible exact H) | (have H2_ := (Option.bind_some _ _).symm.trans H; rw [hy315]; with_reducible exact H2_) | (have H2_ := (Option.bind_some _ _).symm.trans H; with_reducible exact H2_) | with_reducible exact H | (rw [hy315]; exact H) | exact H
                             have Ny315 := Aside0.mk hy315
                             clear hy315
                             have H' := Aside0.mk H
                             clear H
                             have p304 : 0 ≤ (x108_4 : Int) := of_decide_eq_true (by first | (with_reducible assumption) | assumption)
                             have q304 : x108_4 < (x9_3.length : Int) := of_decide_eq_true (by first | (with_reducible assumption) | assumption)
                             obtain ⟨ad304, e304, hx304_0⟩ := Kd.at_int (Kd.R_reads' HO_106.out).2.2 x108_4 p304 q304
                             obtain rfl : ad298 = ad304 := (by injection e304)
                             replace p304 := eq_true p304
                             replace q304 := eq_true q304
                             have p305 : 0 ≤ ((rd x9_3 x108_4) : Int) := of_decide_eq_true (by first | (with_reducible assumption) | assumption)
                             have q305 : (rd x9_3 x108_4) < (x6_4.length : Int) := of_decide_eq_true (by first | (with_reducible assumption) | assumption)
                             obtain ⟨ad305, e305, hx305_0, hx305_1, hx305_2⟩ := at_T102 (Kd.R_reads' HO_6.out).2.2 (rd x9_3 x108_4) p305 q305
                             obtain rfl : (⟨go9_, 0, none⟩ : Addr) = ad305 := (by injection e305)
                             replace p305 := eq_true p305
                             replace q305 := eq_true q305
                             have p306 : 0 ≤ ((rd x9_3 x108_4) : Int) := of_decide_eq_true (by first | (with_reducible assumption) | assumption)
                             have q306 : (rd x9_3 x108_4) < (x6_4.length : Int) := of_decide_eq_true (by first | (with_reducible assumption) | assumption)
                             obtain ⟨ad306, e306, hx306_0, hx306_1, hx306_2⟩ := at_T102 (Kd.R_reads' HO_6.out).2.2 (rd x9_3 x108_4) p306 q306
                             obtain rfl : (⟨go9_, 0, none⟩ : Addr) = ad306 := (by injection e306)
                             replace p306 := eq_true p306
                             replace q306 := eq_true q306
                             have p76 : 0 ≤ ((rd x9_3 x108_4) : Int) := of_decide_eq_true (by first | (with_reducible assumption) | assumption)
                             have q76 : ((rd x9_3 x108_4) : Int) < ((x6_4.length : Int) : Int) := of_decide_eq_true (by first | (with_reducible assumption) | assumption)
                             obtain ⟨go76, co76, eo76, gb76, gl76, cl76, HG76⟩ := Kd.R_form HO_6.out (by omega)
                             (first | cases eo76 | (injection eo76 with ea_ en_ ec_; (first | subst ea_ | (injection ea_ with ea_; subst ea_)); subst ec_; clear en_))
                             have GB76 := Aside0.mk gb76
                             have GG76 := Aside0.mk HG76
                             clear gb76 gl76 HG76
                             (first | simp only [add_plain] at hx305_0 | skip)
                             (first | simp only [add_plain] at hx305_1 | skip)
                             (first | simp only [add_plain] at hx305_2 | skip)
                             (first | simp only [add_plain] at hx306_0 | skip)
                             (first | simp only [add_plain] at hx306_1 | skip)
                             (first | simp only [add_plain] at hx306_2 | skip)
                             obtain ⟨ce76, hcl76, hM76, hcc76, hfr76⟩ := Kd.R_elem HO_6.out z102 ((rd x9_3 x108_4) : Int) p76 q76
                             obtain rfl := k102_openM hM76
                             have hx76_0 : wr.cell? ⟨go9_, ((rd x9_3 x108_4) : Int).toNat * 3, none⟩ = some (.int .i64 ((rd_T102 x6_4 (rd x9_3 x108_4)).f0)) := hcc76 0 _ rfl
                             have hx76_1 : wr.cell? ⟨go9_, ((rd x9_3 x108_4) : Int).toNat * 3 + 1, none⟩ = some (.int .i64 ((rd_T102 x6_4 (rd x9_3 x108_4)).f1)) := hcc76 1 _ rfl
                             have hx76_2 : wr.cell? ⟨go9_, ((rd x9_3 x108_4) : Int).toNat * 3 + 2, none⟩ = some (.int .i64 ((rd_T102 x6_4 (rd x9_3 x108_4)).f2)) := hcc76 2 _ rfl
                             have hf76_0 : wr.frozen? ⟨go9_, ((rd x9_3 x108_4) : Int).toNat * 3, none⟩ = false := hfr76 0
                             have hf76_1 : wr.frozen? ⟨go9_, ((rd x9_3 x108_4) : Int).toNat * 3 + 1, none⟩ = false := hfr76 1
                             have hf76_2 : wr.frozen? ⟨go9_, ((rd x9_3 x108_4) : Int).toNat * 3 + 2, none⟩ = false := hfr76 2
                             clear hcl76 hcc76 hfr76 hM76
                             replace p76 := eq_true p76
                             replace q76 := eq_true q76
                             have HX93 := Aside0.mk (show Kd.R k102 102 wr w.heap.size (fun _ => True) (.slice (some ⟨go9_, 0, none⟩) x6_4.length co12) x6_4 from (by (with_reducible repeat (first | apply Kd.R_alloc | apply Kd.R_drewN | apply Kd.R_drew)); exact HO_6.out))
                             obtain ⟨ce93, hcl93, hM93, hcc93, hfr93⟩ := Kd.R_elem HX93.out z102 ((rd x9_3 x108_4) : Int) (of_decide_eq_true (by first | (with_reducible assumption) | assumption)) (by have h_ : ((rd x9_3 x108_4) : Int) < ((x6_4.length : Int) : Int) := of_decide_eq_true (by first | (with_reducible assumption) | assumption); first | exact h_ | (have e_ := (Kd.R_reads' HO_6.out).1; omega) | simpa using h_)
                             obtain rfl := k102_openM hM93
                             have HP93 := Kd.R_seg HX93.out ((rd x9_3 x108_4) : Int) (of_decide_eq_true (by first | (with_reducible assumption) | assumption)) (by have h_ : ((rd x9_3 x108_4) : Int) < ((x6_4.length : Int) : Int) := of_decide_eq_true (by first | (with_reducible assumption) | assumption); first | exact h_ | (have e_ := (Kd.R_reads' HO_6.out).1; omega) | simpa using h_) (seg := [.int .i64 (wrap64 (((rd_T102 x6_4 (rd x9_3 x108_4)).f1) + 1))]) (j := 1) hcl93 hcc93 (show 2 ≤ 3 from by decide) (x' := (⟨(rd_T102 x6_4 (rd x9_3 x108_4)).f0, wrap64 (((rd_T102 x6_4 (rd x9_3 x108_4)).f1) + 1), (rd_T102 x6_4 (rd x9_3 x108_4)).f2⟩ : S102)) (k102_mkM _ _ _ (⟨(rd_T102 x6_4 (rd x9_3 x108_4)).f0, wrap64 (((rd_T102 x6_4 (rd x9_3 x108_4)).f1) + 1), (rd_T102 x6_4 (rd x9_3 x108_4)).f2⟩ : S102) ) (fun _ hk => hk)
                             have hx93_1 := hcc93 1 _ rfl
                             (try simp only [show (k102).sz = 3 from rfl, Nat.mul_one, Nat.add_zero] at hx93_1)
                             have hf93_1 := hfr93 1
                             (try simp only [show (k102).sz = 3 from rfl, Nat.mul_one, Nat.add_zero] at hf93_1)
                             clear hcl93 hcc93 hfr93 hM93
                             go_wp2_with (first | ((with_reducible refine gate_store (t := 3) (p := 121) rfl ?_); refine store_event (t := 3) (p := 121) (v := ?vo_w94) (w1 := (wr.setCell ⟨go9_, ((rd x9_3 x108_4) : Int).toNat * 3 + 1, none⟩ (.int .i64 (wrap64 (((rd_T102 x6_4 (rd x9_3 x108_4)).f1) + 1))))) ?hg ?ho ?hn ?hr ?_; (case ho => rfl); (case hg => rfl); (case hn => rfl); (case hr => first | (go_simp; done) | (go_simp; rfl)); intro w94 hw; have hg : wr.grownBy w94 (some go9_) := (by rw [hw]; exact HP93.2); have hp_ : Kd.R k102 102 w94 w.heap.size (fun _ => True) (.slice (some ⟨go9_, 0, none⟩) x6_4.length co12) y307 := (by rw [hw, Ny307.out]; exact HP93.1); clear HP93; have n0_ := Aside0.mk (hp_); have n1_ := Aside0.mk (Kd.R_over' (v := (.slice (some ⟨go9_, 0, none⟩) x6_4.length co12)) (by (with_reducible repeat (first | apply Kd.R_alloc | apply Kd.R_drewN | apply Kd.R_drew)); exact HO_106.out) (Kd.R_typed HO_6.out) (by decide) hg); have n2_ := Aside0.mk ((by rw [hw]; exact below_set (HB.out) GB76.out : Below w.heap.size w w94)); clear HO_6; clear HO_106; clear HB; have HO_6 := n0_; have HO_106 := n1_; have HB := n2_; clear n0_ n1_ n2_; clear hg hw hp_; have p308 : 0 ≤ ((rd x9_3 x108_4) : Int) := of_decide_eq_true (by first | (with_reducible assumption) | assumption); have q308 : (rd x9_3 x108_4) < (y307.length : Int) := (by have h_ : ((rd x9_3 x108_4) : Int) < ((x6_4.length : Int) : Int) := of_decide_eq_true (by first | (with_reducible assumption) | assumption); first | (have e_ := (Kd.R_reads' HO_6.out).1; omega) | simpa only [Ny307.out, List.length_set] using h_); have ql308 : (((rd x9_3 x108_4) : Int) < ((x6_4.length : Int) : Int)) = True := eq_true (of_decide_eq_true (by first | (with_reducible assumption) | assumption)); obtain ⟨ad308, e308, hx308_0, hx308_1, hx308_2⟩ := at_T102 (Kd.R_reads' HO_6.out).2.2 (rd x9_3 x108_4) p308 q308; obtain rfl : (⟨go9_, 0, none⟩ : Addr) = ad308 := (by injection e308); (first | simp only [add_plain] at hx308_0 | simp only [add_at] at hx308_0 | simp only [Addr.add, Nat.zero_add] at hx308_0 | skip); (first | simp only [add_plain] at hx308_1 | simp only [add_at] at hx308_1 | simp only [Addr.add, Nat.zero_add] at hx308_1 | skip); (first | simp only [add_plain] at hx308_2 | simp only [add_at] at hx308_2 | simp only [Addr.add, Nat.zero_add] at hx308_2 | skip); replace p308 := eq_true p308; replace q308 := eq_true q308; have p311 : 0 ≤ ((ji88) : Int) := of_decide_eq_true (by first | (with_reducible assumption) | assumption); have q311 : (ji88) < (l1.length : Int) := of_decide_eq_true (by first | (with_reducible assumption) | assumption); obtain ⟨ad311, e311, hx311_0⟩ := Kd.at_int HR1.out (ji88) p311 q311; cases e311; replace hx311_0 := (HB.out.cell (World.block_lt_of_cell? w _ hx311_0)).trans hx311_0; replace p311 := eq_true p311; replace q311 := eq_true q311; have p312 : 0 ≤ ((rd x9_3 x108_4) : Int) := of_decide_eq_true (by first | (with_reducible assumption) | assumption); have q312 : (rd x9_3 x108_4) < (y307.length : Int) := (by have h_ : ((rd x9_3 x108_4) : Int) < ((x6_4.length : Int) : Int) := of_decide_eq_true (by first | (with_reducible assumption) | assumption); first | (have e_ := (Kd.R_reads' HO_6.out).1; omega) | simpa only [Ny307.out, List.length_set] using h_); have ql312 : (((rd x9_3 x108_4) : Int) < ((x6_4.length : Int) : Int)) = True := eq_true (of_decide_eq_true (by first | (with_reducible assumption) | assumption)); obtain ⟨ad312, e312, hx312_0, hx312_1, hx312_2⟩ := at_T102 (Kd.R_reads' HO_6.out).2.2 (rd x9_3 x108_4) p312 q312; obtain rfl : (⟨go9_, 0, none⟩ : Addr) = ad312 := (by injection e312); (first | simp only [add_plain] at hx312_0 | simp only [add_at] at hx312_0 | simp only [Addr.add, Nat.zero_add] at hx312_0 | skip); (first | simp only [add_plain] at hx312_1 | simp only [add_at] at hx312_1 | simp only [Addr.add, Nat.zero_add] at hx312_1 | skip); (first | simp only [add_plain] at hx312_2 | simp only [add_at] at hx312_2 | simp only [Addr.add, Nat.zero_add] at hx312_2 | skip); replace p312 := eq_true p312; replace q312 := eq_true q312) | ((with_reducible refine gate_callee (f := 35) rfl ?_); refine goesL_ (some 153) rfl rfl Try.func35 (by kernel_rfl) rfl #[.int .i64 ((rd_T102 y307 (rd x9_3 x108_4)).f1), .int .i64 (rd l1 (ji88))] rfl (by (try simp only [List.map_toArray, List.map_cons, List.map_nil]); first | done | (simp only [hji88]; rfl) | rfl | (simp only [List.length_drop, List.length_take]; rfl)) ?_; (with_reducible refine (backoff_Wait.calls ((rd_T102 y307 (rd x9_3 x108_4)).f1) (rd l1 (ji88)) t313 t314 _ A91.out).mono ?_); rintro e w95 ⟨rfl, hb⟩; refine ⟨_, rfl, ?_⟩; have n0_ := Aside0.mk (Kd.R_below (by (with_reducible repeat (first | apply Kd.R_alloc | apply Kd.R_drewN | apply Kd.R_drew)); exact HO_6.out) hb); have n1_ := Aside0.mk (Kd.R_below (by (with_reducible repeat (first | apply Kd.R_alloc | apply Kd.R_drewN | apply Kd.R_drew)); exact HO_106.out) hb); have n2_ := Aside0.mk (below_step (by repeat (first | (with_reducible first | exact HB.out | apply below_alloc | apply pw_below_drewN | apply below_drew1) | exact HB.out)) hb); clear HO_6; clear HO_106; clear HB; have HO_6 := n0_; have HO_106 := n1_; have HB := n2_; clear n0_ n1_ n2_; (try clear hb); (try clear hb2); (try clear hk); (try clear hi); have p92 : 0 ≤ ((rd x9_3 x108_4) : Int) := of_decide_eq_true (by first | (with_reducible assumption) | assumption); have q92 : ((rd x9_3 x108_4) : Int) < ((x6_4.length : Int) : Int) := of_decide_eq_true (by first | (with_reducible assumption) | assumption); obtain ⟨ce92, hcl92, hM92, hcc92, hfr92⟩ := Kd.R_elem HO_6.out z102 ((rd x9_3 x108_4) : Int) p92 q92; obtain rfl := k102_openM hM92; have hx92_0 : w95.cell? ⟨go9_, ((rd x9_3 x108_4) : Int).toNat * 3, none⟩ = some (.int .i64 ((rd_T102 y307 (rd x9_3 x108_4)).f0)) := hcc92 0 _ rfl; have hx92_1 : w95.cell? ⟨go9_, ((rd x9_3 x108_4) : Int).toNat * 3 + 1, none⟩ = some (.int .i64 ((rd_T102 y307 (rd x9_3 x108_4)).f1)) := hcc92 1 _ rfl; have hx92_2 : w95.cell? ⟨go9_, ((rd x9_3 x108_4) : Int).toNat * 3 + 2, none⟩ = some (.int .i64 ((rd_T102 y307 (rd x9_3 x108_4)).f2)) := hcc92 2 _ rfl; have hf92_0 : w95.frozen? ⟨go9_, ((rd x9_3 x108_4) : Int).toNat * 3, none⟩ = false := hfr92 0; have hf92_1 : w95.frozen? ⟨go9_, ((rd x9_3 x108_4) : Int).toNat * 3 + 1, none⟩ = false := hfr92 1; have hf92_2 : w95.frozen? ⟨go9_, ((rd x9_3 x108_4) : Int).toNat * 3 + 2, none⟩ = false := hfr92 2; clear hcl92 hcc92 hfr92 hM92; replace p92 := eq_true p92; replace q92 := eq_true q92; have HX96 := Aside0.mk (show Kd.R k102 102 w95 w.heap.size (fun _ => True) (.slice (some ⟨go9_, 0, none⟩) x6_4.length co12) y307 from (by (with_reducible repeat (first | apply Kd.R_alloc | apply Kd.R_drewN | apply Kd.R_drew)); exact HO_6.out)); obtain ⟨ce96, hcl96, hM96, hcc96, hfr96⟩ := Kd.R_elem HX96.out z102 ((rd x9_3 x108_4) : Int) (of_decide_eq_true (by first | (with_reducible assumption) | assumption)) (by have h_ : ((rd x9_3 x108_4) : Int) < ((x6_4.length : Int) : Int) := of_decide_eq_true (by first | (with_reducible assumption) | assumption); first | exact h_ | (have e_ := (Kd.R_reads' HO_6.out).1; omega) | simpa using h_); obtain rfl := k102_openM hM96; have HP96 := Kd.R_seg HX96.out ((rd x9_3 x108_4) : Int) (of_decide_eq_true (by first | (with_reducible assumption) | assumption)) (by have h_ : ((rd x9_3 x108_4) : Int) < ((x6_4.length : Int) : Int) := of_decide_eq_true (by first | (with_reducible assumption) | assumption); first | exact h_ | (have e_ := (Kd.R_reads' HO_6.out).1; omega) | simpa using h_) (seg := [.int .i64 (wrap64 ((wrap64 (((rd_T102 x6_2 (rd x9_3 0)).f0) + 1)) + t313))]) (j := 0) hcl96 hcc96 (show 1 ≤ 3 from by decide) (x' := (⟨wrap64 ((wrap64 (((rd_T102 x6_2 (rd x9_3 0)).f0) + 1)) + t313), (rd_T102 y307 (rd x9_3 x108_4)).f1, (rd_T102 y307 (rd x9_3 x108_4)).f2⟩ : S102)) (k102_mkM _ _ _ (⟨wrap64 ((wrap64 (((rd_T102 x6_2 (rd x9_3 0)).f0) + 1)) + t313), (rd_T102 y307 (rd x9_3 x108_4)).f1, (rd_T102 y307 (rd x9_3 x108_4)).f2⟩ : S102) ) (fun _ hk => hk); have hx96_0 := hcc96 0 _ rfl; (try simp only [show (k102).sz = 3 from rfl, Nat.mul_one, Nat.add_zero] at hx96_0); have hf96_0 := hfr96 0; (try simp only [show (k102).sz = 3 from rfl, Nat.mul_one, Nat.add_zero] at hf96_0); clear hcl96 hcc96 hfr96 hM96) | ((with_reducible refine gate_store (t := 3) (p := 162) rfl ?_); refine store_event (t := 3) (p := 162) (v := ?vo_w97) (w1 := (w95.setCell ⟨go9_, ((rd x9_3 x108_4) : Int).toNat * 3, none⟩ (.int .i64 (wrap64 ((wrap64 (((rd_T102 x6_2 (rd x9_3 0)).f0) + 1)) + t313))))) ?hg ?ho ?hn ?hr ?_; (case ho => rfl); (case hg => rfl); (case hn => rfl); (case hr => first | (go_simp; done) | (go_simp; rfl)); intro w97 hw; have hg : w95.grownBy w97 (some go9_) := (by rw [hw]; exact HP96.2); have hp_ : Kd.R k102 102 w97 w.heap.size (fun _ => True) (.slice (some ⟨go9_, 0, none⟩) x6_4.length co12) y315 := (by rw [hw, Ny315.out]; exact HP96.1); clear HP96; have n0_ := Aside0.mk (hp_); have n1_ := Aside0.mk (Kd.R_over' (v := (.slice (some ⟨go9_, 0, none⟩) x6_4.length co12)) (by (with_reducible repeat (first | apply Kd.R_alloc | apply Kd.R_drewN | apply Kd.R_drew)); exact HO_106.out) (Kd.R_typed HO_6.out) (by decide) hg); have n2_ := Aside0.mk ((by rw [hw]; exact below_set (HB.out) GB76.out : Below w.heap.size w w97)); clear HO_6; clear HO_106; clear HB; have HO_6 := n0_; have HO_106 := n1_; have HB := n2_; clear n0_ n1_ n2_; clear hg hw hp_))
                             (try simp only [← hl6_4])
                             go_roundg k4
                             case measure => have := HJ2.out; have := HK2.out; have := HK3.out; have := HK4.out; omega
                             case rel => exact ⟨(y315), (wrap64 (x7_4 + 1)), (x8_4), (wrap64 (x108_4 + 1)), (by first | rfl | (simp; done) | (simp [*]; done)), (by first | rfl | (simp; done) | (simp [*]; done)), (by first | rfl | (simp; done) | (simp [*]; done)), H', ⟨by have := HJ2.out; have := HK2.out; have := HK3.out; have := HK4.out; omega⟩, ⟨by (try simp only [hl6_4]); (with_reducible repeat (first | apply Kd.R_alloc | apply Kd.R_drewN | apply Kd.R_drew)); exact HO_6.out⟩, ⟨by (try simp only [hl6_4]); (with_reducible repeat (first | apply Kd.R_alloc | apply Kd.R_drewN | apply Kd.R_drew)); exact HO_106.out⟩, ⟨by repeat (first | (with_reducible first | exact HB.out | apply below_alloc | apply pw_below_drewN | apply below_drew1) | exact HB.out)⟩⟩
                            ·rw [if_neg c90] at H
                             exact absurd H (by simp)
                           ·rw [if_neg c89] at H
                            exact absurd H (by simp)
                         ·rw [if_neg c86] at H
                          have c86b0 : decide (0 < (l1.length : Int)) = false := decide_eq_false c86
                          (try simp only [hl6_4] at c86b0)
                          have c86b1 : decide (0 < l1.length) = false := decide_eq_false (by omega)
                          (try simp only [hl6_4] at c86b1)
                          clear c86
                          replace H := Option.bind_eq_some_iff.mp H
                          obtain ⟨⟨t317, t318⟩, A980, H⟩ := H
                          replace H : (backoff_Contend.l2 k4 a0 l1 (y307.set ((rd x9_3 x108_4) : Int).toNat (⟨wrap64 ((wrap64 (((rd_T102 x6_2 (rd x9_3 0)).f0) + 1)) + t317), (rd_T102 y307 (rd x9_3 x108_4)).f1, (rd_T102 y307 (rd x9_3 x108_4)).f2⟩ : S102)) (wrap64 (x7_4 + 1)) x8_4 ((rd_T102 x6_2 (rd x9_3 0)).f0) x9_3 (x9_3.length : Int) (wrap64 (x108_4 + 1))) = some (r1, r2) := H
                          have A98 := Aside0.mk A980
                          clear A980
                          obtain ⟨y319, hy319⟩ : ∃ y_ : List (S102), y_ = (y307.set ((rd x9_3 x108_4) : Int).toNat (⟨wrap64 ((wrap64 (((rd_T102 x6_2 (rd x9_3 0)).f0) + 1)) + t317), (rd_T102 y307 (rd x9_3 x108_4)).f1, (rd_T102 y307 (rd x9_3 x108_4)).f2⟩ : S102)) := ⟨_, rfl⟩
                          replace H : (backoff_Contend.l2 k4 a0 l1 y319 (wrap64 (x7_4 + 1)) x8_4 ((rd_T102 x6_2 (rd x9_3 0)).f0) x9_3 (x9_3.length : Int) (wrap64 (x108_4 + 1))) = some (r1, r2) := by first | (rw [hy319]; with_reducible exact H) | (have H2_ := (Option.bind_some _ _).symm.trans H; rw [hy319]; with_reducible exact H2_) | (have H2_ := (Option.bind_some _ _).symm.trans H; with_reducible exact H2_) | with_reducible exact H | (rw [hy319]; exact H) | exact H
                          have Ny319 := Aside0.mk hy319
                          clear hy319
                          have H' := Aside0.mk H
                          clear H
                          have p304 : 0 ≤ (x108_4 : Int) := of_decide_eq_true (by first | (with_reducible assumption) | assumption)
                          have q304 : x108_4 < (x9_3.length : Int) := of_decide_eq_true (by first | (with_reducible assumption) | assumption)
                          obtain ⟨ad304, e304, hx304_0⟩ := Kd.at_int (Kd.R_reads' HO_106.out).2.2 x108_4 p304 q304
                          obtain rfl : ad298 = ad304 := (by injection e304)
                          replace p304 := eq_true p304
                          replace q304 := eq_true q304
                          have p305 : 0 ≤ ((rd x9_3 x108_4) : Int) := of_decide_eq_true (by first | (with_reducible assumption) | assumption)
                          have q305 : (rd x9_3 x108_4) < (x6_4.length : Int) := of_decide_eq_true (by first | (with_reducible assumption) | assumption)
                          obtain ⟨ad305, e305, hx305_0, hx305_1, hx305_2⟩ := at_T102 (Kd.R_reads' HO_6.out).2.2 (rd x9_3 x108_4) p305 q305
                          obtain rfl : (⟨go9_, 0, none⟩ : Addr) = ad305 := (by injection e305)
                          replace p305 := eq_true p305
                          replace q305 := eq_true q305
                          have p306 : 0 ≤ ((rd x9_3 x108_4) : Int) := of_decide_eq_true (by first | (with_reducible assumption) | assumption)
                          have q306 : (rd x9_3 x108_4) < (x6_4.length : Int) := of_decide_eq_true (by first | (with_reducible assumption) | assumption)
                          obtain ⟨ad306, e306, hx306_0, hx306_1, hx306_2⟩ := at_T102 (Kd.R_reads' HO_6.out).2.2 (rd x9_3 x108_4) p306 q306
                          obtain rfl : (⟨go9_, 0, none⟩ : Addr) = ad306 := (by injection e306)
                          replace p306 := eq_true p306
                          replace q306 := eq_true q306
                          have p76 : 0 ≤ ((rd x9_3 x108_4) : Int) := of_decide_eq_true (by first | (with_reducible assumption) | assumption)
                          have q76 : ((rd x9_3 x108_4) : Int) < ((x6_4.length : Int) : Int) := of_decide_eq_true (by first | (with_reducible assumption) | assumption)
                          obtain ⟨go76, co76, eo76, gb76, gl76, cl76, HG76⟩ := Kd.R_form HO_6.out (by omega)
                          (first | cases eo76 | (injection eo76 with ea_ en_ ec_; (first | subst ea_ | (injection ea_ with ea_; subst ea_)); subst ec_; clear en_))
                          have GB76 := Aside0.mk gb76
                          have GG76 := Aside0.mk HG76
                          clear gb76 gl76 HG76
                          (first | simp only [add_plain] at hx305_0 | skip)
                          (first | simp only [add_plain] at hx305_1 | skip)
                          (first | simp only [add_plain] at hx305_2 | skip)
                          (first | simp only [add_plain] at hx306_0 | skip)
                          (first | simp only [add_plain] at hx306_1 | skip)
                          (first | simp only [add_plain] at hx306_2 | skip)
                          obtain ⟨ce76, hcl76, hM76, hcc76, hfr76⟩ := Kd.R_elem HO_6.out z102 ((rd x9_3 x108_4) : Int) p76 q76
                          obtain rfl := k102_openM hM76
                          have hx76_0 : wr.cell? ⟨go9_, ((rd x9_3 x108_4) : Int).toNat * 3, none⟩ = some (.int .i64 ((rd_T102 x6_4 (rd x9_3 x108_4)).f0)) := hcc76 0 _ rfl
                          have hx76_1 : wr.cell? ⟨go9_, ((rd x9_3 x108_4) : Int).toNat * 3 + 1, none⟩ = some (.int .i64 ((rd_T102 x6_4 (rd x9_3 x108_4)).f1)) := hcc76 1 _ rfl
                          have hx76_2 : wr.cell? ⟨go9_, ((rd x9_3 x108_4) : Int).toNat * 3 + 2, none⟩ = some (.int .i64 ((rd_T102 x6_4 (rd x9_3 x108_4)).f2)) := hcc76 2 _ rfl
                          have hf76_0 : wr.frozen? ⟨go9_, ((rd x9_3 x108_4) : Int).toNat * 3, none⟩ = false := hfr76 0
                          have hf76_1 : wr.frozen? ⟨go9_, ((rd x9_3 x108_4) : Int).toNat * 3 + 1, none⟩ = false := hfr76 1
                          have hf76_2 : wr.frozen? ⟨go9_, ((rd x9_3 x108_4) : Int).toNat * 3 + 2, none⟩ = false := hfr76 2
                          clear hcl76 hcc76 hfr76 hM76
                          replace p76 := eq_true p76
                          replace q76 := eq_true q76
                          have HX100 := Aside0.mk (show Kd.R k102 102 wr w.heap.size (fun _ => True) (.slice (some ⟨go9_, 0, none⟩) x6_4.length co12) x6_4 from (by (with_reducible repeat (first | apply Kd.R_alloc | apply Kd.R_drewN | apply Kd.R_drew)); exact HO_6.out))
                          obtain ⟨ce100, hcl100, hM100, hcc100, hfr100⟩ := Kd.R_elem HX100.out z102 ((rd x9_3 x108_4) : Int) (of_decide_eq_true (by first | (with_reducible assumption) | assumption)) (by have h_ : ((rd x9_3 x108_4) : Int) < ((x6_4.length : Int) : Int) := of_decide_eq_true (by first | (with_reducible assumption) | assumption); first | exact h_ | (have e_ := (Kd.R_reads' HO_6.out).1; omega) | simpa using h_)
                          obtain rfl := k102_openM hM100
                          have HP100 := Kd.R_seg HX100.out ((rd x9_3 x108_4) : Int) (of_decide_eq_true (by first | (with_reducible assumption) | assumption)) (by have h_ : ((rd x9_3 x108_4) : Int) < ((x6_4.length : Int) : Int) := of_decide_eq_true (by first | (with_reducible assumption) | assumption); first | exact h_ | (have e_ := (Kd.R_reads' HO_6.out).1; omega) | simpa using h_) (seg := [.int .i64 (wrap64 (((rd_T102 x6_4 (rd x9_3 x108_4)).f1) + 1))]) (j := 1) hcl100 hcc100 (show 2 ≤ 3 from by decide) (x' := (⟨(rd_T102 x6_4 (rd x9_3 x108_4)).f0, wrap64 (((rd_T102 x6_4 (rd x9_3 x108_4)).f1) + 1), (rd_T102 x6_4 (rd x9_3 x108_4)).f2⟩ : S102)) (k102_mkM _ _ _ (⟨(rd_T102 x6_4 (rd x9_3 x108_4)).f0, wrap64 (((rd_T102 x6_4 (rd x9_3 x108_4)).f1) + 1), (rd_T102 x6_4 (rd x9_3 x108_4)).f2⟩ : S102) ) (fun _ hk => hk)
                          have hx100_1 := hcc100 1 _ rfl
                          (try simp only [show (k102).sz = 3 from rfl, Nat.mul_one, Nat.add_zero] at hx100_1)
                          have hf100_1 := hfr100 1
                          (try simp only [show (k102).sz = 3 from rfl, Nat.mul_one, Nat.add_zero] at hf100_1)
                          clear hcl100 hcc100 hfr100 hM100
                          go_wp2_with (first | ((with_reducible refine gate_store (t := 3) (p := 121) rfl ?_); refine store_event (t := 3) (p := 121) (v := ?vo_w101) (w1 := (wr.setCell ⟨go9_, ((rd x9_3 x108_4) : Int).toNat * 3 + 1, none⟩ (.int .i64 (wrap64 (((rd_T102 x6_4 (rd x9_3 x108_4)).f1) + 1))))) ?hg ?ho ?hn ?hr ?_; (case ho => rfl); (case hg => rfl); (case hn => rfl); (case hr => first | (go_simp; done) | (go_simp; rfl)); intro w101 hw; have hg : wr.grownBy w101 (some go9_) := (by rw [hw]; exact HP100.2); have hp_ : Kd.R k102 102 w101 w.heap.size (fun _ => True) (.slice (some ⟨go9_, 0, none⟩) x6_4.length co12) y307 := (by rw [hw, Ny307.out]; exact HP100.1); clear HP100; have n0_ := Aside0.mk (hp_); have n1_ := Aside0.mk (Kd.R_over' (v := (.slice (some ⟨go9_, 0, none⟩) x6_4.length co12)) (by (with_reducible repeat (first | apply Kd.R_alloc | apply Kd.R_drewN | apply Kd.R_drew)); exact HO_106.out) (Kd.R_typed HO_6.out) (by decide) hg); have n2_ := Aside0.mk ((by rw [hw]; exact below_set (HB.out) GB76.out : Below w.heap.size w w101)); clear HO_6; clear HO_106; clear HB; have HO_6 := n0_; have HO_106 := n1_; have HB := n2_; clear n0_ n1_ n2_; clear hg hw hp_; have p308 : 0 ≤ ((rd x9_3 x108_4) : Int) := of_decide_eq_true (by first | (with_reducible assumption) | assumption); have q308 : (rd x9_3 x108_4) < (y307.length : Int) := (by have h_ : ((rd x9_3 x108_4) : Int) < ((x6_4.length : Int) : Int) := of_decide_eq_true (by first | (with_reducible assumption) | assumption); first | (have e_ := (Kd.R_reads' HO_6.out).1; omega) | simpa only [Ny307.out, List.length_set] using h_); have ql308 : (((rd x9_3 x108_4) : Int) < ((x6_4.length : Int) : Int)) = True := eq_true (of_decide_eq_true (by first | (with_reducible assumption) | assumption)); obtain ⟨ad308, e308, hx308_0, hx308_1, hx308_2⟩ := at_T102 (Kd.R_reads' HO_6.out).2.2 (rd x9_3 x108_4) p308 q308; obtain rfl : (⟨go9_, 0, none⟩ : Addr) = ad308 := (by injection e308); (first | simp only [add_plain] at hx308_0 | simp only [add_at] at hx308_0 | simp only [Addr.add, Nat.zero_add] at hx308_0 | skip); (first | simp only [add_plain] at hx308_1 | simp only [add_at] at hx308_1 | simp only [Addr.add, Nat.zero_add] at hx308_1 | skip); (first | simp only [add_plain] at hx308_2 | simp only [add_at] at hx308_2 | simp only [Addr.add, Nat.zero_add] at hx308_2 | skip); replace p308 := eq_true p308; replace q308 := eq_true q308; have p316 : 0 ≤ ((rd x9_3 x108_4) : Int) := of_decide_eq_true (by first | (with_reducible assumption) | assumption); have q316 : (rd x9_3 x108_4) < (y307.length : Int) := (by have h_ : ((rd x9_3 x108_4) : Int) < ((x6_4.length : Int) : Int) := of_decide_eq_true (by first | (with_reducible assumption) | assumption); first | (have e_ := (Kd.R_reads' HO_6.out).1; omega) | simpa only [Ny307.out, List.length_set] using h_); have ql316 : (((rd x9_3 x108_4) : Int) < ((x6_4.length : Int) : Int)) = True := eq_true (of_decide_eq_true (by first | (with_reducible assumption) | assumption)); obtain ⟨ad316, e316, hx316_0, hx316_1, hx316_2⟩ := at_T102 (Kd.R_reads' HO_6.out).2.2 (rd x9_3 x108_4) p316 q316; obtain rfl : (⟨go9_, 0, none⟩ : Addr) = ad316 := (by injection e316); (first | simp only [add_plain] at hx316_0 | simp only [add_at] at hx316_0 | simp only [Addr.add, Nat.zero_add] at hx316_0 | skip); (first | simp only [add_plain] at hx316_1 | simp only [add_at] at hx316_1 | simp only [Addr.add, Nat.zero_add] at hx316_1 | skip); (first | simp only [add_plain] at hx316_2 | simp only [add_at] at hx316_2 | simp only [Addr.add, Nat.zero_add] at hx316_2 | skip); replace p316 := eq_true p316; replace q316 := eq_true q316) | ((with_reducible refine gate_callee (f := 35) rfl ?_); refine goesL_ (some 153) rfl rfl Try.func35 (by kernel_rfl) rfl #[.int .i64 ((rd_T102 y307 (rd x9_3 x108_4)).f1), .int .i64 0] rfl (by (try simp only [List.map_toArray, List.map_cons, List.map_nil]); first | done | rfl | (simp only [List.length_drop, List.length_take]; rfl)) ?_; (with_reducible refine (backoff_Wait.calls ((rd_T102 y307 (rd x9_3 x108_4)).f1) 0 t317 t318 _ A98.out).mono ?_); rintro e w102 ⟨rfl, hb⟩; refine ⟨_, rfl, ?_⟩; have n0_ := Aside0.mk (Kd.R_below (by (with_reducible repeat (first | apply Kd.R_alloc | apply Kd.R_drewN | apply Kd.R_drew)); exact HO_6.out) hb); have n1_ := Aside0.mk (Kd.R_below (by (with_reducible repeat (first | apply Kd.R_alloc | apply Kd.R_drewN | apply Kd.R_drew)); exact HO_106.out) hb); have n2_ := Aside0.mk (below_step (by repeat (first | (with_reducible first | exact HB.out | apply below_alloc | apply pw_below_drewN | apply below_drew1) | exact HB.out)) hb); clear HO_6; clear HO_106; clear HB; have HO_6 := n0_; have HO_106 := n1_; have HB := n2_; clear n0_ n1_ n2_; (try clear hb); (try clear hb2); (try clear hk); (try clear hi); have p99 : 0 ≤ ((rd x9_3 x108_4) : Int) := of_decide_eq_true (by first | (with_reducible assumption) | assumption); have q99 : ((rd x9_3 x108_4) : Int) < ((x6_4.length : Int) : Int) := of_decide_eq_true (by first | (with_reducible assumption) | assumption); obtain ⟨ce99, hcl99, hM99, hcc99, hfr99⟩ := Kd.R_elem HO_6.out z102 ((rd x9_3 x108_4) : Int) p99 q99; obtain rfl := k102_openM hM99; have hx99_0 : w102.cell? ⟨go9_, ((rd x9_3 x108_4) : Int).toNat * 3, none⟩ = some (.int .i64 ((rd_T102 y307 (rd x9_3 x108_4)).f0)) := hcc99 0 _ rfl; have hx99_1 : w102.cell? ⟨go9_, ((rd x9_3 x108_4) : Int).toNat * 3 + 1, none⟩ = some (.int .i64 ((rd_T102 y307 (rd x9_3 x108_4)).f1)) := hcc99 1 _ rfl; have hx99_2 : w102.cell? ⟨go9_, ((rd x9_3 x108_4) : Int).toNat * 3 + 2, none⟩ = some (.int .i64 ((rd_T102 y307 (rd x9_3 x108_4)).f2)) := hcc99 2 _ rfl; have hf99_0 : w102.frozen? ⟨go9_, ((rd x9_3 x108_4) : Int).toNat * 3, none⟩ = false := hfr99 0; have hf99_1 : w102.frozen? ⟨go9_, ((rd x9_3 x108_4) : Int).toNat * 3 + 1, none⟩ = false := hfr99 1; have hf99_2 : w102.frozen? ⟨go9_, ((rd x9_3 x108_4) : Int).toNat * 3 + 2, none⟩ = false := hfr99 2; clear hcl99 hcc99 hfr99 hM99; replace p99 := eq_true p99; replace q99 := eq_true q99; have HX103 := Aside0.mk (show Kd.R k102 102 w102 w.heap.size (fun _ => True) (.slice (some ⟨go9_, 0, none⟩) x6_4.length co12) y307 from (by (with_reducible repeat (first | apply Kd.R_alloc | apply Kd.R_drewN | apply Kd.R_drew)); exact HO_6.out)); obtain ⟨ce103, hcl103, hM103, hcc103, hfr103⟩ := Kd.R_elem HX103.out z102 ((rd x9_3 x108_4) : Int) (of_decide_eq_true (by first | (with_reducible assumption) | assumption)) (by have h_ : ((rd x9_3 x108_4) : Int) < ((x6_4.length : Int) : Int) := of_decide_eq_true (by first | (with_reducible assumption) | assumption); first | exact h_ | (have e_ := (Kd.R_reads' HO_6.out).1; omega) | simpa using h_); obtain rfl := k102_openM hM103; have HP103 := Kd.R_seg HX103.out ((rd x9_3 x108_4) : Int) (of_decide_eq_true (by first | (with_reducible assumption) | assumption)) (by have h_ : ((rd x9_3 x108_4) : Int) < ((x6_4.length : Int) : Int) := of_decide_eq_true (by first | (with_reducible assumption) | assumption); first | exact h_ | (have e_ := (Kd.R_reads' HO_6.out).1; omega) | simpa using h_) (seg := [.int .i64 (wrap64 ((wrap64 (((rd_T102 x6_2 (rd x9_3 0)).f0) + 1)) + t317))]) (j := 0) hcl103 hcc103 (show 1 ≤ 3 from by decide) (x' := (⟨wrap64 ((wrap64 (((rd_T102 x6_2 (rd x9_3 0)).f0) + 1)) + t317), (rd_T102 y307 (rd x9_3 x108_4)).f1, (rd_T102 y307 (rd x9_3 x108_4)).f2⟩ : S102)) (k102_mkM _ _ _ (⟨wrap64 ((wrap64 (((rd_T102 x6_2 (rd x9_3 0)).f0) + 1)) + t317), (rd_T102 y307 (rd x9_3 x108_4)).f1, (rd_T102 y307 (rd x9_3 x108_4)).f2⟩ : S102) ) (fun _ hk => hk); have hx103_0 := hcc103 0 _ rfl; (try simp only [show (k102).sz = 3 from rfl, Nat.mul_one, Nat.add_zero] at hx103_0); have hf103_0 := hfr103 0; (try simp only [show (k102).sz = 3 from rfl, Nat.mul_one, Nat.add_zero] at hf103_0); clear hcl103 hcc103 hfr103 hM103) | ((with_reducible refine gate_store (t := 3) (p := 162) rfl ?_); refine store_event (t := 3) (p := 162) (v := ?vo_w104) (w1 := (w102.setCell ⟨go9_, ((rd x9_3 x108_4) : Int).toNat * 3, none⟩ (.int .i64 (wrap64 ((wrap64 (((rd_T102 x6_2 (rd x9_3 0)).f0) + 1)) + t317))))) ?hg ?ho ?hn ?hr ?_; (case ho => rfl); (case hg => rfl); (case hn => rfl); (case hr => first | (go_simp; done) | (go_simp; rfl)); intro w104 hw; have hg : w102.grownBy w104 (some go9_) := (by rw [hw]; exact HP103.2); have hp_ : Kd.R k102 102 w104 w.heap.size (fun _ => True) (.slice (some ⟨go9_, 0, none⟩) x6_4.length co12) y319 := (by rw [hw, Ny319.out]; exact HP103.1); clear HP103; have n0_ := Aside0.mk (hp_); have n1_ := Aside0.mk (Kd.R_over' (v := (.slice (some ⟨go9_, 0, none⟩) x6_4.length co12)) (by (with_reducible repeat (first | apply Kd.R_alloc | apply Kd.R_drewN | apply Kd.R_drew)); exact HO_106.out) (Kd.R_typed HO_6.out) (by decide) hg); have n2_ := Aside0.mk ((by rw [hw]; exact below_set (HB.out) GB76.out : Below w.heap.size w w104)); clear HO_6; clear HO_106; clear HB; have HO_6 := n0_; have HO_106 := n1_; have HB := n2_; clear n0_ n1_ n2_; clear hg hw hp_))
                          (try simp only [← hl6_4])
                          go_roundg k4
                          case measure => have := HJ2.out; have := HK2.out; have := HK3.out; have := HK4.out; omega
                          case rel => exact ⟨(y319), (wrap64 (x7_4 + 1)), (x8_4), (wrap64 (x108_4 + 1)), (by first | rfl | (simp; done) | (simp [*]; done)), (by first | rfl | (simp; done) | (simp [*]; done)), (by first | rfl | (simp; done) | (simp [*]; done)), H', ⟨by have := HJ2.out; have := HK2.out; have := HK3.out; have := HK4.out; omega⟩, ⟨by (try simp only [hl6_4]); (with_reducible repeat (first | apply Kd.R_alloc | apply Kd.R_drewN | apply Kd.R_drew)); exact HO_6.out⟩, ⟨by (try simp only [hl6_4]); (with_reducible repeat (first | apply Kd.R_alloc | apply Kd.R_drewN | apply Kd.R_drew)); exact HO_106.out⟩, ⟨by repeat (first | (with_reducible first | exact HB.out | apply below_alloc | apply pw_below_drewN | apply below_drew1) | exact HB.out)⟩⟩
                       ·rw [if_neg c75] at H
                        exact absurd H (by simp)
                      ·rw [if_neg c74] at H
                       exact absurd H (by simp)
                     ·rw [if_neg c73] at H
                      exact absurd H (by simp)
                    ·rw [if_neg c72] at H
                     exact absurd H (by simp)
                   ·rw [if_neg c71] at H
                    have c71b0 : decide (x108_4 < (x9_3.length : Int)) = false := decide_eq_false c71
                    (try simp only [hl6_4] at c71b0)
                    clear c71
                    have H' := Aside0.mk H
                    clear H
                    go_wp2
                    (try simp only [← hl6_4])
                    go_roundg k4
                    case measure => have := HJ2.out; have := HK2.out; have := HK3.out; have := HK4.out; omega
                    case rel => exact ⟨(x6_4), (x7_4), (x8_4), (by first | rfl | (simp; done) | (simp [*]; done)), (by first | rfl | (simp; done) | (simp [*]; done)), H', ⟨by have := HJ2.out; have := HK2.out; have := HK3.out; have := HK4.out; omega⟩, ⟨by (try simp only [hl6_4]); (with_reducible repeat (first | apply Kd.R_alloc | apply Kd.R_drewN | apply Kd.R_drew)); exact HO_6.out⟩, ⟨by repeat (first | (with_reducible first | exact HB.out | apply below_alloc | apply pw_below_drewN | apply below_drew1) | exact HB.out)⟩⟩
               ·rw [if_neg c62] at H
                exact absurd H (by simp)
              ·rw [if_neg c61] at H
               exact absurd H (by simp)
             ·rw [if_neg c60] at H
              exact absurd H (by simp)
         ·rw [if_neg c11] at H
          have c11b0 : decide (0 < x8_2) = false := decide_eq_false c11
          clear c11
          by_cases c105 : 0 ≤ a0
          ·rw [if_pos c105] at H
           have c105b0 := eq_true c105
           try (have c105b0q := c105b0; simp only [ByteArray.size_append, ByteArray.size_extract, Nat.min_self, Nat.sub_zero, Int.natCast_add] at c105b0q)
           have c105b1 : decide (0 ≤ a0) = true := decide_eq_true c105
           clear c105
           by_cases c106 : (a0 : Int).toNat ≤ 35184372088832
           ·rw [if_pos c106] at H
            have c106b0 := eq_true c106
            try (have c106b0q := c106b0; simp only [ByteArray.size_append, ByteArray.size_extract, Nat.min_self, Nat.sub_zero, Int.natCast_add] at c106b0q)
            have c106b1 : decide ((a0 : Int).toNat ≤ 35184372088832) = true := decide_eq_true c106
            clear c106
            obtain ⟨y320, hy320⟩ : ∃ y_ : List Int, y_ = (List.replicate (a0 : Int).toNat 0) := ⟨_, rfl⟩
            replace H : (backoff_Contend.l3 k2 y320 x6_2 (x6_2.length : Int) 0) = some (r1, r2) := by first | (rw [hy320]; with_reducible exact H) | (have H2_ := (Option.bind_some _ _).symm.trans H; rw [hy320]; with_reducible exact H2_) | (have H2_ := (Option.bind_some _ _).symm.trans H; with_reducible exact H2_) | with_reducible exact H | (rw [hy320]; exact H) | exact H
            have Ny320 := Aside0.mk hy320
            clear hy320
            have H' := Aside0.mk H
            clear H
            go_wp2_with (first | ((with_reducible refine gate_dst (N := 165) rfl ?_); refine Kd.R_make (Kd.int .i64) _ 3 rfl (N := 165) rfl 40 _ _ rfl a0 rfl rfl Try.underlying40 (.int .i64 0) 8 info3 rfl (by decide) (by omega) 0 (ok := fun _ => True) (okp := fun _ => True) rfl (fun _ hk => hk) trivial (of_decide_eq_true (by first | (with_reducible assumption) | assumption)) (Nat.le_trans (Nat.mul_le_mul_right _ (of_decide_eq_true (by first | (with_reducible assumption) | assumption) : a0.toNat ≤ 35184372088832)) (by omega)) (Below.refl _ _) (Nat.le_refl _) ?_; intro v321 w107 ho108 hb hg_ hnew_; clear hg_ hnew_; (first | rw [← Ny320.out] at ho108 | (simp only [Int.reduceToNat] at ho108; rw [← Ny320.out] at ho108)); have n0_ := Aside0.mk (Kd.R_below (by (with_reducible repeat (first | apply Kd.R_alloc | apply Kd.R_drewN | apply Kd.R_drew)); exact HO_6.out) hb); have n1_ := Aside0.mk (Kd.R_lower ho108 (below_size (by repeat (first | (with_reducible first | exact HB.out | apply below_alloc | apply pw_below_drewN | apply below_drew1) | exact HB.out)))); have n2_ := Aside0.mk (below_step (by repeat (first | (with_reducible first | exact HB.out | apply below_alloc | apply pw_below_drewN | apply below_drew1) | exact HB.out)) hb); clear HO_6; clear HB; have HO_6 := n0_; have HO322 := n1_; have HB := n2_; clear n0_ n1_ n2_; clear hb ho108; obtain ⟨Ao109, co109, eo109⟩ := Kd.R_slice HO_6.out; subst eo109))
            go_loopg [168] k2 (fun kq v168 w' => ∃ (x19_3 : List Int) (x168_3 : Int), v168 = .int .i64 x168_3 ∧ Aside0 (backoff_Contend.l3 kq x19_3 x6_2 (x6_2.length : Int) x168_3 = some (r1, r2)) ∧ Aside0 (kq ≤ k2) ∧ Aside0 (Kd.R (Kd.int .i64) 3 w' w.heap.size (fun _ => True) v321 x19_3) ∧ Aside0 (Kd.R k102 102 w' w.heap.size (fun _ => True) (.slice Ao109 x6_2.length co109) x6_2) ∧ Aside0 (Below w.heap.size w w'))
            case atStart => exact ⟨(y320), (0), (by first | rfl | (simp; done) | (simp [*]; done)), H', ⟨Nat.le_refl _⟩, ⟨by (with_reducible repeat (first | apply Kd.R_alloc | apply Kd.R_drewN | apply Kd.R_drew)); exact HO322.out⟩, ⟨by (with_reducible repeat (first | apply Kd.R_alloc | apply Kd.R_drewN | apply Kd.R_drew)); exact HO_6.out⟩, ⟨by repeat (first | (with_reducible first | exact HB.out | apply below_alloc | apply pw_below_drewN | apply below_drew1) | exact HB.out)⟩⟩
            case round =>
             clear H'
             try clear c1
             try clear hx1
             try clear p2
             try clear q2
             try clear hx2
             try clear qi2
             try clear c3
             try clear p3
             try clear q3
             try clear hx3
             try clear qi3
             try clear c5
             try clear c6
             try clear p6
             try clear q6
             try clear hx6
             try clear hf6
             try clear c7
             try clear p7
             try clear q7
             try clear hx7
             try clear hf7
             try clear c8
             try clear hx8
             try clear hf8
             try clear c9
             try clear p9
             try clear q9
             try clear hx9
             try clear hf9
             try clear c10
             try clear hx10
             try clear hf10
             try clear c11
             try clear c11b0
             try clear c13
             try clear c13b0
             try clear c14
             try clear c15
             try clear p29
             try clear q29
             try clear hx29
             try clear qi29
             try clear p30
             try clear q30
             try clear hx30
             try clear qi30
             try clear p31
             try clear q31
             try clear hx31
             try clear c35
             try clear c50
             try clear c51
             try clear c52
             try clear c53
             try clear c53b0
             try clear c53b1
             try clear c54
             try clear c60
             try clear c60b0
             try clear c60b1
             try clear c61
             try clear c61b0
             try clear c62
             try clear c62b0
             try clear c63
             try clear c63b0
             try clear c63b1
             try clear c64
             try clear p64
             try clear q64
             try clear hx64
             try clear hf64
             try clear p65
             try clear q65
             try clear c68
             try clear c69
             try clear c71
             try clear c71b0
             try clear c72
             try clear c72b0
             try clear c73
             try clear c73b0
             try clear c74
             try clear c74b0
             try clear c75
             try clear c75b0
             try clear c76
             try clear p76
             try clear q76
             try clear hx76
             try clear hf76
             try clear c77
             try clear c77b0
             try clear c78
             try clear p78
             try clear q78
             try clear hx78
             try clear hf78
             try clear c79
             try clear p79
             try clear q79
             try clear hx79
             try clear hf79
             try clear c80
             try clear hx80
             try clear hf80
             try clear c82
             try clear hx82
             try clear hf82
             try clear c84
             try clear hx84
             try clear hf84
             try clear c86
             try clear c86b0
             try clear c86b1
             try clear c87
             try clear c87b0
             try clear c87b1
             try clear c87b2
             try clear c89
             try clear c89b0
             try clear c90
             try clear c90b0
             try clear c92
             try clear p92
             try clear q92
             try clear hx92
             try clear hf92
             try clear c93
             try clear hx93
             try clear hf93
             try clear c96
             try clear hx96
             try clear hf96
             try clear c99
             try clear p99
             try clear q99
             try clear hx99
             try clear hf99
             try clear c100
             try clear hx100
             try clear hf100
             try clear c103
             try clear hx103
             try clear hf103
             try clear c105
             try clear c105b0
             try clear c105b1
             try clear c106
             try clear c106b0
             try clear c106b1
             try clear hx100_1
             try clear hx103_0
             try clear hx293_0
             try clear hx294_0
             try clear hx294_1
             try clear hx294_2
             try clear hx298_0
             try clear hx299_0
             try clear hx299_1
             try clear hx299_2
             try clear hx300_0
             try clear hx301_0
             try clear hx304_0
             try clear hx305_0
             try clear hx305_1
             try clear hx305_2
             try clear hx306_0
             try clear hx306_1
             try clear hx306_2
             try clear hx308_0
             try clear hx308_1
             try clear hx308_2
             try clear hx311_0
             try clear hx312_0
             try clear hx312_1
             try clear hx312_2
             try clear hx316_0
             try clear hx316_1
             try clear hx316_2
             try clear hx64_0
             try clear hx64_1
             try clear hx64_2
             try clear hx76_0
             try clear hx76_1
             try clear hx76_2
             try clear hx78_0
             try clear hx78_1
             try clear hx78_2
             try clear hx79_0
             try clear hx79_1
             try clear hx79_2
             try clear hx80_1
             try clear hx82_2
             try clear hx84_0
             try clear hx92_0
             try clear hx92_1
             try clear hx92_2
             try clear hx93_1
             try clear hx96_0
             try clear hx99_0
             try clear hx99_1
             try clear hx99_2
             try clear p2
             try clear p29
             try clear p293
             try clear p294
             try clear p298
             try clear p299
             try clear p3
             try clear p30
             try clear p300
             try clear p301
             try clear p304
             try clear p305
             try clear p306
             try clear p308
             try clear p311
             try clear p312
             try clear p316
             try clear p6
             try clear p64
             try clear p65
             try clear p76
             try clear p78
             try clear p79
             try clear p92
             try clear p99
             try clear q2
             try clear q29
             try clear q293
             try clear q294
             try clear q298
             try clear q299
             try clear q3
             try clear q30
             try clear q300
             try clear q301
             try clear q304
             try clear q305
             try clear q306
             try clear q308
             try clear q311
             try clear q312
             try clear q316
             try clear q6
             try clear q64
             try clear q65
             try clear q76
             try clear q78
             try clear q79
             try clear q92
             try clear q99
             obtain ⟨x19_3, x168_3, rfl, HA, HK3, HO_19, HO_166, HB⟩ := hrel
             cases gk with
             | zero => exact absurd HA.out (by simp [backoff_Contend.l3])
             | succ k3 =>
              have H := HA.out
              clear HA
              simp only [backoff_Contend.l3] at H
              by_cases c110 : x168_3 < (x6_2.length : Int)
              ·rw [if_pos c110] at H
               have c110b0 : decide (x168_3 < (x6_2.length : Int)) = true := decide_eq_true c110
               clear c110
               by_cases c111 : 0 ≤ x168_3
               ·rw [if_pos c111] at H
                have c111b0 : decide (0 ≤ x168_3) = true := decide_eq_true c111
                clear c111
                by_cases c112 : x168_3 < (x6_2.length : Int)
                ·rw [if_pos c112] at H
                 have c112b0 : decide (x168_3 < (x6_2.length : Int)) = true := decide_eq_true c112
                 clear c112
                 by_cases c113 : x168_3 < (x19_3.length : Int)
                 ·rw [if_pos c113] at H
                  have c113b0 : decide (x168_3 < (x19_3.length : Int)) = true := decide_eq_true c113
                  clear c113
                  obtain ⟨y325, hy325⟩ : ∃ y_ : List Int, y_ = (x19_3.set (x168_3 : Int).toNat ((rd_T102 x6_2 x168_3).f2)) := ⟨_, rfl⟩
                  replace H : (backoff_Contend.l3 k3 y325 x6_2 (x6_2.length : Int) (wrap64 (x168_3 + 1))) = some (r1, r2) := by first | (rw [hy325]; with_reducible exact H) | (have H2_ := (Option.bind_some _ _).symm.trans H; rw [hy325]; with_reducible exact H2_) | (have H2_ := (Option.bind_some _ _).symm.trans H; with_reducible exact H2_) | with_reducible exact H | (rw [hy325]; exact H) | exact H
                  have Ny325 := Aside0.mk hy325
                  clear hy325
                  have H' := Aside0.mk H
                  clear H
                  have p323 : 0 ≤ (x168_3 : Int) := of_decide_eq_true (by first | (with_reducible assumption) | assumption)
                  have q323 : x168_3 < (x6_2.length : Int) := of_decide_eq_true (by first | (with_reducible assumption) | assumption)
                  obtain ⟨ad323, e323, hx323_0, hx323_1, hx323_2⟩ := at_T102 (Kd.R_reads' HO_166.out).2.2 x168_3 p323 q323
                  cases e323
                  replace p323 := eq_true p323
                  replace q323 := eq_true q323
                  go_wp2_with (first | ((with_reducible refine gate_dst (N := 21) rfl ?_); refine box_event ?hg (N := 21) ?hd (cs := #[.int .i64 0, .int .i64 0, .int .i64 0]) (t := 102) ?hr ?_; (case hd => rfl); (case hg => rfl); (case hr => first | (go_simp; done) | (go_simp; rfl)); intro gb324 hg w115 hbox hb; have n0_ := Aside0.mk (Kd.R_below (by (with_reducible repeat (first | apply Kd.R_alloc | apply Kd.R_drewN | apply Kd.R_drew)); exact HO_19.out) hb); have n1_ := Aside0.mk (Kd.R_below (Kd.R_elderB (by (with_reducible repeat (first | apply Kd.R_alloc | apply Kd.R_drewN | apply Kd.R_drew)); exact HO_166.out) gb324 (Nat.le_of_eq hg.symm)) hb); have n2_ := Aside0.mk (below_step (by repeat (first | (with_reducible first | exact HB.out | apply below_alloc | apply pw_below_drewN | apply below_drew1) | exact HB.out)) hb); have n3_ := Aside0.mk (hbox); have n4_ := Aside0.mk ((by rw [hg]; exact (below_size (by repeat (first | (with_reducible first | exact HB.out | apply below_alloc | apply pw_below_drewN | apply below_drew1) | exact HB.out))) : w.heap.size ≤ gb324)); have n5_ := Aside0.mk ((by rw [hg]; exact (below_size (by repeat (first | (with_reducible first | exact HB.out | apply below_alloc | apply pw_below_drewN | apply below_drew1) | exact HB.out))) : w.heap.size ≤ gb324)); clear HO_19; clear HO_166; clear HB; have HO_19 := n0_; have HO_166 := n1_; have HB := n2_; have BK324 := n3_; have GW324 := n4_; have GE324 := n5_; clear n0_ n1_ n2_ n3_ n4_ n5_; clear hb hbox hg; have hcz116_0 : w115.cell? ⟨gb324, 0, none⟩ = some (.int .i64 0) := (blk_cell BK324.out 0).trans rfl; have hcz116_1 : w115.cell? ⟨gb324, 1, none⟩ = some (.int .i64 0) := (blk_cell BK324.out 1).trans rfl; have hcz116_2 : w115.cell? ⟨gb324, 2, none⟩ = some (.int .i64 0) := (blk_cell BK324.out 2).trans rfl; have hfz116_0 := blk_frozen BK324.out 0; have hfz116_1 := blk_frozen BK324.out 1; have hfz116_2 := blk_frozen BK324.out 2) | ((with_reducible refine gate_store (t := 102) (p := 21) rfl ?_); refine store_event (t := 102) (p := 21) (v := ?vo_w117) (w1 := (((w115.setCell ⟨gb324, 0, none⟩ (.int .i64 ((rd_T102 x6_2 x168_3).f0))).setCell ⟨gb324, 1, none⟩ (.int .i64 ((rd_T102 x6_2 x168_3).f1))).setCell ⟨gb324, 2, none⟩ (.int .i64 ((rd_T102 x6_2 x168_3).f2)))) ?hg ?ho ?hn ?hr ?_; (case ho => rfl); (case hg => rfl); (case hn => rfl); (case hr => first | (go_simp; done) | (go_simp; rfl)); intro w117 hw; have n0_ : Aside0 (Kd.R (Kd.int .i64) 3 w117 w.heap.size (fun _ => True) v321 x19_3) := ⟨(by rw [hw]; exact (by (with_reducible repeat (first | apply Kd.R_alloc | apply Kd.R_drewN | apply Kd.R_drew)); exact Kd.R_mono (Kd.R_far (p := ⟨gb324, 2, none⟩) (Kd.R_far (p := ⟨gb324, 1, none⟩) (Kd.R_far (p := ⟨gb324, 0, none⟩) (Kd.R_types HO_19.out BK324.out (by decide)) (fun _ hk => hk.2) (.int .i64 ((rd_T102 x6_2 x168_3).f0))) (fun _ hk => hk.2) (.int .i64 ((rd_T102 x6_2 x168_3).f1))) (fun _ hk => hk.2) (.int .i64 ((rd_T102 x6_2 x168_3).f2))) (fun _ hk => trivial)))⟩; have n1_ : Aside0 (Kd.R k102 102 w117 w.heap.size (fun k_ => k_ ≠ gb324) (.slice (some ad323) x6_2.length co109) x6_2) := ⟨(by rw [hw]; exact (by (with_reducible repeat (first | apply Kd.R_alloc | apply Kd.R_drewN | apply Kd.R_drew)); exact Kd.R_mono (Kd.R_far (p := ⟨gb324, 2, none⟩) (Kd.R_far (p := ⟨gb324, 1, none⟩) (Kd.R_far (p := ⟨gb324, 0, none⟩) (Kd.R_mono HO_166.out (fun k_ hk => (⟨hk, hk.2⟩ : _ ∧ k_ ≠ gb324))) (fun _ hk => hk.2) (.int .i64 ((rd_T102 x6_2 x168_3).f0))) (fun _ hk => hk.2) (.int .i64 ((rd_T102 x6_2 x168_3).f1))) (fun _ hk => hk.2) (.int .i64 ((rd_T102 x6_2 x168_3).f2))) (fun _ hk => hk.1.2)))⟩; have n2_ : Aside0 (w117.heap[gb324]? = some (.cells #[.int .i64 ((rd_T102 x6_2 x168_3).f0), .int .i64 ((rd_T102 x6_2 x168_3).f1), .int .i64 ((rd_T102 x6_2 x168_3).f2)] 102 (0, 0))) := ⟨(by rw [hw]; exact (by (with_reducible repeat (first | refine blk_drewN ?_ _ | refine blk_drew ?_ | refine blk_alloc ?_ _)); refine blk_put (cs := #[.int .i64 ((rd_T102 x6_2 x168_3).f0), .int .i64 ((rd_T102 x6_2 x168_3).f1), .int .i64 0]) ?_ 2 _ rfl; (with_reducible repeat (first | refine blk_drewN ?_ _ | refine blk_drew ?_ | refine blk_alloc ?_ _)); refine blk_put (cs := #[.int .i64 ((rd_T102 x6_2 x168_3).f0), .int .i64 0, .int .i64 0]) ?_ 1 _ rfl; (with_reducible repeat (first | refine blk_drewN ?_ _ | refine blk_drew ?_ | refine blk_alloc ?_ _)); refine blk_put (cs := #[.int .i64 0, .int .i64 0, .int .i64 0]) ?_ 0 _ rfl; (with_reducible repeat (first | refine blk_drewN ?_ _ | refine blk_drew ?_ | refine blk_alloc ?_ _)); exact BK324.out))⟩; have n3_ : Aside0 (Below w.heap.size w w117) := ⟨(by rw [hw]; exact (by repeat (first | (with_reducible first | exact HB.out | apply below_alloc | apply pw_below_drewN | apply below_drew1 | refine below_set ?_ GE324.out) | exact HB.out)))⟩; clear hw; clear HO_19; clear HO_166; clear BK324; clear HB; have HO_19 := n0_; have HO_166 := n1_; have BK324 := n2_; have HB := n3_; clear n0_ n1_ n2_ n3_; have hcz118_0 : w117.cell? ⟨gb324, 0, none⟩ = some (.int .i64 ((rd_T102 x6_2 x168_3).f0)) := (blk_cell BK324.out 0).trans rfl; have hcz118_1 : w117.cell? ⟨gb324, 1, none⟩ = some (.int .i64 ((rd_T102 x6_2 x168_3).f1)) := (blk_cell BK324.out 1).trans rfl; have hcz118_2 : w117.cell? ⟨gb324, 2, none⟩ = some (.int .i64 ((rd_T102 x6_2 x168_3).f2)) := (blk_cell BK324.out 2).trans rfl; have hfz118_0 := blk_frozen BK324.out 0; have hfz118_1 := blk_frozen BK324.out 1; have hfz118_2 := blk_frozen BK324.out 2; have p114 : 0 ≤ (x168_3 : Int) := of_decide_eq_true (by first | (with_reducible assumption) | assumption); have q114 : (x168_3 : Int) < ((x19_3.length : Int) : Int) := of_decide_eq_true (by first | (with_reducible assumption) | assumption); obtain ⟨go114, co114, eo114, gb114, gl114, cl114, HG114⟩ := Kd.R_form HO_19.out (by omega); (first | cases eo114 | (injection eo114 with ea_ en_ ec_; (first | subst ea_ | (injection ea_ with ea_; subst ea_)); subst ec_; clear en_)); have GB114 := Aside0.mk gb114; have GG114 := Aside0.mk HG114; clear gb114 gl114 HG114; obtain ⟨hx114_0, hf114_0⟩ := Kd.R_celln 0 HO_19.out (x168_3 : Int) p114 q114; replace p114 := eq_true p114; replace q114 := eq_true q114; obtain ⟨hy119_, hz119_⟩ := Kd.R_celln 0 HO_19.out (x168_3 : Int) (of_decide_eq_true (by first | (with_reducible assumption) | assumption)) (of_decide_eq_true (by first | (with_reducible assumption) | assumption)); have HP119 := Kd.R_putg HO_19.out (x168_3 : Int) ((rd_T102 x6_2 x168_3).f2)) | ((with_reducible refine gate_store (t := 3) (p := 177) rfl ?_); refine store_event (t := 3) (p := 177) (v := ?vo_w120) (w1 := (w117.setCell ⟨go114, (x168_3 : Int).toNat, none⟩ (.int .i64 ((rd_T102 x6_2 x168_3).f2)))) ?hg ?ho ?hn ?hr ?_; (case ho => rfl); (case hg => rfl); (case hn => rfl); (case hr => first | (go_simp; done) | (go_simp; rfl)); intro w120 hw; have hg : w117.grownBy w120 (some go114) := (by rw [hw]; exact HP119.2); have hp_ : Kd.R (Kd.int .i64) 3 w120 w.heap.size (fun _ => True) (.slice (some ⟨go114, 0, none⟩) x19_3.length co114) y325 := (by rw [hw, Ny325.out]; exact HP119.1); clear HP119; have n0_ := Aside0.mk (hp_); have n1_ := Aside0.mk (Kd.R_over' (v := (.slice (some ⟨go114, 0, none⟩) x19_3.length co114)) (by (with_reducible repeat (first | apply Kd.R_alloc | apply Kd.R_drewN | apply Kd.R_drew)); exact HO_166.out) (Kd.R_typed HO_19.out) (by decide) hg); have n2_ := Aside0.mk (blk_grown (g := gb324) (o := .cells #[.int .i64 ((rd_T102 x6_2 x168_3).f0), .int .i64 ((rd_T102 x6_2 x168_3).f1), .int .i64 ((rd_T102 x6_2 x168_3).f2)] 102 (0, 0)) (by (with_reducible repeat (first | refine blk_drewN ?_ _ | refine blk_drew ?_ | refine blk_alloc ?_ _)); exact BK324.out) hg (Kd.R_ne HO_19.out BK324.out (by decide))); have n3_ := Aside0.mk ((by rw [hw]; exact below_set (HB.out) GB114.out : Below w.heap.size w w120)); clear HO_19; clear HO_166; clear BK324; clear HB; have HO_19 := n0_; have HO_166 := n1_; have BK324 := n2_; have HB := n3_; clear n0_ n1_ n2_ n3_; clear hg hw hp_))
                  go_roundg k3
                  case measure => have := HJ2.out; have := HK2.out; have := HK3.out; omega
                  case rel => exact ⟨(y325), (wrap64 (x168_3 + 1)), (by first | rfl | (simp; done) | (simp [*]; done)), H', ⟨by have := HJ2.out; have := HK2.out; have := HK3.out; omega⟩, ⟨by (with_reducible repeat (first | apply Kd.R_alloc | apply Kd.R_drewN | apply Kd.R_drew)); exact HO_19.out⟩, ⟨by (with_reducible repeat (first | apply Kd.R_alloc | apply Kd.R_drewN | apply Kd.R_drew)); exact Kd.R_mono HO_166.out (fun _ hk => trivial)⟩, ⟨by repeat (first | (with_reducible first | exact HB.out | apply below_alloc | apply pw_below_drewN | apply below_drew1 | refine below_set ?_ GE324.out) | exact HB.out)⟩⟩
                 ·rw [if_neg c113] at H
                  exact absurd H (by simp)
                ·rw [if_neg c112] at H
                 exact absurd H (by simp)
               ·rw [if_neg c111] at H
                exact absurd H (by simp)
              ·rw [if_neg c110] at H
               have c110b0 : decide (x168_3 < (x6_2.length : Int)) = false := decide_eq_false c110
               clear c110
               simp only [Option.some.injEq, Prod.mk.injEq] at H
               obtain ⟨rfl, rfl⟩ := H
               go_wp2
               go_ret2
               exact ⟨_, by first | rfl | (simp [errW_none, errW_some] <;> rfl) | (simp [*, errW_none, errW_some] <;> rfl), by (with_reducible repeat (first | apply Kd.R_alloc | apply Kd.R_drewN | apply Kd.R_drew)); exact HO_19.out, by repeat (first | (with_reducible first | exact HB.out | apply below_alloc | apply pw_below_drewN | apply below_drew1) | exact HB.out)⟩
           ·rw [if_neg c106] at H
            exact absurd H (by simp)
          ·rw [if_neg c105] at H
           exact absurd H (by simp)
      ·rw [if_neg c8] at H
       exact absurd H (by simp)
     ·rw [if_neg c7] at H
      exact absurd H (by simp)

end Go.Proofs.Ytkdncfbbhbmaaaa.Q
