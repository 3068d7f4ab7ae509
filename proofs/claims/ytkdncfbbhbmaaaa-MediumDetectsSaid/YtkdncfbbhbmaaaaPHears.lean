/- What two transmissions do: whether they meet, what their stations sense and hear; the plain part of MediumDetects. -/
import Derived.Test.YtkdncfbbhbmaaaaPTalks
import Derived.Test.YtkdncfbbhbmaaaaHSlices
import Derived.Test.YtkdncfbbhbmaaaaQf48
import Derived.Test.YtkdncfbbhbmaaaaQf49
namespace Go.Proofs.Ytkdncfbbhbmaaaa.Br
open Go.RowKit Go.Proofs.Ytkdncfbbhbmaaaa.Q Go.Proofs.YtkdncfbbhbmaaaaW.PrintWords Go.Proofs.YtkdncfbbhbmaaaaW.PrintLast Go.Proofs.YtkdncfbbhbmaaaaW.PrintMore Go.Proofs.Ytkdncfbbhbmaaaa.K
set_option linter.unusedVariables false
set_option linter.unusedSimpArgs false
theorem max_all (l : List Int) (h40 : ∀ i : Int, 0 ≤ rd l i ∧ rd l i ≤ 40) (k : Nat) : k + 1 ≤ l.length → 0 ≤ Ext.maxTo l (k + 1) ∧ Ext.maxTo l (k + 1) ≤ 40 ∧ ∀ j, j < k + 1 → l.getD j 0 ≤ Ext.maxTo l (k + 1) := by
  induction k with
  | zero =>
    intro _
    rw [Ext.maxTo_one]
    have h0 : 0 ≤ l.getD 0 0 ∧ l.getD 0 0 ≤ 40 := h40 0
    exact ⟨h0.1, h0.2, fun j hj => by rw [show j = 0 by omega]; exact Int.le_refl _⟩
  | succ k ih =>
    intro h
    obtain ⟨i0, i1, i2⟩ := ih (by omega)
    rw [Ext.maxTo_succ l (k + 1) (by omega) (by omega)]
    have h0 : 0 ≤ l.getD (k + 1) 0 ∧ l.getD (k + 1) 0 ≤ 40 := h40 ((k + 1 : Nat) : Int)
    generalize Ext.maxTo l (k + 1) = M at *
    refine ⟨by unfold mx; split <;> omega, by unfold mx; split <;> omega, fun j hj => ?_⟩
    rcases Nat.lt_or_ge j (k + 1) with z | z
    · have := i2 j z
      unfold mx
      split <;> omega
    · rw [show j = k + 1 by omega]
      unfold mx
      split <;> omega
theorem min_all (l : List Int) (h40 : ∀ i : Int, 0 ≤ rd l i ∧ rd l i ≤ 40) (k : Nat) : k + 1 ≤ l.length → 0 ≤ Ext.minTo l (k + 1) ∧ Ext.minTo l (k + 1) ≤ 40 ∧ ∀ j, j < k + 1 → Ext.minTo l (k + 1) ≤ l.getD j 0 := by
  induction k with
  | zero =>
    intro _
    rw [Ext.minTo_one]
    have h0 : 0 ≤ l.getD 0 0 ∧ l.getD 0 0 ≤ 40 := h40 0
    exact ⟨h0.1, h0.2, fun j hj => by rw [show j = 0 by omega]; exact Int.le_refl _⟩
  | succ k ih =>
    intro h
    obtain ⟨i0, i1, i2⟩ := ih (by omega)
    rw [Ext.minTo_succ l (k + 1) (by omega) (by omega)]
    have h0 : 0 ≤ l.getD (k + 1) 0 ∧ l.getD (k + 1) 0 ≤ 40 := h40 ((k + 1 : Nat) : Int)
    generalize Ext.minTo l (k + 1) = M at *
    refine ⟨by unfold mn; split <;> omega, by unfold mn; split <;> omega, fun j hj => ?_⟩
    rcases Nat.lt_or_ge j (k + 1) with z | z
    · have := i2 j z
      unfold mn
      split <;> omega
    · rw [show j = k + 1 by omega]
      unfold mn
      split <;> omega
/-- The length of the line. -/
def far (p : List Int) : Int := Ext.maxTo p p.length - Ext.minTo p p.length
theorem far_ok (p : List Int) (hp : VP p) : (0 ≤ Ext.maxTo p p.length ∧ Ext.maxTo p p.length ≤ 40) ∧ (0 ≤ Ext.minTo p p.length ∧ Ext.minTo p p.length ≤ 40) ∧ ∀ i j : Nat, i < p.length → j < p.length → rd p (i : Int) - rd p (j : Int) ≤ far p := by
  have h1 := hp.1
  obtain ⟨k, hk⟩ : ∃ k, p.length = k + 1 := ⟨p.length - 1, by omega⟩
  obtain ⟨a0, a1, a2⟩ := max_all p hp.2.2 k (by omega)
  obtain ⟨b0, b1, b2⟩ := min_all p hp.2.2 k (by omega)
  unfold far
  rw [hk]
  refine ⟨⟨a0, a1⟩, ⟨b0, b1⟩, fun i j hi hj => ?_⟩
  have x1 : rd p (i : Int) ≤ Ext.maxTo p (k + 1) := a2 i (by omega)
  have x2 : Ext.minTo p (k + 1) ≤ rd p (j : Int) := b2 j (by omega)
  omega
theorem cnt_one (p : List Int) (y : Tk) (j τ : Int) : cnt p [y] j τ = if hrd p j τ y then 1 else 0 := by
  unfold cnt
  cases h : hrd p j τ y <;> simp [h]
theorem sense_f (p : List Int) (hp : VP p) (y : Tk) (hy : OKT p y) (j : Nat) (hj : j < p.length) (τ : Int) (h0 : 0 ≤ τ) (h1 : τ ≤ 2000) : medium_Sense.f 100 p [y] (j : Int) τ = some (!(hrd p (j : Int) τ y), 0) := by
  unfold medium_Sense.f
  rw [heard_k p [y] j τ hp ⟨by simp, fun t ht => by obtain rfl := List.mem_singleton.1 ht; exact hy⟩ hj h0 (by omega), Option.bind_some, if_pos rfl, cnt_one]
  cases hrd p (j : Int) τ y <;> rfl
theorem during_l0 (p : List Int) (hp : VP p) (x y : Tk) (hx : OKT p x) (hy : OKT p y) (m : Nat) : ∀ τ : Int, x.f1 ≤ τ → (m : Int) = x.f1 + x.f2 - τ → ∃ r, Ev (fun k => patchbaykeep1_heardDuring.l0 k p τ x.f0 x.f1 x.f2 y.f0 y.f1 y.f2) r ∧ ((∃ t, τ ≤ t ∧ t < x.f1 + x.f2 ∧ hrd p x.f0 t y = true) → r = true) := by
  obtain ⟨x0, x1, x2, x3, x4, x5⟩ := hx
  have hw : wrap64 (x.f1 + x.f2) = x.f1 + x.f2 := by unfold wrap64; omega
  induction m with
  | zero =>
    intro τ h1 h2
    refine ⟨false, Ev.step (f := fun _ => some false) (fun k => ?_) (Ev.now _), fun ⟨t, g1, g2, _⟩ => by omega⟩
    rw [patchbaykeep1_heardDuring.l0, hw, if_neg (by omega)]
  | succ m ih =>
    intro τ h1 h2
    obtain ⟨r, hr, hc⟩ := ih (τ + 1) (by omega) (by omega)
    have hw2 : wrap64 (τ + 1) = τ + 1 := by unfold wrap64; omega
    obtain ⟨j, hj⟩ : ∃ j : Nat, x.f0 = (j : Int) := ⟨x.f0.toNat, by omega⟩
    have hh := heard_k p [y] j τ hp ⟨by simp, fun t ht => by obtain rfl := List.mem_singleton.1 ht; exact hy⟩ (by omega) (by omega) (by omega)
    have hhe : Ev (fun k => medium_Heard.f k p [y] (j : Int) τ) (((cnt p [y] (j : Int) τ : Nat) : Int), 0) := Ev.of (fun k => medium_Heard.mono _ _ _ _ k) hh
    rw [cnt_one] at hhe
    refine ⟨hrd p x.f0 τ y || r, ?_, ?_⟩
    · refine Ev.step (f := fun k => (medium_Heard.f k p [y] (j : Int) τ).bind fun bt464 => (if bt464.1 > 0 then (some true) else (patchbaykeep1_heardDuring.l0 k p (wrap64 (τ + 1)) x.f0 x.f1 x.f2 y.f0 y.f1 y.f2))) (fun k => ?_) (Ev.bind hhe ?_)
      · rw [patchbaykeep1_heardDuring.l0, hw, if_pos (by omega)]
        show (medium_Heard.f k p [y] x.f0 τ).bind _ = _
        rw [hj]
      · rw [hj]
        cases hq : hrd p (j : Int) τ y with
        | true => exact Ev.now _
        | false =>
          rw [hw2]
          have e : ¬ ((((if false = true then 1 else 0 : Nat)) : Int) > 0) := by decide
          simp only [Bool.false_or]
          simp only [if_neg e]
          rw [← hj]
          exact hr
    · rintro ⟨t, g1, g2, g3⟩
      rcases Int.lt_or_eq_of_le g1 with z | z
      · rw [hc ⟨t, by omega, g2, g3⟩]
        simp
      · rw [z, g3]
        simp
theorem during_f (p : List Int) (hp : VP p) (x y : Tk) (hx : OKT p x) (hy : OKT p y) : ∃ r, (∃ k, patchbaykeep1_heardDuring.f k p x.f0 x.f1 x.f2 y.f0 y.f1 y.f2 = some r) ∧ (x.f1 < beg p y x.f0 + y.f2 → beg p y x.f0 < x.f1 + x.f2 → r = true) := by
  obtain ⟨r, hr, hc⟩ := during_l0 p hp x y hx hy x.f2.toNat x.f1 (Int.le_refl _) (by have := hx.2.2.2.2.1; omega)
  have g1 := hx.2.2.2.2.1
  have g2 := hy.2.2.2.2.1
  refine ⟨r, hr.rounds, fun h1 h2 => hc ?_⟩
  unfold hrd
  rcases Int.le_total x.f1 (beg p y x.f0) with z | z
  · exact ⟨beg p y x.f0, z, h2, by rw [decide_eq_true (Int.le_refl _), decide_eq_true (by omega)]; rfl⟩
  · exact ⟨x.f1, Int.le_refl _, by omega, by rw [decide_eq_true z, decide_eq_true h1]; rfl⟩
theorem meets_symm (p : List Int) (x y : Tk) : meets p x y ↔ meets p y x :=
  ⟨fun ⟨j, h, h1, h2⟩ => ⟨j, h, h2, h1⟩, fun ⟨j, h, h1, h2⟩ => ⟨j, h, h2, h1⟩⟩
theorem clear_two (p : List Int) (hp : VP p) (x y : Tk) (hx : OKT p x) (hy : OKT p y) : ∃ c : Bool, medium_Clear.f 100 p [x, y] = some ([c, c], 0) ∧ (c = false → meets p x y) := by
  obtain ⟨S, h1, h2, h3⟩ := clear_f p [x, y] hp ⟨by simp, fun t ht => by
    rcases List.mem_cons.1 ht with z | z
    · rw [z]; exact hx
    · obtain rfl := List.mem_singleton.1 z; exact hy⟩
  obtain ⟨a, ea, ia⟩ := h3 0 (by simp)
  obtain ⟨b, eb, ib⟩ := h3 1 (by simp)
  have na : hits p [x, y] 0 0 ↔ meets p x y := by
    refine ⟨?_, fun z => ⟨1, by decide, by simp, by decide, z⟩⟩
    rintro ⟨j, _, g1, g2, g3⟩
    simp only [List.length_cons, List.length_nil] at g1
    obtain rfl : j = 1 := by omega
    exact g3
  have nb : hits p [x, y] 1 0 ↔ meets p x y := by
    refine ⟨?_, fun z => ⟨0, by decide, by simp, by decide, (meets_symm p x y).1 z⟩⟩
    rintro ⟨j, _, g1, g2, g3⟩
    simp only [List.length_cons, List.length_nil] at g1
    obtain rfl : j = 0 := by omega
    exact (meets_symm p x y).2 g3
  rw [na] at ia
  rw [nb] at ib
  have e : a = b := by rw [Bool.eq_iff_iff, ia, ib]
  subst e
  refine ⟨a, ?_, fun z => ?_⟩
  · rw [h1]
    congr 2
    match S, h2 with
    | [s, t], _ =>
      simp at ea eb
      rw [ea, eb]
  · rcases Classical.em (meets p x y) with q | q
    · exact q
    · rw [ia.2 q] at z
      cases z
theorem pair_law (p : List Int) (hp : VP p) (x y : Tk) (hx : OKT p x) (hy : OKT p y) : ∃ c s1 s2 h1 h2 : Bool, medium_Clear.f 100 p [x, y] = some ([c, c], 0) ∧ medium_Sense.f 100 p [y] x.f0 x.f1 = some (s1, 0) ∧ medium_Sense.f 100 p [x] y.f0 y.f1 = some (s2, 0) ∧
    (∃ k, patchbaykeep1_heardDuring.f k p x.f0 x.f1 x.f2 y.f0 y.f1 y.f2 = some h1) ∧ (∃ k, patchbaykeep1_heardDuring.f k p y.f0 y.f1 y.f2 x.f0 x.f1 x.f2 = some h2) ∧
    (c = false → 2 * far p ≤ x.f2 → 2 * far p ≤ y.f2 → s1 = true → s2 = true → h1 = true ∧ h2 = true) := by
  obtain ⟨c, hc, hm⟩ := clear_two p hp x y hx hy
  obtain ⟨h1, d1, i1⟩ := during_f p hp x y hx hy
  obtain ⟨h2, d2, i2⟩ := during_f p hp y x hy hx
  obtain ⟨jx, ejx⟩ : ∃ j : Nat, x.f0 = (j : Int) := ⟨x.f0.toNat, by have := hx.1; omega⟩
  obtain ⟨jy, ejy⟩ : ∃ j : Nat, y.f0 = (j : Int) := ⟨y.f0.toNat, by have := hy.1; omega⟩
  have ljx : jx < p.length := by have := hx.2.1; omega
  have ljy : jy < p.length := by have := hy.2.1; omega
  have hs1 := sense_f p hp y hy jx ljx x.f1 hx.2.2.1 hx.2.2.2.1
  have hs2 := sense_f p hp x hx jy ljy y.f1 hy.2.2.1 hy.2.2.2.1
  refine ⟨c, _, _, h1, h2, hc, by rw [ejx]; exact hs1, by rw [ejy]; exact hs2, d1, d2, fun z f1 f2 g1 g2 => ?_⟩
  obtain ⟨q, lq, m1, m2⟩ := hm z
  have far1 := (far_ok p hp).2.2 jx jy ljx ljy
  have far2 := (far_ok p hp).2.2 jy jx ljy ljx
  obtain ⟨x0, x1, x2, x3, x4, x5⟩ := hx
  obtain ⟨y0, y1, y2, y3, y4, y5⟩ := hy
  have g1' : ¬ (beg p y (jx : Int) ≤ x.f1 ∧ x.f1 < beg p y (jx : Int) + y.f2) := fun ⟨u, v⟩ => by
    unfold hrd at g1
    rw [decide_eq_true u, decide_eq_true v] at g1
    cases g1
  have g2' : ¬ (beg p x (jy : Int) ≤ y.f1 ∧ y.f1 < beg p x (jy : Int) + x.f2) := fun ⟨u, v⟩ => by
    unfold hrd at g2
    rw [decide_eq_true u, decide_eq_true v] at g2
    cases g2
  clear g1 g2 hs1 hs2 d1 d2 hc hm
  rw [ejx] at i1
  rw [ejy] at i2
  have bx : ∀ j : Int, beg p x j = x.f1 + mx (rd p (jx : Int) - rd p j) (rd p j - rd p (jx : Int)) := fun j => by unfold beg; rw [ejx]
  have by_ : ∀ j : Int, beg p y j = y.f1 + mx (rd p (jy : Int) - rd p j) (rd p j - rd p (jy : Int)) := fun j => by unfold beg; rw [ejy]
  rw [bx, by_] at m1 m2
  rw [by_] at g1' i1
  rw [bx] at g2' i2
  have mxs : ∀ u v : Int, mx (u - v) (v - u) = if u ≤ v then v - u else u - v := fun u v => by unfold mx; split <;> split <;> omega
  rw [mxs] at i1 i2 g1' g2'
  rw [mxs, mxs] at m1 m2
  generalize rd p (jx : Int) = a at *
  generalize rd p (jy : Int) = b at *
  generalize rd p (q : Int) = w at *
  generalize far p = F at *
  clear bx by_ mxs ejx ejy
  have key : x.f1 < (y.f1 + if b ≤ a then a - b else b - a) ∧ y.f1 < (x.f1 + if a ≤ b then b - a else a - b) := by
    constructor
    · rcases Int.lt_or_le x.f1 (y.f1 + if b ≤ a then a - b else b - a) with u | u
      · exact u
      · exfalso
        have u2 : y.f1 + (if b ≤ a then a - b else b - a) + y.f2 ≤ x.f1 := by
          rcases Int.lt_or_le x.f1 ((y.f1 + if b ≤ a then a - b else b - a) + y.f2) with v | v
          · exact absurd ⟨u, v⟩ g1'
          · exact v
        clear g1' g2' i1 i2 u
        split at m1 <;> split at m1 <;> split at u2 <;> omega
    · rcases Int.lt_or_le y.f1 (x.f1 + if a ≤ b then b - a else a - b) with u | u
      · exact u
      · exfalso
        have u2 : x.f1 + (if a ≤ b then b - a else a - b) + x.f2 ≤ y.f1 := by
          rcases Int.lt_or_le y.f1 ((x.f1 + if a ≤ b then b - a else a - b) + x.f2) with v | v
          · exact absurd ⟨u, v⟩ g2'
          · exact v
        clear g1' g2' i1 i2 u
        split at m2 <;> split at m2 <;> split at u2 <;> omega
  obtain ⟨k1, k2⟩ := key
  clear g1' g2' m1 m2
  refine ⟨i1 ?_ ?_, i2 ?_ ?_⟩
  · clear i1 i2
    split at k1 <;> split <;> omega
  · clear i1 i2
    split at k2 <;> split <;> omega
  · clear i1 i2
    split at k2 <;> split <;> omega
  · clear i1 i2
    split at k1 <;> split <;> omega
end Go.Proofs.Ytkdncfbbhbmaaaa.Br
