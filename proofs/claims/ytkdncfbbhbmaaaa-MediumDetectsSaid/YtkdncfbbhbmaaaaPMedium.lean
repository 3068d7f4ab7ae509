/- What the functions of package medium answer for valid places and transmissions, as plain functions; and 'talks' makes valid ones. -/
import Derived.Test.YtkdncfbbhbmaaaaQf44
import Derived.Test.YtkdncfbbhbmaaaaQf34
import Derived.Test.YtkdncfbbhbmaaaaQf33
import Derived.Test.YtkdncfbbhbmaaaaQf32
import Derived.Test.YtkdncfbbhbmaaaaKWithin
namespace Go.Proofs.Ytkdncfbbhbmaaaa.Br
open Go.RowKit Go.Proofs.Ytkdncfbbhbmaaaa.Q Go.Proofs.YtkdncfbbhbmaaaaW.PrintWords Go.Proofs.YtkdncfbbhbmaaaaW.PrintLast Go.Proofs.YtkdncfbbhbmaaaaW.PrintMore Go.Proofs.Ytkdncfbbhbmaaaa.K
/-- A transmission. -/
abbrev Tk := S48
/-- Valid places. -/
def VP (p : List Int) : Prop := 1 ≤ p.length ∧ p.length ≤ 6 ∧ ∀ i : Int, 0 ≤ rd p i ∧ rd p i ≤ 40
/-- A valid transmission. -/
def OKT (p : List Int) (t : Tk) : Prop := 0 ≤ t.f0 ∧ t.f0 < (p.length : Int) ∧ 0 ≤ t.f1 ∧ t.f1 ≤ 2000 ∧ 1 ≤ t.f2 ∧ t.f2 ≤ 120
def VT (p : List Int) (x : List Tk) : Prop := x.length ≤ 6 ∧ ∀ t ∈ x, OKT p t
theorem vp_of (p : List Int) (h1 : 1 ≤ p.length) (h6 : p.length ≤ 6) (h : ∀ z ∈ p, 0 ≤ z ∧ z ≤ 40) : VP p := by
  refine ⟨h1, h6, fun i => ?_⟩
  unfold rd
  by_cases hi : i.toNat < p.length
  · rw [List.getD_eq_getElem?_getD, List.getElem?_eq_getElem hi]
    exact h _ (List.getElem_mem hi)
  · rw [List.getD_eq_getElem?_getD, List.getElem?_eq_none (by omega)]
    exact ⟨Int.le_refl _, by decide⟩
theorem w1 (i : Nat) (h : i < 1000) : wrap64 ((i : Int) + 1) = ((i + 1 : Nat) : Int) := by unfold wrap64; omega
theorem rdT_get (x : List Tk) (i : Nat) (h : i < x.length) : rd_T48 x (i : Int) = x[i] := by
  unfold rd_T48
  rw [Int.toNat_natCast, List.getD_eq_getElem?_getD, List.getElem?_eq_getElem h]
  rfl
/-- When a transmission begins to be present at a station. -/
def beg (p : List Int) (t : Tk) (j : Int) : Int := t.f1 + mx (rd p t.f0 - rd p j) (rd p j - rd p t.f0)
theorem beg_range (p : List Int) (t : Tk) (j : Int) (hp : VP p) (h : OKT p t) : 0 ≤ beg p t j ∧ beg p t j ≤ 2040 := by
  have h1 := hp.2.2 t.f0
  have h2 := hp.2.2 j
  obtain ⟨_, _, h3, h4, _, _⟩ := h
  unfold beg mx
  split <;> omega
theorem begins_f (p : List Int) (t : Tk) (j : Nat) (hp : VP p) (h : OKT p t) (hj : j < p.length) : medium_begins.f p t.f0 t.f1 t.f2 (j : Int) = some (beg p t j) := by
  have h1 := hp.2.2 t.f0
  have h2 := hp.2.2 (j : Int)
  have hb := beg_range p t j hp h
  obtain ⟨h3, h4, h5, h6, _, _⟩ := h
  unfold medium_begins.f
  rw [if_pos h3, if_pos h4, if_pos (by omega), if_pos (by omega)]
  have e1 : wrap64 (rd p t.f0 - rd p (j : Int)) = rd p t.f0 - rd p (j : Int) := by unfold wrap64; omega
  have e2 : wrap64 (rd p (j : Int) - rd p t.f0) = rd p (j : Int) - rd p t.f0 := by unfold wrap64; omega
  rw [e1, e2]
  congr 1
  unfold beg at hb ⊢
  unfold wrap64
  omega
/-- Is a transmission present at a station at a time? -/
def hrd (p : List Int) (j : Int) (τ : Int) (t : Tk) : Bool := decide (beg p t j ≤ τ) && decide (τ < beg p t j + t.f2)
theorem heard_l0 (p : List Int) (x : List Tk) (j : Nat) (τ : Int) (hp : VP p) (hx : VT p x) (hj : j < p.length) (m : Nat) : ∀ (k i n : Nat), i + m = x.length → m < k → n ≤ i →
    medium_Heard.l0 k p (j : Int) τ (n : Int) x (x.length : Int) (i : Int) = some (((n + ((x.drop i).filter (hrd p j τ)).length : Nat) : Int), 0) := by
  have h6 := hx.1
  induction m with
  | zero =>
    intro k i n hi hk _
    obtain ⟨k, rfl⟩ : ∃ m, k = m + 1 := ⟨k - 1, by omega⟩
    simp only [medium_Heard.l0]
    rw [if_neg (by omega), List.drop_eq_nil_of_le (by omega)]
    rfl
  | succ m ih =>
    intro k i n hi hk hn
    obtain ⟨k, rfl⟩ : ∃ m, k = m + 1 := ⟨k - 1, by omega⟩
    have hlt : i < x.length := by omega
    have ho := hx.2 _ (List.getElem_mem hlt)
    have hb := beg_range p x[i] j hp ho
    have ho2 := ho
    obtain ⟨_, _, _, _, _, hf2⟩ := ho2
    simp only [medium_Heard.l0]
    rw [if_pos (by omega), if_pos (by omega), if_pos (by omega), rdT_get x i hlt, begins_f p x[i] j hp ho hj]
    simp only [Option.bind_some]
    rw [w1 i (by omega), w1 n (by omega), show wrap64 (beg p x[i] (j : Int) + x[i].f2) = beg p x[i] (j : Int) + x[i].f2 by unfold wrap64; omega, List.drop_eq_getElem_cons hlt, List.filter_cons]
    unfold hrd
    by_cases c1 : beg p x[i] (j : Int) ≤ τ
    · rw [if_pos c1, decide_eq_true c1]
      by_cases c2 : τ < beg p x[i] (j : Int) + x[i].f2
      · rw [if_pos c2, decide_eq_true c2, ih k (i + 1) (n + 1) (by omega) (by omega) (by omega)]
        simp only [Bool.and_self, if_true, List.length_cons]
        unfold hrd
        congr 3
        omega
      · rw [if_neg c2, decide_eq_false c2, ih k (i + 1) n (by omega) (by omega) (by omega)]
        rfl
    · rw [if_neg c1, decide_eq_false c1, ih k (i + 1) n (by omega) (by omega) (by omega)]
      rfl
theorem mcheck_l1 (p : List Int) (x : List Tk) (hx : VT p x) (m : Nat) : ∀ (k i : Nat), i + m = x.length → 2 * m < k → medium_Check.l1 k p x (x.length : Int) (i : Int) = some 0 := by
  have h6 := hx.1
  induction m with
  | zero =>
    intro k i hi hk
    obtain ⟨k, rfl⟩ : ∃ m, k = m + 1 := ⟨k - 1, by omega⟩
    simp only [medium_Check.l1]
    rw [if_neg (by omega)]
  | succ m ih =>
    intro k i hi hk
    obtain ⟨k, rfl⟩ : ∃ m, k = m + 2 := ⟨k - 2, by omega⟩
    have hlt : i < x.length := by omega
    obtain ⟨g0, g1, g2, g3, g4, g5⟩ := hx.2 _ (List.getElem_mem hlt)
    simp only [medium_Check.l1, medium_Check.j3]
    rw [if_pos (by omega), if_pos (by omega), if_pos (by omega), rdT_get x i hlt, if_neg (by omega), decide_eq_false (by omega), if_neg (by decide), if_neg (by omega), if_neg (by omega), if_neg (by omega), if_neg (by omega), w1 i (by omega)]
    exact ih k (i + 1) (by omega) (by omega)
theorem mcheck_l0 (p : List Int) (x : List Tk) (hp : VP p) (hx : VT p x) (m : Nat) : ∀ (k i : Nat), i + m = p.length → m + 13 < k → medium_Check.l0 k p x p (p.length : Int) (i : Int) = some 0 := by
  have h6 := hx.1
  have hp6 := hp.2.1
  induction m with
  | zero =>
    intro k i hi hk
    obtain ⟨k, rfl⟩ : ∃ m, k = m + 1 := ⟨k - 1, by omega⟩
    simp only [medium_Check.l0]
    rw [if_neg (by omega)]
    exact mcheck_l1 p x hx x.length k 0 (by omega) (by omega)
  | succ m ih =>
    intro k i hi hk
    obtain ⟨k, rfl⟩ : ∃ m, k = m + 1 := ⟨k - 1, by omega⟩
    have hr := hp.2.2 (i : Int)
    simp only [medium_Check.l0]
    rw [if_pos (by omega), if_pos (by omega), if_pos (by omega), if_neg (by omega), if_neg (by omega), w1 i (by omega)]
    exact ih k (i + 1) (by omega) (by omega)
theorem mcheck_f (p : List Int) (x : List Tk) (hp : VP p) (hx : VT p x) (K : Nat) : medium_Check.f (K + 30) p x = some 0 := by
  have h6 := hx.1
  have hp6 := hp.2.1
  unfold medium_Check.f
  rw [if_neg (by omega), decide_eq_false (by omega)]
  simp only [medium_Check.j0]
  rw [if_neg (by decide)]
  exact mcheck_l0 p x hp hx p.length (K + 29) 0 (by omega) (by omega)
/-- How many transmissions are present at a station at a time. -/
def cnt (p : List Int) (x : List Tk) (j : Int) (τ : Int) : Nat := (x.filter (hrd p j τ)).length
theorem heard_f (p : List Int) (x : List Tk) (j : Nat) (τ : Int) (hp : VP p) (hx : VT p x) (hj : j < p.length) (h0 : 0 ≤ τ) (h1 : τ ≤ 1000000000) (K : Nat) : medium_Heard.f (K + 30) p x (j : Int) τ = some (((cnt p x j τ : Nat) : Int), 0) := by
  have h6 := hx.1
  unfold medium_Heard.f
  rw [mcheck_f p x hp hx K]
  simp only [Option.bind_some, if_true]
  rw [if_neg (by omega), decide_eq_false (by omega)]
  simp only [medium_Heard.j0, medium_Heard.j1]
  rw [if_neg (by decide), if_neg (by omega), decide_eq_false (by omega), if_neg (by decide)]
  have h := heard_l0 p x j τ hp hx hj x.length (K + 28) 0 0 (by omega) (by omega) (Nat.le_refl _)
  rw [Nat.zero_add, List.drop_zero] at h
  exact h
/-- Do two transmissions meet at a station? -/
def mt (p : List Int) (x y : Tk) (j : Int) : Prop := beg p x j < beg p y j + y.f2 ∧ beg p y j < beg p x j + x.f2
/-- Do two transmissions meet anywhere? -/
def meets (p : List Int) (x y : Tk) : Prop := ∃ j : Nat, j < p.length ∧ mt p x y j
theorem meet_l0 (p : List Int) (x y : Tk) (hp : VP p) (hx : OKT p x) (hy : OKT p y) (m : Nat) : ∀ (k i : Nat), i + m = p.length → m < k → ∃ b, medium_meet.l0 k p (p.length : Int) (i : Int) x.f0 x.f1 x.f2 y.f0 y.f1 y.f2 = some b ∧ (b = true ↔ ∃ j : Nat, i ≤ j ∧ j < p.length ∧ mt p x y j) := by
  have hp6 := hp.2.1
  induction m with
  | zero =>
    intro k i hi hk
    obtain ⟨k, rfl⟩ : ∃ m, k = m + 1 := ⟨k - 1, by omega⟩
    refine ⟨false, ?_, ⟨fun h => (by cases h), fun ⟨j, h1, h2, _⟩ => by omega⟩⟩
    simp only [medium_meet.l0]
    rw [if_neg (by omega)]
  | succ m ih =>
    intro k i hi hk
    obtain ⟨k, rfl⟩ : ∃ m, k = m + 1 := ⟨k - 1, by omega⟩
    have hb1 := beg_range p x i hp hx
    have hb2 := beg_range p y i hp hy
    have g1 := hx.2.2.2.2
    have g2 := hy.2.2.2.2
    obtain ⟨b, hb, hiff⟩ := ih k (i + 1) (by omega) (by omega)
    simp only [medium_meet.l0]
    rw [if_pos (by omega), begins_f p x i hp hx (by omega), begins_f p y i hp hy (by omega)]
    simp only [Option.bind_some]
    rw [show wrap64 (beg p y (i : Int) + y.f2) = beg p y (i : Int) + y.f2 by unfold wrap64; omega, show wrap64 (beg p x (i : Int) + x.f2) = beg p x (i : Int) + x.f2 by unfold wrap64; omega, w1 i (by omega), hb]
    have next : ¬ mt p x y i → (b = true ↔ ∃ j : Nat, i ≤ j ∧ j < p.length ∧ mt p x y j) := fun hn => by
      rw [hiff]
      constructor
      · rintro ⟨j, h1, h2, h3⟩
        exact ⟨j, by omega, h2, h3⟩
      · rintro ⟨j, h1, h2, h3⟩
        rcases Nat.eq_or_lt_of_le h1 with z | z
        · subst z
          exact absurd h3 hn
        · exact ⟨j, z, h2, h3⟩
    by_cases c1 : beg p x (i : Int) < beg p y (i : Int) + y.f2
    · rw [if_pos c1]
      by_cases c2 : beg p y (i : Int) < beg p x (i : Int) + x.f2
      · rw [if_pos c2]
        exact ⟨true, rfl, ⟨fun _ => ⟨i, Nat.le_refl _, by omega, c1, c2⟩, fun _ => rfl⟩⟩
      · rw [if_neg c2]
        exact ⟨b, rfl, next fun z => c2 z.2⟩
    · rw [if_neg c1]
      exact ⟨b, rfl, next fun z => c1 z.1⟩
theorem meet_f (p : List Int) (x y : Tk) (hp : VP p) (hx : OKT p x) (hy : OKT p y) (k : Nat) (hk : 7 ≤ k) : medium_meet.f k p x.f0 x.f1 x.f2 y.f0 y.f1 y.f2 = some true ∧ meets p x y ∨ medium_meet.f k p x.f0 x.f1 x.f2 y.f0 y.f1 y.f2 = some false ∧ ¬ meets p x y := by
  have hp6 := hp.2.1
  unfold medium_meet.f
  obtain ⟨b, hb, hiff⟩ := meet_l0 p x y hp hx hy p.length k 0 (by omega) (by omega)
  have hb2 : medium_meet.l0 k p (p.length : Int) 0 x.f0 x.f1 x.f2 y.f0 y.f1 y.f2 = some b := hb
  have hm : b = true ↔ meets p x y := by
    rw [hiff]
    exact ⟨fun ⟨j, _, h2, h3⟩ => ⟨j, h2, h3⟩, fun ⟨j, h2, h3⟩ => ⟨j, Nat.zero_le _, h2, h3⟩⟩
  cases b with
  | true => exact .inl ⟨hb2, hm.1 rfl⟩
  | false => exact .inr ⟨hb2, fun z => by have := hm.2 z; cases this⟩
/-- Does transmission i meet one of those from index k on (not itself)? -/
def hits (p : List Int) (x : List Tk) (i k : Nat) : Prop := ∃ j : Nat, k ≤ j ∧ j < x.length ∧ i ≠ j ∧ meets p (x.getD i z48) (x.getD j z48)
theorem getD_get (x : List Tk) (i : Nat) (h : i < x.length) : x.getD i z48 = x[i] := by
  rw [List.getD_eq_getElem?_getD, List.getElem?_eq_getElem h]
  rfl
theorem clear_l1 (p : List Int) (x : List Tk) (i : Nat) (hp : VP p) (hx : VT p x) (hi : i < x.length) (m : Nat) : ∀ (k kk : Nat) (x7 : List Bool), kk + m = x.length → 7 ≤ k → x7.length = x.length → ∃ y7 : List Bool,
    medium_Clear.l1 (k + m + 1) p x x7 (i : Int) x (x.length : Int) (i : Int) x (x.length : Int) (kk : Int) x[i].f0 x[i].f1 x[i].f2 = medium_Clear.l0 k p x y7 x (x.length : Int) ((i + 1 : Nat) : Int) ∧
    y7.length = x.length ∧ (∀ j, j ≠ i → y7[j]? = x7[j]?) ∧ (hits p x i kk → y7[i]? = some false) ∧ (¬ hits p x i kk → y7[i]? = x7[i]?) := by
  have h6 := hx.1
  induction m with
  | zero =>
    intro k kk x7 hkk hk hl
    refine ⟨x7, ?_, hl, fun _ _ => rfl, fun ⟨j, h1, h2, _⟩ => by omega, fun _ => rfl⟩
    simp only [medium_Clear.l1]
    rw [if_neg (by omega), w1 i (by omega)]
  | succ m ih =>
    intro k kk x7 hkk hk hl
    have hlt : kk < x.length := by omega
    rw [show k + (m + 1) + 1 = (k + m + 1) + 1 by omega]
    simp only [medium_Clear.l1]
    rw [if_pos (by omega), if_pos (by omega), if_pos (by omega), rdT_get x kk hlt, w1 kk (by omega)]
    by_cases c1 : i = kk
    · rw [if_pos (by omega)]
      obtain ⟨y7, h1, h2, h3, h4, h5⟩ := ih k (kk + 1) x7 (by omega) hk hl
      have e : hits p x i kk ↔ hits p x i (kk + 1) := ⟨fun ⟨j, g1, g2, g3, g4⟩ => ⟨j, by omega, g2, g3, g4⟩, fun ⟨j, g1, g2, g3, g4⟩ => ⟨j, by omega, g2, g3, g4⟩⟩
      exact ⟨y7, h1, h2, h3, fun z => h4 (e.1 z), fun z => h5 (fun q => z (e.2 q))⟩
    · rw [if_neg (by omega)]
      rcases meet_f p x[i] x[kk] hp (hx.2 _ (List.getElem_mem hi)) (hx.2 _ (List.getElem_mem hlt)) (k + m + 1) (by omega) with ⟨hb, c2⟩ | ⟨hb, c2⟩
      · rw [hb]
        simp only [Option.bind_some, if_true]
        rw [if_pos (by omega), if_pos (by omega), Int.toNat_natCast]
        obtain ⟨y7, h1, h2, h3, h4, h5⟩ := ih k (kk + 1) (x7.set i false) (by omega) hk (by simpa using hl)
        have hh : hits p x i kk := ⟨kk, Nat.le_refl _, hlt, c1, by rw [getD_get x i hi, getD_get x kk hlt]; exact c2⟩
        refine ⟨y7, h1, h2, fun j hj => ?_, fun _ => ?_, fun z => absurd hh z⟩
        · rw [h3 j hj, List.getElem?_set_ne (fun z => hj z.symm)]
        · by_cases c3 : hits p x i (kk + 1)
          · exact h4 c3
          · rw [h5 c3, List.getElem?_set_self (by omega)]
      · rw [hb]
        simp only [Option.bind_some]
        rw [if_neg (by decide)]
        obtain ⟨y7, h1, h2, h3, h4, h5⟩ := ih k (kk + 1) x7 (by omega) hk hl
        have e : hits p x i kk ↔ hits p x i (kk + 1) := by
          constructor
          · rintro ⟨j, g1, g2, g3, g4⟩
            rcases Nat.eq_or_lt_of_le g1 with z | z
            · subst z
              rw [getD_get x i hi, getD_get x kk hlt] at g4
              exact absurd g4 c2
            · exact ⟨j, z, g2, g3, g4⟩
          · rintro ⟨j, g1, g2, g3, g4⟩
            exact ⟨j, by omega, g2, g3, g4⟩
        exact ⟨y7, h1, h2, h3, fun z => h4 (e.1 z), fun z => h5 (fun q => z (e.2 q))⟩
theorem clear_l0 (p : List Int) (x : List Tk) (hp : VP p) (hx : VT p x) (m : Nat) : ∀ (k i : Nat) (x7 : List Bool), i + m = x.length → 7 ≤ k → x7.length = x.length → ∃ R : List Bool,
    medium_Clear.l0 (k + m * (x.length + 2) + 1) p x x7 x (x.length : Int) (i : Int) = some (R, 0) ∧ R.length = x.length ∧ (∀ j, j < i → R[j]? = x7[j]?) ∧ (∀ j, i ≤ j → j < x.length → ∃ b, R[j]? = some b ∧ (b = true ↔ ¬ hits p x j 0)) := by
  have h6 := hx.1
  induction m with
  | zero =>
    intro k i x7 hi hk hl
    refine ⟨x7, ?_, hl, fun _ _ => rfl, fun j h1 h2 => by omega⟩
    simp only [medium_Clear.l0]
    rw [if_neg (by omega)]
  | succ m ih =>
    intro k i x7 hi hk hl
    have hlt : i < x.length := by omega
    have e : k + (m + 1) * (x.length + 2) + 1 = ((k + m * (x.length + 2) + 1) + x.length + 1) + 1 := by rw [Nat.succ_mul]; omega
    rw [e]
    simp only [medium_Clear.l0]
    rw [if_pos (by omega), if_pos (by omega), if_pos (by omega), if_pos (by omega), rdT_get x i hlt, Int.toNat_natCast]
    obtain ⟨y7, h1, h2, h3, h4, h5⟩ := clear_l1 p x i hp hx hlt x.length (k + m * (x.length + 2) + 1) 0 (x7.set i true) (by omega) (by omega) (by simpa using hl)
    have h1' : medium_Clear.l1 (k + m * (x.length + 2) + 1 + x.length + 1) p x (x7.set i true) (i : Int) x (x.length : Int) (i : Int) x (x.length : Int) 0 x[i].f0 x[i].f1 x[i].f2 = _ := h1
    rw [h1']
    obtain ⟨R, g1, g2, g3, g4⟩ := ih k (i + 1) y7 (by omega) hk h2
    refine ⟨R, g1, g2, fun j hj => ?_, fun j hj hjl => ?_⟩
    · rw [g3 j (by omega), h3 j (by omega), List.getElem?_set_ne (by omega)]
    · rcases Nat.eq_or_lt_of_le hj with z | z
      · subst z
        by_cases c : hits p x i 0
        · exact ⟨false, by rw [g3 i (by omega)]; exact h4 c, ⟨fun q => (by cases q), fun q => absurd c q⟩⟩
        · exact ⟨true, by rw [g3 i (by omega), h5 c, List.getElem?_set_self (by omega)], ⟨fun _ => c, fun _ => rfl⟩⟩
      · exact g4 j (by omega) hjl
theorem clear_f (p : List Int) (x : List Tk) (hp : VP p) (hx : VT p x) : ∃ R : List Bool, medium_Clear.f 100 p x = some (R, 0) ∧ R.length = x.length ∧ ∀ j, j < x.length → ∃ b, R[j]? = some b ∧ (b = true ↔ ¬ hits p x j 0) := by
  have h6 := hx.1
  unfold medium_Clear.f
  rw [mcheck_f p x hp hx 70]
  simp only [Option.bind_some, if_true]
  rw [if_pos (by omega), if_pos (by omega), Int.toNat_natCast]
  have hm : x.length * (x.length + 2) ≤ 48 := Nat.mul_le_mul h6 (show x.length + 2 ≤ 8 by omega)
  obtain ⟨R, g1, g2, g3, g4⟩ := clear_l0 p x hp hx x.length (99 - x.length * (x.length + 2)) 0 (List.replicate x.length false) (by omega) (by omega) (by simp)
  rw [show 99 - x.length * (x.length + 2) + x.length * (x.length + 2) + 1 = 100 by omega] at g1
  exact ⟨R, g1, g2, fun j hj => g4 j (Nat.zero_le _) hj⟩
theorem mediumWorks_true : patchbaykeep1_mediumWorks.f 40 = some true := by decide +kernel
end Go.Proofs.Ytkdncfbbhbmaaaa.Br
