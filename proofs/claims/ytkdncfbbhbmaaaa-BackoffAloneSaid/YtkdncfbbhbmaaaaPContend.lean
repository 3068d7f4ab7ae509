/- What backoff.Contend answers: slots that are all unlike, or -1. -/
import Derived.Test.YtkdncfbbhbmaaaaQf42
import Derived.Test.YtkdncfbbhbmaaaaPWait
namespace Go.Proofs.Ytkdncfbbhbmaaaa.Br
open Go.RowKit Go.Proofs.Ytkdncfbbhbmaaaa.Q Go.Proofs.YtkdncfbbhbmaaaaW.PrintWords Go.Proofs.YtkdncfbbhbmaaaaW.PrintLast Go.Proofs.YtkdncfbbhbmaaaaW.PrintMore Go.Proofs.Ytkdncfbbhbmaaaa.K
set_option linter.unusedVariables false
set_option linter.unusedSimpArgs false
abbrev St := S102
abbrev zSt : St := z102
/-- Station i. -/
def gt (l : List St) (i : Nat) : St := l.getD i zSt
theorem rd_gt (l : List St) (i : Nat) : rd_T102 l (i : Int) = gt l i := rfl
theorem gt_set (l : List St) (i j : Nat) (x : St) (h : i < l.length) : gt (l.set i x) j = if i = j then x else gt l j := by
  unfold gt
  rw [List.getD_eq_getElem?_getD, List.getD_eq_getElem?_getD, List.getElem?_set]
  by_cases e : i = j
  · subst e; simp [h]
  · simp [e]
def castL (c : List Nat) : List Int := c.map fun x : Nat => (x : Int)
theorem castL_length (c : List Nat) : (castL c).length = c.length := by simp [castL]
theorem rd_castL (c : List Nat) (i : Nat) (h : i < c.length) : rd (castL c) (i : Int) = ((c.getD i 0 : Nat) : Int) := by
  simp [rd, castL, List.getD_eq_getElem?_getD, List.getElem?_eq_getElem h]
/-! ### A sum over the stations -/
def sumL (g : St → Nat) : List St → Nat
  | [] => 0
  | s :: l => g s + sumL g l
theorem sumL_set (g : St → Nat) (l : List St) : ∀ (i : Nat) (x : St), i < l.length → sumL g (l.set i x) + g (gt l i) = sumL g l + g x := by
  induction l with
  | nil => intro i x h; simp at h
  | cons s l ih =>
    intro i x h
    cases i with
    | zero => simp [sumL, gt]; omega
    | succ i =>
      have := ih i x (by simpa using h)
      simp only [List.set_cons_succ, sumL, gt, List.getD_cons_succ] at *
      omega
theorem sumL_ge (g : St → Nat) (l : List St) : ∀ (i : Nat), i < l.length → g (gt l i) ≤ sumL g l := by
  induction l with
  | nil => intro i h; simp at h
  | cons s l ih =>
    intro i h
    cases i with
    | zero => simp [sumL, gt]
    | succ i =>
      have := ih i (by simpa using h)
      simp only [sumL, gt, List.getD_cons_succ] at *
      omega
theorem sumL_pos (g : St → Nat) (l : List St) : 0 < sumL g l → ∃ i, i < l.length ∧ 0 < g (gt l i) := by
  induction l with
  | nil => intro h; simp [sumL] at h
  | cons s l ih =>
    intro h
    by_cases z : 0 < g s
    · exact ⟨0, by simp, by simpa [gt] using z⟩
    · obtain ⟨i, h1, h2⟩ := ih (by simp only [sumL] at h; omega)
      exact ⟨i + 1, by simpa using h1, by simpa [gt] using h2⟩
def isAct (s : St) : Nat := if s.f0 < 0 then 0 else 1
def weigh (s : St) : Nat := if s.f0 < 0 then 0 else (18 - s.f1).toNat
def act (l : List St) : Nat := sumL isAct l
def meas (l : List St) : Nat := sumL weigh l
/-! ### The loop that looks for the first stations -/
def pick (l : List St) : Nat → List Nat
  | 0 => []
  | i + 1 => if (gt l i).f0 < 0 then pick l i else if pick l i = [] then [i] else if (gt l i).f0 < (gt l ((pick l i).getD 0 0)).f0 then [i] else if (gt l i).f0 = (gt l ((pick l i).getD 0 0)).f0 then pick l i ++ [i] else pick l i
structure Picked (l : List St) (i : Nat) (c : List Nat) : Prop where
  mem : ∀ a ∈ c, a < i ∧ 0 ≤ (gt l a).f0 ∧ (gt l a).f0 = (gt l (c.getD 0 0)).f0
  all : ∀ j, j < i → 0 ≤ (gt l j).f0 → c ≠ [] ∧ (gt l (c.getD 0 0)).f0 ≤ (gt l j).f0 ∧ ((gt l j).f0 = (gt l (c.getD 0 0)).f0 → j ∈ c)
  nd : c.Pairwise (· < ·)
theorem pick_ok (l : List St) (i : Nat) : Picked l i (pick l i) := by
  induction i with
  | zero => exact ⟨fun a h => by simp [pick] at h, fun j h => by omega, by simp [pick]⟩
  | succ i ih =>
    rw [pick]
    generalize pick l i = c at ih
    obtain ⟨hm, ha, hn⟩ := ih
    by_cases h0 : (gt l i).f0 < 0
    · rw [if_pos h0]
      refine ⟨fun a h => ⟨by have := (hm a h).1; omega, (hm a h).2⟩, fun j hj hp => ?_, hn⟩
      rcases Nat.lt_or_ge j i with z | z
      · exact ha j z hp
      · obtain rfl : j = i := by omega
        omega
    rw [if_neg h0]
    by_cases h1 : c = []
    · rw [if_pos h1]
      refine ⟨fun a h => ?_, fun j hj hp => ?_, by simp⟩
      · obtain rfl : a = i := by simpa using h
        exact ⟨by omega, by omega, rfl⟩
      · rcases Nat.lt_or_ge j i with z | z
        · exact absurd h1 (ha j z hp).1
        · obtain rfl : j = i := by omega
          exact ⟨by simp, Int.le_refl _, fun _ => by simp⟩
    rw [if_neg h1]
    by_cases h2 : (gt l i).f0 < (gt l (c.getD 0 0)).f0
    · rw [if_pos h2]
      refine ⟨fun a h => ?_, fun j hj hp => ?_, by simp⟩
      · obtain rfl : a = i := by simpa using h
        exact ⟨by omega, by omega, rfl⟩
      · simp only [List.getD_cons_zero]
        rcases Nat.lt_or_ge j i with z | z
        · have := (ha j z hp).2.1
          exact ⟨by simp, by omega, fun e => by omega⟩
        · obtain rfl : j = i := by omega
          exact ⟨by simp, Int.le_refl _, fun _ => by simp⟩
    rw [if_neg h2]
    by_cases h3 : (gt l i).f0 = (gt l (c.getD 0 0)).f0
    · rw [if_pos h3]
      have hh : (c ++ [i]).getD 0 0 = c.getD 0 0 := by
        cases c with
        | nil => exact absurd rfl h1
        | cons x c => rfl
      refine ⟨fun a h => ?_, fun j hj hp => ?_, ?_⟩
      · rw [hh]
        rcases List.mem_append.1 h with z | z
        · exact ⟨by have := (hm a z).1; omega, (hm a z).2⟩
        · obtain rfl : a = i := by simpa using z
          exact ⟨by omega, by omega, h3⟩
      · rw [hh]
        rcases Nat.lt_or_ge j i with z | z
        · have := ha j z hp
          exact ⟨by simp, this.2.1, fun e => List.mem_append_left _ (this.2.2 e)⟩
        · obtain rfl : j = i := by omega
          exact ⟨by simp, by omega, fun _ => by simp⟩
      · rw [List.pairwise_append]
        refine ⟨hn, by simp, fun a hA b hB => ?_⟩
        obtain rfl : b = i := by simpa using hB
        exact (hm a hA).1
    · rw [if_neg h3]
      refine ⟨fun a h => ⟨by have := (hm a h).1; omega, (hm a h).2⟩, fun j hj hp => ?_, hn⟩
      rcases Nat.lt_or_ge j i with z | z
      · exact ha j z hp
      · obtain rfl : j = i := by omega
        exact ⟨h1, by omega, fun e => absurd e h3⟩
theorem pick_le (l : List St) (i : Nat) : (pick l i).length ≤ i := by
  induction i with
  | zero => simp [pick]
  | succ i ih =>
    rw [pick]
    split
    · omega
    · split
      · simp
      · split
        · simp
        · split
          · simp; omega
          · omega
theorem pick_head (l : List St) (i : Nat) (h : pick l i ≠ []) (hi : i ≤ l.length) : (pick l i).getD 0 0 < l.length := by
  have hp := pick_ok l i
  generalize pick l i = c at hp h
  cases c with
  | nil => exact absurd rfl h
  | cons a c =>
    have := (hp.mem a (by simp)).1
    simp only [List.getD_cons_zero]
    omega
theorem ev_step2 {r : List Int × Int} {g f : Nat → Option (List Int × Int)} (h : ∀ k, g (k + 1 + 1) = f k) (k : Ev f r) : Ev g r := by
  obtain ⟨K, k⟩ := k
  refine ⟨K + 2, fun n hn => ?_⟩
  obtain ⟨m, rfl⟩ : ∃ m, n = m + 1 + 1 := ⟨n - 2, by omega⟩
  rw [h]
  exact k m (by omega)
theorem castL_nil (c : List Nat) (h : c = []) : castL c = [] := by rw [h]; rfl
theorem ev_l1 (n : Int) (dr : List Int) (l : List St) (u left : Int) (i : Nat) (hi : i < l.length) (hl : l.length ≤ 16) {r : List Int × Int}
    (h : Ev (fun k => backoff_Contend.l1 k n dr l u left (castL (pick l (i + 1))) l (l.length : Int) ((i + 1 : Nat) : Int)) r) :
    Ev (fun k => backoff_Contend.l1 k n dr l u left (castL (pick l i)) l (l.length : Int) (i : Int)) r := by
  have hw : wrap64 ((i : Int) + 1) = ((i + 1 : Nat) : Int) := by unfold wrap64; omega
  have hpl := pick_le l i
  have hph := pick_head l i
  rw [pick] at h
  generalize pick l i = c at h hpl hph
  by_cases h0 : (gt l i).f0 < 0
  · rw [if_pos h0] at h
    refine Ev.step (fun k => ?_) h
    simp only [backoff_Contend.l1]
    rw [if_pos (by omega), if_pos (by omega), if_pos (by omega), rd_gt, if_pos h0, hw]
  rw [if_neg h0] at h
  by_cases h1 : c = []
  · rw [if_pos h1] at h
    subst h1
    refine ev_step2 (fun k => ?_) h
    · simp only [backoff_Contend.l1]
      rw [if_pos (by omega), if_pos (by omega), if_pos (by omega), rd_gt, if_neg h0, if_neg (by rw [castL_length]; simp)]
      simp only [backoff_Contend.j3]
      rw [if_neg (by decide), if_pos (by rw [castL_length]; simp), if_pos (by rw [castL_length]; decide), hw]
      rfl
  rw [if_neg h1] at h
  have hpos : 0 < c.length := List.length_pos_iff.2 h1
  have hhd : rd (castL c) 0 = ((c.getD 0 0 : Nat) : Int) := rd_castL c 0 hpos
  have hlt := hph h1 (by omega)
  by_cases h2 : (gt l i).f0 < (gt l (c.getD 0 0)).f0
  · rw [if_pos h2] at h
    refine ev_step2 (fun k => ?_) h
    · simp only [backoff_Contend.l1]
      rw [if_pos (by omega), if_pos (by omega), if_pos (by omega), rd_gt, if_neg h0, if_pos (by rw [castL_length]; omega), if_pos (by rw [castL_length]; omega), hhd, if_pos (by omega), if_pos (by omega), rd_gt, decide_eq_true h2]
      simp only [backoff_Contend.j3]
      rw [if_pos trivial, if_pos (by simp), if_pos (by decide), hw]
      rfl
  rw [if_neg h2] at h
  by_cases h3 : (gt l i).f0 = (gt l (c.getD 0 0)).f0
  · rw [if_pos h3] at h
    refine ev_step2 (fun k => ?_) h
    · simp only [backoff_Contend.l1]
      rw [if_pos (by omega), if_pos (by omega), if_pos (by omega), rd_gt, if_neg h0, if_pos (by rw [castL_length]; omega), if_pos (by rw [castL_length]; omega), hhd, if_pos (by omega), if_pos (by omega), rd_gt, decide_eq_false h2]
      simp only [backoff_Contend.j3]
      rw [if_neg (by decide), if_neg (by rw [castL_length]; omega), if_pos (by rw [castL_length]; omega), hhd, if_pos (by omega), if_pos (by omega), rd_gt, if_pos h3, if_pos (by rw [castL_length]; omega), hw]
      simp [castL]
  · rw [if_neg h3] at h
    refine ev_step2 (fun k => ?_) h
    · simp only [backoff_Contend.l1]
      rw [if_pos (by omega), if_pos (by omega), if_pos (by omega), rd_gt, if_neg h0, if_pos (by rw [castL_length]; omega), if_pos (by rw [castL_length]; omega), hhd, if_pos (by omega), if_pos (by omega), rd_gt, decide_eq_false h2]
      simp only [backoff_Contend.j3]
      rw [if_neg (by decide), if_neg (by rw [castL_length]; omega), if_pos (by rw [castL_length]; omega), hhd, if_pos (by omega), if_pos (by omega), rd_gt, if_neg h3, hw]
theorem ev_l1_all (n : Int) (dr : List Int) (l : List St) (u left : Int) (hl : l.length ≤ 16) {r : List Int × Int} (m : Nat) :
    ∀ i, i + m = l.length → Ev (fun k => backoff_Contend.l1 k n dr l u left (castL (pick l l.length)) l (l.length : Int) (l.length : Int)) r →
    Ev (fun k => backoff_Contend.l1 k n dr l u left (castL (pick l i)) l (l.length : Int) (i : Int)) r := by
  induction m with
  | zero =>
    intro i hi h
    have e : i = l.length := by omega
    rw [e]
    exact h
  | succ m ih => intro i hi h; exact ev_l1 n dr l u left i (by omega) hl (ih (i + 1) (by omega) h)
/-! ### What the last loop tells -/
theorem ev_l3 (l : List St) (hl : l.length ≤ 16) (m : Nat) : ∀ i, i + m = l.length →
    Ev (fun k => backoff_Contend.l3 k ((l.map fun s => s.f2).take i ++ List.replicate m 0) l (l.length : Int) (i : Int)) (l.map (fun s => s.f2), 0) := by
  induction m with
  | zero =>
    intro i hi
    refine Ev.step (f := fun _ => some (l.map (fun s => s.f2), 0)) (fun k => ?_) (Ev.now _)
    rw [backoff_Contend.l3, if_neg (by omega), List.replicate_zero, List.append_nil, List.take_of_length_le (by simp; omega)]
  | succ m ih =>
    intro i hi
    refine Ev.step (fun k => ?_) (ih (i + 1) (by omega))
    have hw : wrap64 ((i : Int) + 1) = ((i + 1 : Nat) : Int) := by unfold wrap64; omega
    have hln : ((l.map fun s => s.f2).take i ++ List.replicate (m + 1) (0 : Int)).length = l.length := by rw [List.length_append, List.length_take, List.length_replicate, List.length_map]; omega
    simp only [backoff_Contend.l3]
    rw [if_pos (by omega), if_pos (by omega), if_pos (by omega), if_pos (by rw [hln]; omega), hw, rd_gt, Int.toNat_natCast]
    have hs : ((l.map fun s => s.f2).take i ++ List.replicate (m + 1) (0 : Int)).set i (gt l i).f2 = (l.map fun s => s.f2).take (i + 1) ++ List.replicate m 0 := by
      rw [List.set_append_right _ _ (by rw [List.length_take]; omega), List.take_succ_eq_append_getElem (by simp; omega), List.length_take, show i - min i (l.map fun s => s.f2).length = 0 by rw [List.length_map]; omega, List.replicate_succ, List.set_cons_zero, List.append_assoc]
      congr 1
      simp [gt, List.getD_eq_getElem?_getD, List.getElem?_eq_getElem (show i < l.length by omega)]
    rw [hs]
/-! ### What holds ahead of each turn -/
def OKst (T : Int) (s : St) : Prop := 0 ≤ s.f1 ∧ ((T ≤ s.f0 ∧ 0 ≤ s.f0 ∧ s.f0 ≤ 1024 * s.f1 ∧ s.f1 ≤ 16) ∨ (s.f0 < 0 ∧ -1 ≤ s.f2 ∧ s.f2 < T))
def Apart (l : List St) : Prop := ∀ i j, i < l.length → j < l.length → i ≠ j → (gt l i).f0 < 0 → (gt l j).f0 < 0 → 0 ≤ (gt l i).f2 → (gt l i).f2 ≠ (gt l j).f2
structure Keep (l : List St) (T : Int) : Prop where
  len : l.length ≤ 16
  st : ∀ i, i < l.length → OKst T (gt l i)
  dis : Apart l
/-- What is told. -/
def Slots (n : Nat) (out : List Int) : Prop := out.length = n ∧ ∀ i, i < n → -1 ≤ out.getD i 0 ∧ ∀ j, j < i → 0 ≤ out.getD i 0 → out.getD j 0 ≠ out.getD i 0
structure Mid (y : List St) (slot : Int) (rest : List Nat) : Prop where
  len : y.length ≤ 16
  st : ∀ i, i < y.length → i ∉ rest → OKst (slot + 1) (gt y i)
  rs : ∀ i ∈ rest, i < y.length ∧ (gt y i).f0 = slot ∧ 0 ≤ (gt y i).f1 ∧ (gt y i).f1 ≤ 16 ∧ slot ≤ 1024 * (gt y i).f1
  nd : rest.Nodup
  dis : Apart y
theorem set_apart (y : List St) (a : Nat) (x : St) (ha : a < y.length) (h : Apart y) (hx : 0 ≤ x.f0 ∨ (x.f0 < 0 ∧ ∀ j, j < y.length → j ≠ a → (gt y j).f0 < 0 → 0 ≤ x.f2 ∨ 0 ≤ (gt y j).f2 → x.f2 ≠ (gt y j).f2)) : Apart (y.set a x) := by
  intro i j hi hj hij hi0 hj0 hi2
  rw [List.length_set] at hi hj
  rw [gt_set y a i x ha] at hi0 hi2 ⊢
  rw [gt_set y a j x ha] at hj0 ⊢
  by_cases e : a = i
  · subst e
    rw [if_pos rfl] at hi0 hi2 ⊢
    rw [if_neg hij] at hj0 ⊢
    rcases hx with z | ⟨_, z⟩
    · omega
    · exact z j hj (fun e => hij e.symm) hj0 (.inl hi2)
  · rw [if_neg e] at hi0 hi2 ⊢
    by_cases e2 : a = j
    · subst e2
      rw [if_pos rfl] at hj0 ⊢
      rcases hx with z | ⟨_, z⟩
      · omega
      · exact fun q => z i hi hij hi0 (.inr hi2) q.symm
    · rw [if_neg e2] at hj0 ⊢
      exact h i j hi hj hij hi0 hj0 hi2
theorem set_set_gt (y : List St) (a : Nat) (p q : St) : (y.set a p).set a q = y.set a q := List.set_set ..
theorem gt_set_self (y : List St) (a : Nat) (p : St) (h : a < y.length) : gt (y.set a p) a = p := by rw [gt_set y a a p h, if_pos rfl]
theorem ev_l2 (n : Int) (dr : List Int) (hdr : dr.length ≤ 256) (slot : Int) (hs0 : 0 ≤ slot) (hs1 : slot ≤ 100000) (now : List Nat) (hnow : now.length ≤ 16) (rest : List Nat) :
    ∀ (pre : List Nat) (y : List St) (u left : Nat), now = pre ++ rest → Mid y slot rest → left = act y → u + meas y ≤ 288 →
      (∀ (y2 : List St) (u2 left2 : Nat), Keep y2 (slot + 1) → y2.length = y.length → left2 = act y2 → u2 + meas y2 ≤ 288 → meas y2 + rest.length ≤ meas y →
        ∃ out, Ev (fun k => backoff_Contend.l0 k n dr y2 (u2 : Int) (left2 : Int)) (out, 0) ∧ Slots y.length out) →
      ∃ out, Ev (fun k => backoff_Contend.l2 k n dr y (u : Int) (left : Int) slot (castL now) (now.length : Int) (pre.length : Int)) (out, 0) ∧ Slots y.length out := by
  induction rest with
  | nil =>
    intro pre y u left hn hmid hleft hm H
    obtain ⟨out, he, ht⟩ := H y u left ⟨hmid.len, fun i hi => hmid.st i hi (by simp), hmid.dis⟩ rfl hleft hm (by simp)
    refine ⟨out, Ev.step (fun k => ?_) he, ht⟩
    rw [List.append_nil] at hn
    rw [backoff_Contend.l2, if_neg (by rw [hn]; omega)]
  | cons a rest ih =>
    intro pre y u left hn hmid hleft hm H
    have hlen : now.length = pre.length + (rest.length + 1) := by rw [hn, List.length_append, List.length_cons]
    obtain ⟨ha, haf, hat0, hat1, hab⟩ := hmid.rs a (by simp)
    have hgd : now.getD pre.length 0 = a := by rw [hn]; simp [List.getD_eq_getElem?_getD]
    have hrd : rd (castL now) (pre.length : Int) = (a : Int) := by rw [rd_castL now pre.length (by omega), hgd]
    have hw : wrap64 ((pre.length : Int) + 1) = (((pre ++ [a]).length : Nat) : Int) := by rw [List.length_append]; simp only [List.length_singleton]; unfold wrap64; omega
    have hwt : wrap64 ((gt y a).f1 + 1) = (gt y a).f1 + 1 := by unfold wrap64; omega
    have hylen := hmid.len
    have hna : a ∉ rest := (List.nodup_cons.1 hmid.nd).1
    -- the station's new state
    have key : ∀ (x : St) (u2 : Nat) (left2 : Nat), (y.set a x).length = y.length → OKst (slot + 1) x → Apart (y.set a x) → left2 = act (y.set a x) → u2 + meas (y.set a x) ≤ 288 → meas (y.set a x) + 1 ≤ meas y →
        ∃ out, Ev (fun k => backoff_Contend.l2 k n dr (y.set a x) (u2 : Int) (left2 : Int) slot (castL now) (now.length : Int) (((pre ++ [a]).length : Nat) : Int)) (out, 0) ∧ Slots y.length out := by
      intro x u2 left2 hle hx hap hl2 hu2 hme
      rw [← hle]
      refine ih (pre ++ [a]) (y.set a x) u2 left2 (by rw [hn, List.append_assoc]; rfl) ⟨by rw [hle]; exact hylen, fun i hi hir => ?_, fun i hir => ?_, (List.nodup_cons.1 hmid.nd).2, hap⟩ hl2 hu2 (fun y2 u3 left3 hk hl3 hl4 hm3 hm4 => ?_)
      · rw [gt_set y a i x ha]
        by_cases e : a = i
        · rw [if_pos e]; exact hx
        · rw [if_neg e]
          exact hmid.st i (by rw [← hle]; exact hi) (by simp only [List.mem_cons, not_or]; exact ⟨fun q => e q.symm, hir⟩)
      · have hne : a ≠ i := fun q => hna (q ▸ hir)
        rw [gt_set y a i x ha, if_neg hne, hle]
        exact hmid.rs i (List.mem_cons_of_mem _ hir)
      · rw [hle]
        exact H y2 u3 left3 hk (by rw [hl3, hle]) hl4 hm3 (by rw [List.length_cons]; omega)
    have s1 := fun x => sumL_set isAct y a x ha
    have s2 := fun x => sumL_set weigh y a x ha
    have hia : isAct (gt y a) = 1 := by unfold isAct; rw [if_neg (by omega)]
    have hwa : weigh (gt y a) = (18 - (gt y a).f1).toNat := by unfold weigh; rw [if_neg (by omega)]
    have hact : 1 ≤ act y := by have := sumL_ge isAct y a ha; unfold act; omega
    by_cases hg : (gt y a).f1 + 1 > 16
    · -- it gives up
      let x : St := ⟨-1, (gt y a).f1 + 1, -1⟩
      have e1 := s1 x
      have e2 := s2 x
      have hx1 : isAct x = 0 := rfl
      have hx2 : weigh x = 0 := rfl
      rw [hia, hx1] at e1
      rw [hwa, hx2] at e2
      obtain ⟨out, he, ht⟩ := key x u (left - 1) (List.length_set ..) ⟨by show 0 ≤ (gt y a).f1 + 1; omega, .inr ⟨by show (-1 : Int) < 0; omega, by show (-1 : Int) ≤ -1; omega, by show (-1 : Int) < slot + 1; omega⟩⟩
        (set_apart y a x ha hmid.dis (.inr ⟨by show (-1 : Int) < 0; omega, fun j hj hja hj0 hj2 => by
          rcases hj2 with z | z
          · exact absurd z (by show ¬ (0 : Int) ≤ -1; omega)
          · show (-1 : Int) ≠ _; omega⟩))
        (by unfold act at *; omega) (by unfold meas at *; omega) (by unfold meas at *; omega)
      refine ⟨out, Ev.step (fun k => ?_) he, ht⟩
      have hwl : wrap64 ((left : Int) - 1) = ((left - 1 : Nat) : Int) := by
        have : left ≤ 288 := by
          have hle : ∀ m : List St, act m ≤ m.length := by
            intro m
            induction m with
            | nil => simp [act, sumL]
            | cons s m ihm =>
              have : isAct s ≤ 1 := by unfold isAct; split <;> omega
              simp only [act, sumL, List.length_cons] at *
              omega
          have := hle y
          omega
        unfold wrap64
        omega
      simp only [backoff_Contend.l2]
      rw [if_pos (by omega), if_pos (by omega), if_pos (by rw [castL_length]; omega), hrd, if_pos (by omega), if_pos (by omega), Option.bind_some, Int.toNat_natCast]
      simp only [rd_gt, gt_set_self y a _ ha, Option.bind_some, set_set_gt]
      rw [hwt, if_pos hg, hwl, hw]
    · -- it waits
      have hf1 : (gt y a).f1 + 1 ≤ 16 := by omega
      have hwait : ∀ d : Int, ∃ wt : Nat, wt < 1024 ∧ backoff_Wait.f ((gt y a).f1 + 1) d = some ((wt : Int), 0) := by
        intro d
        obtain ⟨t, ht⟩ : ∃ t : Nat, (gt y a).f1 + 1 = (t : Int) := ⟨((gt y a).f1 + 1).toNat, by omega⟩
        have hr := range_le t
        rw [ht, wait_eq t (by omega) (by omega)]
        have p1 := Int.emod_nonneg d (show ((rangeOf t : Nat) : Int) ≠ 0 by omega)
        have p2 := Int.emod_lt_of_pos d (show (0 : Int) < ((rangeOf t : Nat) : Int) by omega)
        exact ⟨(d % ((rangeOf t : Nat) : Int)).toNat, by omega, by rw [Int.toNat_of_nonneg p1]⟩
      have hstep : ∀ wt : Nat, wt < 1024 → ∃ out, Ev (fun k => backoff_Contend.l2 k n dr (y.set a ⟨wrap64 (wrap64 (slot + 1) + (wt : Int)), (gt y a).f1 + 1, (gt y a).f2⟩) ((u + 1 : Nat) : Int) (left : Int) slot (castL now) (now.length : Int) (((pre ++ [a]).length : Nat) : Int)) (out, 0) ∧ Slots y.length out := by
        intro wt hwt2
        have hws : wrap64 (wrap64 (slot + 1) + (wt : Int)) = slot + 1 + wt := by
          have : wrap64 (slot + 1) = slot + 1 := by unfold wrap64; omega
          rw [this]
          unfold wrap64
          omega
        rw [hws]
        let x : St := ⟨slot + 1 + wt, (gt y a).f1 + 1, (gt y a).f2⟩
        have e1 := s1 x
        have e2 := s2 x
        have hx1 : isAct x = 1 := by unfold isAct; rw [if_neg (show ¬ slot + 1 + (wt : Int) < 0 by omega)]
        have hx2 : weigh x = (18 - ((gt y a).f1 + 1)).toNat := by unfold weigh; rw [if_neg (show ¬ slot + 1 + (wt : Int) < 0 by omega)]
        rw [hia, hx1] at e1
        rw [hwa, hx2] at e2
        exact key x (u + 1) left (List.length_set ..) ⟨by show 0 ≤ (gt y a).f1 + 1; omega, .inl ⟨by show slot + 1 ≤ slot + 1 + (wt : Int); omega, by show 0 ≤ slot + 1 + (wt : Int); omega, by show slot + 1 + (wt : Int) ≤ 1024 * ((gt y a).f1 + 1); omega, hf1⟩⟩
          (set_apart y a x ha hmid.dis (.inl (by show 0 ≤ slot + 1 + (wt : Int); omega)))
          (by unfold act at *; omega) (by unfold meas at *; omega) (by unfold meas at *; omega)
      have hwu : wrap64 ((u : Int) + 1) = ((u + 1 : Nat) : Int) := by unfold wrap64; omega
      by_cases hd : (dr.length : Int) > 0
      · have hm1 : Int.tmod (u : Int) (dr.length : Int) = ((u % dr.length : Nat) : Int) := by rw [Int.ofNat_tmod]
        have hm2 := Nat.mod_lt u (show dr.length > 0 by omega)
        obtain ⟨wt, hwt1, hwt2⟩ := hwait (rd dr ((u % dr.length : Nat) : Int))
        obtain ⟨out, he, ht⟩ := hstep wt hwt1
        refine ⟨out, Ev.step (fun k => ?_) he, ht⟩
        simp only [backoff_Contend.l2]
        rw [if_pos (by omega), if_pos (by omega), if_pos (by rw [castL_length]; omega), hrd, if_pos (by omega), if_pos (by omega), Option.bind_some, Int.toNat_natCast]
        simp only [rd_gt, gt_set_self y a _ ha, set_set_gt]
        rw [hwt, if_neg hg, if_pos hd, if_neg (by omega), hm1, if_pos (by omega), if_pos (by omega), hwt2, Option.bind_some, hwu, hw]
      · obtain ⟨wt, hwt1, hwt2⟩ := hwait 0
        obtain ⟨out, he, ht⟩ := hstep wt hwt1
        refine ⟨out, Ev.step (fun k => ?_) he, ht⟩
        simp only [backoff_Contend.l2]
        rw [if_pos (by omega), if_pos (by omega), if_pos (by rw [castL_length]; omega), hrd, if_pos (by omega), if_pos (by omega), Option.bind_some, Int.toNat_natCast]
        simp only [rd_gt, gt_set_self y a _ ha, set_set_gt]
        rw [hwt, if_neg hg, if_neg hd, hwt2, Option.bind_some, hwu, hw]
/-! ### All turns -/
theorem act_le (m : List St) : act m ≤ m.length := by
  induction m with
  | nil => simp [act, sumL]
  | cons s m ih =>
    have : isAct s ≤ 1 := by unfold isAct; split <;> omega
    simp only [act, sumL, List.length_cons] at *
    omega
theorem ev_done (n : Int) (dr : List Int) (l : List St) (T : Int) (u : Int) (hn : n = (l.length : Int)) (hk : Keep l T) (ha : act l = 0) :
    ∃ out, Ev (fun k => backoff_Contend.l0 k n dr l u ((0 : Nat) : Int)) (out, 0) ∧ Slots l.length out := by
  have hl := hk.len
  have h3 := ev_l3 l hl l.length 0 (by omega)
  refine ⟨l.map fun s => s.f2, Ev.step (fun k => ?_) h3, by simp, fun i hi => ?_⟩
  · simp only [backoff_Contend.l0]
    rw [if_neg (by omega), if_pos (by omega), if_pos (by omega), hn, Int.toNat_natCast, List.take_zero, List.nil_append]
    rfl
  · have hin : ∀ j, j < l.length → (gt l j).f0 < 0 := fun j hj => by
      have h1 := sumL_ge isAct l j hj
      unfold act at ha
      have h2 : isAct (gt l j) = 0 := by omega
      unfold isAct at h2
      by_cases z : (gt l j).f0 < 0
      · exact z
      · rw [if_neg z] at h2; omega
    have hg : ∀ j, j < l.length → (l.map fun s => s.f2).getD j 0 = (gt l j).f2 := fun j hj => by
      simp [gt, List.getD_eq_getElem?_getD, List.getElem?_eq_getElem hj]
    rw [hg i hi]
    refine ⟨?_, fun j hj h0 => ?_⟩
    · have := hin i hi
      rcases (hk.st i hi).2 with z | z
      · omega
      · exact z.2.1
    · rw [hg j (by omega)]
      exact fun e => hk.dis i j hi (by omega) (by omega) (hin i hi) (hin j (by omega)) h0 e.symm
theorem ev_l0 (n : Int) (dr : List Int) (hdr : dr.length ≤ 256) (m : Nat) : ∀ (l : List St) (T : Int) (u left : Nat), n = (l.length : Int) → meas l ≤ m → 0 ≤ T → Keep l T → left = act l → u + meas l ≤ 288 →
    ∃ out, Ev (fun k => backoff_Contend.l0 k n dr l (u : Int) (left : Int)) (out, 0) ∧ Slots l.length out := by
  induction m with
  | zero =>
    intro l T u left hn hm hT hk hleft hu
    by_cases h0 : act l = 0
    · rw [hleft, h0]
      exact ev_done n dr l T u hn hk h0
    · obtain ⟨i, hi, hp⟩ := sumL_pos isAct l (by unfold act at h0; omega)
      have h1 := sumL_ge weigh l i hi
      have h2 : ¬ (gt l i).f0 < 0 := fun z => by unfold isAct at hp; rw [if_pos z] at hp; omega
      rcases (hk.st i hi).2 with z | z
      · unfold weigh at h1
        rw [if_neg h2] at h1
        unfold meas weigh at hm
        omega
      · omega
  | succ m ih =>
    intro l T u left hn hm hT hk hleft hu
    by_cases h0 : act l = 0
    · rw [hleft, h0]
      exact ev_done n dr l T u hn hk h0
    have hl := hk.len
    have hal := act_le l
    obtain ⟨i, hi, hp⟩ := sumL_pos isAct l (by unfold act at h0; omega)
    have hi0 : ¬ (gt l i).f0 < 0 := fun z => by unfold isAct at hp; rw [if_pos z] at hp; omega
    have hpk := pick_ok l l.length
    have hpl := pick_le l l.length
    have hph := pick_head l l.length
    obtain ⟨hne, hmin, _⟩ := hpk.all i hi (by omega)
    have hlt := hph hne (Nat.le_refl _)
    have hstart : ∀ out, Ev (fun k => backoff_Contend.l1 k n dr l (u : Int) (left : Int) (castL (pick l l.length)) l (l.length : Int) (l.length : Int)) (out, 0) → Ev (fun k => backoff_Contend.l0 k n dr l (u : Int) (left : Int)) (out, 0) := fun out h => by
      refine Ev.step (fun k => ?_) (ev_l1_all n dr l (u : Int) (left : Int) hl l.length 0 (by omega) h)
      simp only [backoff_Contend.l0]
      rw [if_pos (by omega)]
      rfl
    generalize pick l l.length = now at hpk hpl hne hmin hlt hstart
    have hpos : 0 < now.length := List.length_pos_iff.2 hne
    have hhd : rd (castL now) 0 = ((now.getD 0 0 : Nat) : Int) := rd_castL now 0 hpos
    have hmem : now.getD 0 0 ∈ now := by
      rw [List.getD_eq_getElem?_getD, List.getElem?_eq_getElem hpos]
      exact List.getElem_mem hpos
    obtain ⟨_, hs0, _⟩ := hpk.mem _ hmem
    have hpm := hpk.mem
    have hpa := hpk.all
    have hpn := hpk.nd
    clear hpk
    generalize now.getD 0 0 = a at *
    obtain ⟨hta, hoka⟩ := hk.st a hlt
    have hoka : T ≤ (gt l a).f0 ∧ 0 ≤ (gt l a).f0 ∧ (gt l a).f0 ≤ 1024 * (gt l a).f1 ∧ (gt l a).f1 ≤ 16 := by
      rcases hoka with z | z
      · exact z
      · omega
    -- the others
    have hoth : ∀ j, j < l.length → j ∉ now → OKst ((gt l a).f0 + 1) (gt l j) := fun j hj hjn => by
      obtain ⟨h1, h2⟩ := hk.st j hj
      refine ⟨h1, ?_⟩
      rcases h2 with z | z
      · have := hpa j hj z.2.1
        have h3 : ¬ (gt l j).f0 = (gt l a).f0 := fun e => hjn (this.2.2 e)
        exact .inl ⟨by omega, z.2.1, z.2.2.1, z.2.2.2⟩
      · exact .inr ⟨z.1, z.2.1, by omega⟩
    by_cases h1 : now.length = 1
    · -- one alone
      obtain ⟨b, hb⟩ := List.length_eq_one_iff.1 h1
      have hba : now = [a] := by rw [hb] at hmem ⊢; rw [List.mem_singleton.1 hmem]
      let x : St := ⟨-1, (gt l a).f1, (gt l a).f0⟩
      have e1 := sumL_set isAct l a x hlt
      have e2 := sumL_set weigh l a x hlt
      have hia : isAct (gt l a) = 1 := by unfold isAct; rw [if_neg (by omega)]
      have hwa : weigh (gt l a) = (18 - (gt l a).f1).toNat := by unfold weigh; rw [if_neg (by omega)]
      have hx1 : isAct x = 0 := rfl
      have hx2 : weigh x = 0 := rfl
      rw [hia, hx1] at e1
      rw [hwa, hx2] at e2
      have hll : (l.set a x).length = l.length := List.length_set ..
      have hkeep : Keep (l.set a x) ((gt l a).f0 + 1) := by
        refine ⟨by rw [hll]; exact hl, fun j hj => ?_, set_apart l a x hlt hk.dis (.inr ⟨by show (-1 : Int) < 0; omega, fun j hj hja hj0 hj2 => ?_⟩)⟩
        · rw [gt_set l a j x hlt]
          by_cases e : a = j
          · rw [if_pos e]
            exact ⟨hta, .inr ⟨by show (-1 : Int) < 0; omega, by show -1 ≤ (gt l a).f0; omega, by show (gt l a).f0 < (gt l a).f0 + 1; omega⟩⟩
          · rw [if_neg e]
            exact hoth j (by rw [← hll]; exact hj) (by rw [hba]; simp only [List.mem_singleton]; exact fun q => e q.symm)
        · rcases (hk.st j hj).2 with z | z
          · omega
          · show (gt l a).f0 ≠ _
            omega
      obtain ⟨out, he, ht⟩ := ih (l.set a x) ((gt l a).f0 + 1) u (left - 1) (by rw [hll]; exact hn) (by unfold meas at *; omega) (by omega) hkeep (by unfold act at *; omega) (by unfold meas at *; omega)
      rw [hll] at ht
      refine ⟨out, hstart out (Ev.step (fun k => ?_) he), ht⟩
      have hwl : wrap64 ((left : Int) - 1) = ((left - 1 : Nat) : Int) := by unfold wrap64; omega
      simp only [backoff_Contend.l1]
      rw [if_neg (by omega), if_pos (by rw [castL_length]; omega), hhd, if_pos (by omega), if_pos (by omega), if_pos (by rw [castL_length]; omega), Option.bind_some, Int.toNat_natCast]
      simp only [rd_gt, gt_set_self l a _ hlt, set_set_gt]
      rw [hwl]
    · -- several
      have hmid : Mid l (gt l a).f0 now := by
        refine ⟨hl, hoth, fun j hj => ?_, ?_, hk.dis⟩
        · obtain ⟨q1, q2, q3⟩ := hpm j hj
          obtain ⟨r1, r2⟩ := hk.st j q1
          rcases r2 with z | z
          · exact ⟨q1, q3, r1, z.2.2.2, by omega⟩
          · omega
        · exact hpn.imp (fun h => by omega)
      obtain ⟨out, he, ht⟩ := ev_l2 n dr hdr (gt l a).f0 (by omega) (by omega) now (by omega) now [] l u left rfl hmid hleft hu (fun y2 u2 left2 hk2 hl2 hle2 hu2 hm2 => by
        rw [← hl2]
        exact ih y2 ((gt l a).f0 + 1) u2 left2 (by rw [hl2]; exact hn) (by omega) (by omega) hk2 hle2 hu2)
      refine ⟨out, hstart out (Ev.step (fun k => ?_) he), ht⟩
      simp only [backoff_Contend.l1]
      rw [if_neg (by omega), if_pos (by rw [castL_length]; omega), hhd, if_pos (by omega), if_pos (by omega), if_neg (by rw [castL_length]; omega), castL_length]
      rfl
theorem gt_zeros (n i : Nat) : gt (List.replicate n zSt) i = zSt := by
  unfold gt
  rw [List.getD_eq_getElem?_getD, List.getElem?_replicate]
  split <;> rfl
theorem meas_zeros (n : Nat) : meas (List.replicate n zSt) = 18 * n ∧ act (List.replicate n zSt) = n := by
  induction n with
  | zero => exact ⟨rfl, rfl⟩
  | succ n ih =>
    have h1 : weigh zSt = 18 := rfl
    have h2 : isAct zSt = 1 := rfl
    obtain ⟨i1, i2⟩ := ih
    simp only [meas, act] at i1 i2 ⊢
    simp only [List.replicate_succ, sumL, h1, h2]
    omega
theorem contend_ev (n : Nat) (hn : n ≤ 16) (dr : List Int) (hdr : dr.length ≤ 256) : ∃ out, Ev (fun k => backoff_Contend.f k (n : Int) dr) (out, 0) ∧ Slots n out := by
  obtain ⟨h1, h2⟩ := meas_zeros n
  obtain ⟨out, he, ht⟩ := ev_l0 (n : Int) dr hdr 288 (List.replicate n zSt) 0 0 n (by rw [List.length_replicate]) (by omega) (by omega)
    ⟨by rw [List.length_replicate]; exact hn, fun i _ => by rw [gt_zeros]; exact ⟨by decide, .inl ⟨by decide, by decide, by decide, by decide⟩⟩, fun i j _ _ _ h => by rw [gt_zeros] at h; exact absurd h (by decide)⟩ (by omega) (by omega)
  rw [List.length_replicate] at ht
  refine ⟨out, Ev.step (fun k => ?_) he, ht⟩
  simp only [backoff_Contend.f]
  rw [if_neg (by omega)]
  simp only [backoff_Contend.j0]
  rw [if_neg (by rw [decide_eq_false (by omega)]; decide), if_neg (by omega), if_pos (by omega), if_pos (by omega), Int.toNat_natCast]
  rfl
theorem contend_one (dr : List Int) (hdr : dr.length ≤ 256) : Ev (fun k => backoff_Contend.f k ((1 : Nat) : Int) dr) ([0], 0) := by
  refine Ev.of (k := 12) (fun k => backoff_Contend.mono _ _ k) ?_
  unfold backoff_Contend.f
  rw [if_neg (by decide)]
  show backoff_Contend.j0 (11 + 1) _ _ _ = _
  rw [backoff_Contend.j0, if_neg (by decide), if_neg (by omega)]
  kernel_rfl
end Go.Proofs.Ytkdncfbbhbmaaaa.Br
