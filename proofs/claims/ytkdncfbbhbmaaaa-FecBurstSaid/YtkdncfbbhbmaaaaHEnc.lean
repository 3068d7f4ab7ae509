/- The call fec.Encode: a walk: what it answers is the code words of the half bytes, block by block, column by column. -/
import Derived.Test.YtkdncfbbhbmaaaaHWord
import Derived.Test.YtkdncfbbhbmaaaaKJoin
import Derived.WalkLawsBesides
import Derived.Lib.Hide
import Derived.Lib.JoinLaws
namespace Go.Proofs.Ytkdncfbbhbmaaaa.Ext
open Go.RowKit Go.Proofs.YtkdncfbbhbmaaaaW.PrintWords Go.Proofs.YtkdncfbbhbmaaaaW.PrintLast Go.Proofs.YtkdncfbbhbmaaaaW.PrintMore
attribute [local go_sem] max2_int min2_int max_two min_two max_three min_three max_four min_four
set_option linter.unusedVariables false
set_option linter.unusedSimpArgs false
/-! ### Rows of code words -/
def encW (B : Nat) : Value := .slice (some ⟨B, 0, none⟩) 7 7
def kwd : Kd Nat := Kd.scalar encW (fun _ => rfl)
def WB (w : World) (Bs xs : List Nat) : Prop := Bs.length = xs.length ∧ ∀ (i B x : Nat), Bs[i]? = some B → xs[i]? = some x → w.heap[B]? = some (.cells (wordCells x) 5 (7, 8))
theorem WB_nil (w : World) : WB w [] [] := ⟨rfl, fun _ _ _ h => by simp at h⟩
theorem WB_app {w : World} {Bs xs Cs ys : List Nat} (h : WB w Bs xs) (k : WB w Cs ys) : WB w (Bs ++ Cs) (xs ++ ys) := by
  refine ⟨by rw [List.length_append, List.length_append, h.1, k.1], fun i B x hB hx => ?_⟩
  rcases Nat.lt_or_ge i Bs.length with hi | hi
  · rw [List.getElem?_append_left hi] at hB
    rw [List.getElem?_append_left (h.1 ▸ hi)] at hx
    exact h.2 i B x hB hx
  · rw [List.getElem?_append_right hi] at hB
    rw [List.getElem?_append_right (h.1 ▸ hi), ← h.1] at hx
    exact k.2 _ B x hB hx
theorem WB_two {w : World} {B C x y : Nat} (h : w.heap[B]? = some (.cells (wordCells x) 5 (7, 8))) (k : w.heap[C]? = some (.cells (wordCells y) 5 (7, 8))) : WB w [B, C] [x, y] := by
  refine ⟨rfl, fun i D z hD hz => ?_⟩
  match i with
  | 0 =>
    obtain rfl := Option.some.inj hD
    obtain rfl := Option.some.inj hz
    exact h
  | 1 =>
    obtain rfl := Option.some.inj hD
    obtain rfl := Option.some.inj hz
    exact k
  | n + 2 => simp at hD
theorem WB_keep {w w1 : World} {Bs xs : List Nat} (h : WB w Bs xs) (hk : ∀ B x : Nat, w.heap[B]? = some (Obj.cells (wordCells x) 5 (7, 8)) → w1.heap[B]? = w.heap[B]?) : WB w1 Bs xs :=
  ⟨h.1, fun i B x hB hx => (hk B x (h.2 i B x hB hx)).trans (h.2 i B x hB hx)⟩
theorem WB_below {w w1 : World} {Bs xs : List Nat} (h : WB w Bs xs) (hb : Below w.heap.size w w1) : WB w1 Bs xs :=
  WB_keep h (fun B x hx => hb.block B (by
    rcases Nat.lt_or_ge B w.heap.size with z | z
    · exact z
    · rw [Array.getElem?_eq_none z] at hx
      cases hx))
theorem WB_grown {w w1 : World} {Bs xs : List Nat} {e base : Nat} {ok : Nat → Prop} {v : Value} {zs : List Nat} (h : WB w Bs xs) (hr : kwd.R e w base ok v zs) (hg : w.grownBy w1 v.ownBlock) : WB w1 Bs xs :=
  WB_keep h (fun B x hx => hg.block B (by
    rcases Nat.lt_or_ge B w.heap.size with z | z
    · exact z
    · rw [Array.getElem?_eq_none z] at hx
      cases hx) (fun z => by
    obtain ⟨cells, hc⟩ := own_typed (Kd.own_of_R hr) B z.symm
    rw [hc] at hx
    injection hx with hx
    injection hx with _ _ hx
    simp at hx))
theorem WB_take {w : World} {Bs xs : List Nat} (h : WB w Bs xs) (n : Nat) : WB w (Bs.take n) (xs.take n) := by
  refine ⟨by rw [List.length_take, List.length_take, h.1], fun i B x hB hx => ?_⟩
  rw [List.getElem?_take] at hB hx
  split at hB
  · rename_i hi
    rw [if_pos hi] at hx
    exact h.2 i B x hB hx
  · cases hB
theorem WB_drop {w : World} {Bs xs : List Nat} (h : WB w Bs xs) (n : Nat) : WB w (Bs.drop n) (xs.drop n) := by
  refine ⟨by rw [List.length_drop, List.length_drop, h.1], fun i B x hB hx => ?_⟩
  rw [List.getElem?_drop] at hB hx
  exact h.2 _ B x hB hx
theorem WB_grown0 {w w1 : World} {Bs xs : List Nat} (h : WB w Bs xs) (hg : w.grownBy w1 none) : WB w1 Bs xs :=
  WB_keep h (fun B x hx => hg.block B (by
    rcases Nat.lt_or_ge B w.heap.size with z | z
    · exact z
    · rw [Array.getElem?_eq_none z] at hx
      cases hx) (fun z => by cases z))
theorem info_words : (Try.prog.info? 81).map (fun i => (i.zero, i.size, i.bytes)) = some (some (.slice none 0 0), 1, 24) := by kernel_rfl
theorem info_byte : (Try.prog.info? 5).map (fun i => (i.zero, i.size, i.bytes)) = some (some (.int .u8 0), 1, 1) := by kernel_rfl
def rowLen : Value → Nat
  | .slice _ n _ => n
  | _ => 0
/-! ### What fec.Encode tells -/
/-- The half bytes of the first k bytes. -/
def nibs (s : ByteArray) (k : Nat) : List Nat := (List.range k).flatMap fun i : Nat => [(bt s (i : Int)).toNat / 16, (bt s (i : Int)).toNat % 16]
theorem nibs_succ (s : ByteArray) (k : Nat) : nibs s (k + 1) = nibs s k ++ [(bt s (k : Int)).toNat / 16, (bt s (k : Int)).toNat % 16] := by
  unfold nibs
  rw [List.range_succ, List.flatMap_append]
  simp
theorem nibs_length (s : ByteArray) (k : Nat) : (nibs s k).length = 2 * k := by
  induction k with
  | zero => simp [nibs]
  | succ k ih => rw [nibs_succ, List.length_append, ih]; simp; omega
/-- Column k of a block of words. -/
def colOf (ws : List Nat) (k : Nat) : List Int := ws.map fun x => (wordBits x).getD k 0
def cols (ws : List Nat) (k : Nat) : List Int := (List.range k).flatMap (colOf ws)
theorem cols_succ (ws : List Nat) (k : Nat) : cols ws (k + 1) = cols ws k ++ colOf ws k := by
  unfold cols
  rw [List.range_succ, List.flatMap_append]
  simp
theorem cols_length (ws : List Nat) (k : Nat) : (cols ws k).length = k * ws.length := by
  induction k with
  | zero => simp [cols]
  | succ k ih => rw [cols_succ, List.length_append, ih, colOf, List.length_map, Nat.succ_mul]
/-- All blocks of d words. -/
def blocks (d : Nat) : Nat → List Nat → List Int
  | 0, _ => []
  | n + 1, ws => if ws = [] then [] else cols (ws.take d) 7 ++ blocks d n (ws.drop d)
def fec_Encode.f (s : ByteArray) (d : Int) : Option (ByteArray × Int) :=
  if s.size > 512 then some ((⟨#[]⟩ : ByteArray), 2)
  else if d < 1 then some ((⟨#[]⟩ : ByteArray), 1)
  else if d > 64 then some ((⟨#[]⟩ : ByteArray), 1)
  else some (strOfNums (blocks d.toNat (2 * s.size) (nibs s s.size)), 0)
set_option maxHeartbeats 2000000 in
set_option maxRecDepth 100000 in
theorem fec_Encode.calls (s : ByteArray) (d : Int) (r1 : ByteArray) (r2 : Int) (w : World) (h : fec_Encode.f s d = some (r1, r2)) :
    Calls Try.prog 55 #[.string s, .int .i64 d] w fun e w' => e = .returned (.tuple #[.string r1, .int .i64 r2]) ∧ Below w.heap.size w w' := by
  unfold fec_Encode.f at h
  by_cases h0 : s.size > 512
  · rw [if_pos h0] at h
    simp only [Option.some.injEq, Prod.mk.injEq] at h
    obtain ⟨rfl, rfl⟩ := h
    have hb0 : decide (512 < (s.size : Int)) = true := decide_eq_true (by omega)
    clear h0
    go_enter Try.func55, Try.ntmps55
    go_wp2
    go_ret2
    exact ⟨rfl, Below.refl _ _⟩
  · rw [if_neg h0] at h
    have hb0 : decide (512 < (s.size : Int)) = false := decide_eq_false (by omega)
    have HS := Aside0.mk (show s.size ≤ 512 from by omega)
    clear h0
    by_cases h1 : d < 1
    · rw [if_pos h1] at h
      simp only [Option.some.injEq, Prod.mk.injEq] at h
      obtain ⟨rfl, rfl⟩ := h
      have hb1 : decide (d < 1) = true := decide_eq_true h1
      clear h1
      go_enter Try.func55, Try.ntmps55
      go_wp2
      go_ret2
      exact ⟨rfl, Below.refl _ _⟩
    · by_cases h2 : d > 64
      · rw [if_neg h1, if_pos h2] at h
        simp only [Option.some.injEq, Prod.mk.injEq] at h
        obtain ⟨rfl, rfl⟩ := h
        have hb1 : decide (d < 1) = false := decide_eq_false h1
        have hb2 : decide (64 < d) = true := decide_eq_true h2
        clear h1 h2
        go_enter Try.func55, Try.ntmps55
        go_wp2
        go_ret2
        exact ⟨rfl, Below.refl _ _⟩
      · rw [if_neg h1, if_neg h2] at h
        simp only [Option.some.injEq, Prod.mk.injEq] at h
        obtain ⟨rfl, rfl⟩ := h
        have hb1 : decide (d < 1) = false := decide_eq_false h1
        have hb2 : decide (64 < d) = false := decide_eq_false h2
        have HD := Aside0.mk (show 1 ≤ d ∧ d ≤ 64 from by omega)
        clear h1 h2
        go_enter Try.func55, Try.ntmps55
        go_wp2
        go_loopw [6, 24] (fun v i w' => ∃ (k : Nat) (Bs : List Nat), k ≤ s.size ∧ i = .int .i64 k ∧ Aside0 (kwd.R 81 w' w.heap.size (fun _ => True) v Bs) ∧ Aside0 (WB w' Bs (nibs s k)) ∧ Aside0 (Below w.heap.size w w')) (fun _ i _ => s.size - (intOf i).toNat)
        case atStart =>
          exact ⟨0, [], Nat.zero_le _, rfl, ⟨Kd.R_nil _ _ _ _ _⟩, ⟨WB_nil _⟩, ⟨Below.refl _ _⟩⟩
        case round =>
          obtain ⟨k, Bs, hk, rfl, HR, HW, HB⟩ := hrel
          by_cases hlt : k < s.size
          · have hlb : decide ((k : Int) < (s.size : Int)) = true := decide_eq_true (by omega)
            have p0 : (0 : Int) ≤ (k : Int) := by omega
            have q0 : (k : Int) < (s.size : Int) := by omega
            obtain ⟨b, hb⟩ : ∃ b : Nat, s[k].toNat = b := ⟨_, rfl⟩
            have HBT := Aside0.mk (show bt s (k : Int) = (b : Int) from by unfold bt; rw [dif_pos (by simpa using hlt)]; simp only [Int.toNat_natCast]; rw [hb])
            have HBL := Aside0.mk (show b < 256 from by rw [← hb]; exact UInt8.toNat_lt _)
            obtain ⟨x1, hx1⟩ : ∃ x : Nat, ((b : Int) / 16) = (x : Int) := ⟨b / 16, by omega⟩
            obtain ⟨x2, hx2⟩ : ∃ x : Nat, Go.bits .and .u8 (b : Int) 15 = (x : Int) := ⟨b % 16, by rw [u8_and15 _ (by omega) (by have := HBL.out; omega)]; omega⟩
            have HX1 := Aside0.mk (show x1 = b / 16 from by omega)
            have HX2 := Aside0.mk (show x2 = b % 16 from by have h_ := hx2; rw [u8_and15 _ (by omega) (by have := HBL.out; omega)] at h_; omega)
            have hw1 : wrap64 (x1 : Int) = (x1 : Int) := by unfold wrap64; have := HX1.out; have := HBL.out; omega
            have hw2 : wrap64 (x2 : Int) = (x2 : Int) := by unfold wrap64; have := HX2.out; have := HBL.out; omega
            go_upto_region 9 with (fail)
            refine start_ (n := 16) (S := fun _ => True) (ds := []) #[false, false, false, false, false, false, false, false, false, false, false, false, false, false, false, false] (by kernel_rfl) rfl rfl trivial (fun _ => ?_)
            refine pure_ (i := 0) (N := some 27) (v := ?_) (a' := ?_) #[true, false, false, false, false, false, false, false, false, false, false, false, false, false, false, false] rfl rfl (by kernel_rfl) (fun _ _ _ h => h) (Or.inl ⟨by rfl, ?_⟩) ?_ ?_
            rotate_left
            · intro w'
              go_simp
              with_reducible rfl
            rotate_left
            · simp only [Act.put, List.setIfInBounds_toArray, List.set_cons_zero, List.set_cons_succ, i64_w, i32_w, hw1, hw2]
              rfl
            refine pure_ (i := 1) (N := some 28) (v := ?_) (a' := ?_) #[true, true, false, false, false, false, false, false, false, false, false, false, false, false, false, false] rfl rfl (by kernel_rfl) (fun _ _ _ h => h) (Or.inl ⟨by rfl, ?_⟩) ?_ ?_
            rotate_left
            · intro w'
              go_simp
              with_reducible rfl
            rotate_left
            · simp only [Act.put, List.setIfInBounds_toArray, List.set_cons_zero, List.set_cons_succ, i64_w, i32_w, hw1, hw2]
              rfl
            refine pure_ (i := 2) (N := some 29) (v := ?_) (a' := ?_) #[true, true, true, false, false, false, false, false, false, false, false, false, false, false, false, false] rfl rfl (by kernel_rfl) (fun _ _ _ h => h) (Or.inl ⟨by rfl, ?_⟩) ?_ ?_
            rotate_left
            · intro w'
              go_simp
              with_reducible rfl
            rotate_left
            · simp only [Act.put, List.setIfInBounds_toArray, List.set_cons_zero, List.set_cons_succ, i64_w, i32_w, hw1, hw2]
              rfl
            refine pure_ (i := 3) (N := some 30) (v := ?_) (a' := ?_) #[true, true, true, true, false, false, false, false, false, false, false, false, false, false, false, false] rfl rfl (by kernel_rfl) (fun _ _ _ h => h) (Or.inl ⟨by rfl, ?_⟩) ?_ ?_
            rotate_left
            · intro w'
              go_simp
              with_reducible rfl
            rotate_left
            · simp only [Act.put, List.setIfInBounds_toArray, List.set_cons_zero, List.set_cons_succ, i64_w, i32_w, hw1, hw2]
              rfl
            refine pure_ (i := 4) (N := some 31) (v := ?_) (a' := ?_) #[true, true, true, true, true, false, false, false, false, false, false, false, false, false, false, false] rfl rfl (by kernel_rfl) (fun _ _ _ h => h) (Or.inl ⟨by rfl, ?_⟩) ?_ ?_
            rotate_left
            · intro w'
              go_simp
              with_reducible rfl
            rotate_left
            · simp only [Act.put, List.setIfInBounds_toArray, List.set_cons_zero, List.set_cons_succ, i64_w, i32_w, hw1, hw2]
              rfl
            refine pure_ (i := 5) (N := some 32) (v := ?_) (a' := ?_) #[true, true, true, true, true, true, false, false, false, false, false, false, false, false, false, false] rfl rfl (by kernel_rfl) (fun _ _ _ h => h) (Or.inl ⟨by rfl, ?_⟩) ?_ ?_
            rotate_left
            · intro w'
              go_simp
              with_reducible rfl
            rotate_left
            · simp only [Act.put, List.setIfInBounds_toArray, List.set_cons_zero, List.set_cons_succ, i64_w, i32_w, hw1, hw2]
              rfl
            refine pure_ (i := 7) (N := some 34) (v := ?_) (a' := ?_) #[true, true, true, true, true, true, false, true, false, false, false, false, false, false, false, false] rfl rfl (by kernel_rfl) (fun _ _ _ h => h) (Or.inl ⟨by rfl, ?_⟩) ?_ ?_
            rotate_left
            · intro w'
              go_simp
              with_reducible rfl
            rotate_left
            · simp only [Act.put, List.setIfInBounds_toArray, List.set_cons_zero, List.set_cons_succ, i64_w, i32_w, hw1, hw2]
              rfl
            refine pure_ (i := 8) (N := some 35) (v := ?_) (a' := ?_) #[true, true, true, true, true, true, false, true, true, false, false, false, false, false, false, false] rfl rfl (by kernel_rfl) (fun _ _ _ h => h) (Or.inl ⟨by rfl, ?_⟩) ?_ ?_
            rotate_left
            · intro w'
              go_simp
              with_reducible rfl
            rotate_left
            · simp only [Act.put, List.setIfInBounds_toArray, List.set_cons_zero, List.set_cons_succ, i64_w, i32_w, hw1, hw2]
              rfl
            refine pure_ (i := 9) (N := some 36) (v := ?_) (a' := ?_) #[true, true, true, true, true, true, false, true, true, true, false, false, false, false, false, false] rfl rfl (by kernel_rfl) (fun _ _ _ h => h) (Or.inl ⟨by rfl, ?_⟩) ?_ ?_
            rotate_left
            · intro w'
              go_simp
              with_reducible rfl
            rotate_left
            · simp only [Act.put, List.setIfInBounds_toArray, List.set_cons_zero, List.set_cons_succ, i64_w, i32_w, hw1, hw2]
              rfl
            refine pure_ (i := 10) (N := some 37) (v := ?_) (a' := ?_) #[true, true, true, true, true, true, false, true, true, true, true, false, false, false, false, false] rfl rfl (by kernel_rfl) (fun _ _ _ h => h) (Or.inl ⟨by rfl, ?_⟩) ?_ ?_
            rotate_left
            · intro w'
              go_simp
              with_reducible rfl
            rotate_left
            · simp only [Act.put, List.setIfInBounds_toArray, List.set_cons_zero, List.set_cons_succ, i64_w, i32_w, hw1, hw2]
              rfl
            refine pure_ (i := 11) (N := some 38) (v := ?_) (a' := ?_) #[true, true, true, true, true, true, false, true, true, true, true, true, false, false, false, false] rfl rfl (by kernel_rfl) (fun _ _ _ h => h) (Or.inl ⟨by rfl, ?_⟩) ?_ ?_
            rotate_left
            · intro w'
              go_simp
              with_reducible rfl
            rotate_left
            · simp only [Act.put, List.setIfInBounds_toArray, List.set_cons_zero, List.set_cons_succ, i64_w, i32_w, hw1, hw2]
              rfl
            refine one_ (i := 6) (N := some 33) #[true, true, true, true, true, true, true, true, true, true, true, true, false, false, false, false] rfl rfl (by kernel_rfl) (by decide) (fun K hK => ?_)
            refine goes_ Try.func59 (by kernel_rfl) rfl #[.int .i64 (x1 : Int)] (by rfl) rfl rfl (by (try simp only [List.map_toArray, List.map_cons, List.map_nil]); first | done | rfl) ?_
            refine (word_any x1 (by have := HX1.out; have := HBL.out; omega) _).mono ?_
            rintro e w1 ⟨B1, rfl, hB1, hc1, hb1⟩
            refine ⟨_, rfl, ?_⟩
            refine hK.out _ _ trivial (fun _ => ?_)
            clear hK K
            refine norm_ (a' := ?_) ?_ ?_
            rotate_left
            · show Act.put _ (some 33) _ = _
              simp only [Act.put, List.setIfInBounds_toArray, List.set_cons_zero, List.set_cons_succ, i64_w, i32_w, hw1, hw2]
              rfl
            refine one_ (i := 12) (N := some 39) #[true, true, true, true, true, true, true, true, true, true, true, true, true, false, false, false] rfl rfl (by kernel_rfl) (by decide) (fun K hK => ?_)
            refine goes_ Try.func59 (by kernel_rfl) rfl #[.int .i64 (x2 : Int)] (by rfl) rfl rfl (by (try simp only [List.map_toArray, List.map_cons, List.map_nil]); first | done | rfl) ?_
            refine (word_any x2 (by have := HX2.out; have := HBL.out; omega) _).mono ?_
            rintro e w2 ⟨B2, rfl, hB2, hc2, hb2⟩
            refine ⟨_, rfl, ?_⟩
            refine hK.out _ _ trivial (fun _ => ?_)
            clear hK K
            refine norm_ (a' := ?_) ?_ ?_
            rotate_left
            · show Act.put _ (some 39) _ = _
              simp only [Act.put, List.setIfInBounds_toArray, List.set_cons_zero, List.set_cons_succ, i64_w, i32_w, hw1, hw2]
              rfl
            refine one_ (i := 13) (N := some 40) #[true, true, true, true, true, true, true, true, true, true, true, true, true, true, false, false] rfl rfl (by kernel_rfl) (by decide) (fun K hK => ?_)
            have HB2' := Aside0.mk (below_step (below_step (below_drew1 HB.out) hb1) hb2)
            have HR2 := Aside0.mk (Kd.R_below (Kd.R_below (Kd.R_drew HR.out) hb1) hb2)
            have HW2 := Aside0.mk (WB_below (WB_below (WB_below HW.out (below_drew1 (Below.refl _ _))) hb1) hb2)
            have HT2 := Aside0.mk (WB_two (x := x1) (y := x2) ((hb2.block B1 (by
              rcases Nat.lt_or_ge B1 w1.heap.size with z | z
              · exact z
              · rw [Array.getElem?_eq_none z] at hc1
                cases hc1)).trans hc1) hc2)
            clear hb1 hb2 hc1 hc2 hB1 hB2 HB HR HW
            refine Kd.R_lit_step kwd (w0 := w) w.heap.size 81 (by rfl) rfl (xs := [B1, B2]) (inner := [encW B1, encW B2]) (ok := fun _ => True) (okp := fun _ => True) ?hrun ?hrep (fun _ _ => trivial) trivial HB2'.out (below_size HB2'.out) (by simp) ?_
            case hrun => first | (go_simp; done) | (go_simp; rfl)
            case hrep => exact Kd.reps_scalar (enc := encW) [B1, B2]
            intro v3 w3 hv3 hb3 hg3 hat3
            refine hK.out _ _ trivial (fun _ => ?_)
            clear hK K
            obtain ⟨A3, c3, rfl⟩ := Kd.R_slice hv3
            refine norm_ (a' := ?_) ?_ ?_
            rotate_left
            · show Act.put _ (some 40) _ = _
              simp only [Act.put, List.setIfInBounds_toArray, List.set_cons_zero, List.set_cons_succ, i64_w, i32_w]
              rfl
            have HR3 := Aside0.mk (Kd.R_grown HR2.out hg3 (fun _ _ z => by cases z))
            have HW3 := Aside0.mk (WB_app (WB_grown0 HW2.out hg3) (WB_grown0 HT2.out hg3))
            have HV3 := Aside0.mk hv3
            have HB3 := Aside0.mk hb3
            have HL3 := Aside0.mk (show Bs.length ≤ 1024 from by rw [HW2.out.1, nibs_length]; have := HS.out; omega)
            clear hv3 hb3 hg3 hat3 HB2' HR2 HW2 HT2
            refine one_ (i := 14) (N := some 41) #[true, true, true, true, true, true, true, true, true, true, true, true, true, true, true, false] rfl rfl (by kernel_rfl) (by decide) (fun K hK => ?_)
            refine Kd.R_append_rows_step kwd (Rr := kwd.K w3) (w0 := w) w.heap.size (by rfl) (.tmp 27) (.tmp 40) 106 81 _ 24 rfl Try.underlying106 info_words rfl (by decide) (by decide) _ Bs [B1, B2] A3 2 c3 (fun _ => True) (fun _ => False) rfl rfl HR3.out (Kd.R_reads' HV3.out).2.2 (fun _ _ h => h) (fun _ h => h.elim) (fun _ _ => trivial) HB3.out (below_size HB3.out) (by have := HL3.out; omega) ?_
            intro v4 w4 hv4 hb4 hg4 hat4
            have HW4 := Aside0.mk (WB_grown HW3.out HR3.out hg4)
            have HR4 := Aside0.mk hv4
            have HB4 := Aside0.mk hb4
            clear HW3 HR3 HV3 HB3 hv4 hb4 hg4 hat4
            refine hK.out _ _ trivial (fun _ => ?_)
            clear hK K
            refine norm_ (a' := ?_) ?_ ?_
            rotate_left
            · show Act.put _ (some 41) _ = _
              simp only [Act.put, List.setIfInBounds_toArray, List.set_cons_zero, List.set_cons_succ, i64_w, i32_w]
              rfl
            refine pure_ (i := 15) (N := some 6) (v := ?_) (a' := ?_) #[true, true, true, true, true, true, true, true, true, true, true, true, true, true, true, true] rfl rfl (by kernel_rfl) (fun _ _ _ h => h) (Or.inl ⟨by rfl, ?_⟩) ?_ ?_
            rotate_left
            · intro w'
              go_simp
              with_reducible rfl
            rotate_left
            · simp only [Act.put, List.setIfInBounds_toArray, List.set_cons_zero, List.set_cons_succ, i64_w, i32_w]
              rfl
            refine done_ (by kernel_rfl) ?_
            clear hx1 hx2 hw1 hw2 hb hlb
            have hkw : wrap64 ((k : Int) + 1) = ((k + 1 : Nat) : Int) := by unfold wrap64; have := HS.out; omega
            go_wp2
            go_roundw
            case rel => exact ⟨k + 1, _, by omega, by rw [hkw], HR4, ⟨by rw [nibs_succ, HBT.out, Int.toNat_natCast, ← HX1.out, ← HX2.out]; exact HW4.out⟩, HB4⟩
            case measure => rw [hkw]; simp only [intOf, Int.toNat_natCast]; omega
          · obtain rfl : k = s.size := by omega
            clear hlt hk
            obtain ⟨cap, hcap, hcp⟩ : ∃ c : Nat, wrap64 (14 * (s.size : Int)) = (c : Int) ∧ c ≤ 7168 := ⟨14 * s.size, by unfold wrap64; have := HS.out; omega, by have := HS.out; omega⟩
            have hmk := fun W : World => run_make_room (P := Try.prog) 81 5 (.int .u8 0) 1 Try.underlying81 info_byte rfl .i64 .i64 cap (by omega) (by omega) W
            have HCP := Aside0.mk hcp
            clear hcp
            obtain ⟨A6, c6, rfl⟩ := Kd.R_slice HR.out
            obtain ⟨W0, hW0⟩ : ∃ W0 : World, W0 = wr := ⟨_, rfl⟩
            subst hW0
            have HC6 := Aside0.mk (Kd.R_reads' HR.out).2.2
            have HL6 := Aside0.mk (Kd.R_reads' HR.out).2.1
            have HN6 := Aside0.mk (nibs_length s s.size)
            go_wp2
            generalize hW : W0.alloc (Obj.cells (madeCells #[Value.int IntKind.u8 0] cap) 5) = w5
            have HB5 := Aside0.mk (show Below W0.heap.size W0 w5 from hW ▸ below_alloc (Below.refl _ _) _)
            have HO5 := Aside0.mk (show (Kd.int .u8).R 5 w5 W0.heap.size (fun _ => True) (.slice (some ⟨W0.heap.size, 0, none⟩) 0 cap) [] from hW ▸ Kd.R_of_own (World.ownsRow_made W0 _ cap (Nat.le_refl _) (by have := HCP.out; simp [maxLen]; omega) ((size_madeCells _ _).trans (Nat.mul_one cap).symm)) (fun _ _ => trivial))
            have HBW := Aside0.mk HB.out
            have HC5 := Aside0.mk HC6.out
            have HW5 := Aside0.mk HW.out
            clear hW hmk hcap HC6 HW HR HB
            obtain ⟨tot, htot⟩ : ∃ tot : List Int, tot = blocks d.toNat (2 * s.size) (nibs s s.size) := ⟨_, rfl⟩
            have HTT := Aside0.mk htot
            clear htot
            go_loopw [6, 8] (fun v o w' => ∃ (m : Nat) (Bs xs : List Nat) (acc : List Int) (A : Option Addr) (c : Nat), v = .slice A Bs.length c ∧ Aside0 (Bs.length ≤ c) ∧ Aside0 (Bs.length ≤ m ∧ m ≤ 1024 ∧ acc.length + 7 * Bs.length ≤ 10000) ∧ Aside0 (kwd.C W0 A Bs.length Bs) ∧ Aside0 (WB W0 Bs xs) ∧ Aside0 ((Kd.int .u8).R 5 w' W0.heap.size (fun _ => True) o acc) ∧ Aside0 (acc ++ blocks d.toNat m xs = tot) ∧ Aside0 (Below W0.heap.size W0 w')) (fun v _ _ => rowLen v)
            case atStart =>
              exact ⟨2 * s.size, Bs, nibs s s.size, [], A6, c6, rfl, HL6, ⟨by rw [HW5.out.1, HN6.out]; have := HS.out; simp; omega⟩, HC5, HW5, HO5, ⟨HTT.out.symm⟩, HB5⟩
            case round =>
              obtain ⟨m, Bs, xs, acc, A, c, rfl, HLc, HLm, HC, HW, HO, HT, HB⟩ := hrel
              by_cases h0 : Bs.length = 0
              · have hxs : xs = [] := List.eq_nil_of_length_eq_zero (by rw [← HW.out.1]; exact h0)
                have hacc : acc = tot := by
                  have h_ := HT.out
                  rw [hxs] at h_
                  cases m with
                  | zero => simpa [blocks] using h_
                  | succ m => simpa [blocks] using h_
                clear hxs
                have hz0 : decide (0 < Bs.length) = false := decide_eq_false (by omega)
                have HA := Aside0.mk (hacc.trans HTT.out)
                clear hacc h0
                obtain ⟨A8, c8, rfl⟩ := Kd.R_slice HO.out
                have hcv := string_of_reads (P := Try.prog) (src := 81) (dst := 9) (c := c8) Try.underlying81 Try.underlying5 Try.underlying9 (Kd.reads_of_C (enc := Value.int .u8) (d := (0 : Int)) (h1 := fun _ => rfl) (Kd.R_reads' HO.out).2.2)
                go_wp2
                go_ret2
                exact ⟨congrArg (fun l => Ending.returned (Value.tuple #[.string (strOfNums l), .int .i64 0])) HA.out, below_step HBW.out HB.out⟩
              · obtain ⟨j, hmn, hj1, hj2, hjd⟩ : ∃ j : Nat, (if (Bs.length : Int) < d then (Bs.length : Int) else d) = (j : Int) ∧ 1 ≤ j ∧ j ≤ Bs.length ∧ Bs.take j = Bs.take d.toNat ∧ xs.take j = xs.take d.toNat ∧ Bs.drop j = Bs.drop d.toNat ∧ xs.drop j = xs.drop d.toNat := by
                  have hd := HD.out
                  have hl := HW.out.1
                  by_cases hc : (Bs.length : Int) < d
                  · refine ⟨Bs.length, if_pos hc, by omega, Nat.le_refl _, ?_, ?_, ?_, ?_⟩
                    · rw [List.take_of_length_le (Nat.le_refl _), List.take_of_length_le (by omega)]
                    · rw [List.take_of_length_le (by omega), List.take_of_length_le (by omega)]
                    · rw [List.drop_eq_nil_of_le (Nat.le_refl _), List.drop_eq_nil_of_le (by omega)]
                    · rw [List.drop_eq_nil_of_le (by omega), List.drop_eq_nil_of_le (by omega)]
                  · exact ⟨d.toNat, by rw [if_neg hc]; omega, by omega, by omega, rfl, rfl, rfl, rfl⟩
                have HJ := Aside0.mk hjd
                have HJ12 := Aside0.mk (And.intro hj1 hj2)
                have hz0 : decide (0 < Bs.length) = true := decide_eq_true (by omega)
                obtain ⟨iw, hiw, hiwz⟩ := Option.map_eq_some_iff.1 info_words
                have hsz1 : iw.size = 1 := by simp only [Prod.mk.injEq] at hiwz; exact hiwz.2.1
                have hcut : ∀ W : World, (Instr.slice 106 (.slice A Bs.length c) none (some (.int .i64 (j : Int))) none).run Try.prog W = .ok (.slice A j c) W := by
                  have h_ := cut_to (P := Try.prog) 106 81 .i64 Try.underlying106 hiw A Bs.length c (j : Int) (by omega) (by omega) HLc.out
                  rw [Int.toNat_natCast] at h_
                  exact h_
                obtain ⟨A', hA'⟩ : ∃ A' : Option Addr, (if c = j then A else A.map (·.add (j * 1))) = A' := ⟨_, rfl⟩
                have hcf : ∀ W : World, (Instr.slice 106 (.slice A Bs.length c) (some (.int .i64 (j : Int))) none none).run Try.prog W = .ok (.slice A' (Bs.length - j) (c - j)) W := by
                  have h_ := cut_from (P := Try.prog) 106 81 .i64 Try.underlying106 hiw 1 hsz1 A Bs.length c (j : Int) (by omega) (by omega)
                  rw [Int.toNat_natCast, hA'] at h_
                  exact h_
                have HCT := Aside0.mk (Kd.C_take (m := j) HC.out hj2)
                have HCD := Aside0.mk (show kwd.C W0 A' (Bs.drop j).length (Bs.drop j) from hA' ▸ Kd.C_drop (m := j) (c := c) HC.out hj2 HLc.out)
                clear hA' hsz1 hiwz hiw hjd hj1 hj2 h0
                go_wp2
                obtain ⟨acc0, hacc0⟩ : ∃ l : List Int, l = acc := ⟨_, rfl⟩
                have HA0 := Aside0.mk hacc0
                have HX := Aside0.mk (WB_take HW.out j)
                have HLA := Aside0.mk (show acc0.length + 7 * Bs.length ≤ 10000 ∧ Bs.length ≤ 1024 from by rw [hacc0]; have := HLm.out; omega)
                have HLT := Aside0.mk (show (xs.take j).length = j from by rw [← HX.out.1, List.length_take]; have := HJ12.out; omega)
                have HO0 := Aside0.mk (show (Kd.int .u8).R 5 _ W0.heap.size (fun _ => True) _ acc0 from hacc0 ▸ HO.out)
                clear hacc0
                go_loopw [8, 60] (fun o kk w' => ∃ (k : Nat) (acc : List Int), k ≤ 7 ∧ kk = .int .i64 k ∧ Aside0 (acc = acc0 ++ cols (xs.take j) k) ∧ Aside0 ((Kd.int .u8).R 5 w' W0.heap.size (fun _ => True) o acc) ∧ Aside0 (Below W0.heap.size W0 w')) (fun _ kk _ => 7 - (intOf kk).toNat)
                case atStart => exact ⟨0, acc0, by omega, rfl, ⟨by simp [cols]⟩, HO0, HB⟩
                case round =>
                  clear HO0 HX HB HO HC
                  obtain ⟨k, acc, hk, rfl, HA, HO, HB⟩ := hrel
                  by_cases hk7 : k < 7
                  · have hkb : decide ((k : Int) < 7) = true := decide_eq_true (by omega)
                    go_wp2
                    go_loopw [8, 65] (fun o ii w' => ∃ (q : Nat) (acc' : List Int), q ≤ j ∧ ii = .int .i64 q ∧ Aside0 (acc' = acc ++ (colOf (xs.take j) k).take q) ∧ Aside0 ((Kd.int .u8).R 5 w' W0.heap.size (fun _ => True) o acc') ∧ Aside0 (Below W0.heap.size W0 w')) (fun _ ii _ => j - (intOf ii).toNat)
                    case atStart => exact ⟨0, acc, by omega, rfl, ⟨by simp⟩, HO, HB⟩
                    case round =>
                      clear HO HB
                      obtain ⟨q, acc', hq, rfl, HA', HO, HB⟩ := hrel
                      by_cases hqj : q < j
                      · have hqb : decide ((q : Int) < (j : Int)) = true := decide_eq_true (by omega)
                        have hqb' : decide (q < j) = true := decide_eq_true hqj
                        have HLB := Aside0.mk (show (Bs.take j).length = j from by rw [List.length_take]; have := HJ12.out; omega)
                        obtain ⟨ad, rfl, hcell⟩ := (Kd.reads_of_C (enc := encW) (d := (0 : Nat)) (h1 := fun _ => rfl) (Kd.C_below HCT.out HB.out)).2.2 (by rw [HLB.out]; omega)
                        have hc1 := hcell q (by rw [HLB.out]; exact hqj)
                        clear hcell
                        have hwx : _ := (WB_below (WB_take HW.out j) HB.out).2 q ((Bs.take j).getD q 0) ((xs.take j).getD q 0) (by rw [List.getD_eq_getElem?_getD, List.getElem?_eq_getElem (by rw [HLB.out]; exact hqj)]; rfl) (by rw [List.getD_eq_getElem?_getD, List.getElem?_eq_getElem (by rw [HLT.out]; exact hqj)]; rfl)
                        obtain ⟨ad2, he2, hcell2⟩ := (word_reads hwx).2.2 (by omega)
                        obtain rfl := Option.some.inj he2
                        have hc2 := hcell2 k hk7
                        rw [add_plain] at hc2
                        clear hcell2 he2 hwx
                        obtain ⟨e, he⟩ : ∃ e : Int, (wordBits ((xs.take j).getD q 0)).getD k 0 = e := ⟨_, rfl⟩
                        rw [he] at hc2
                        have HE := Aside0.mk (show (colOf (xs.take j) k).take (q + 1) = (colOf (xs.take j) k).take q ++ [e] from by
                          have hl : q < (colOf (xs.take j) k).length := by rw [colOf, List.length_map, HLT.out]; exact hqj
                          rw [List.take_succ_eq_append_getElem hl]
                          congr 2
                          rw [← he]
                          simp only [colOf, List.getElem_map]
                          rw [List.getD_eq_getElem?_getD (l := xs.take j), List.getElem?_eq_getElem (by rw [HLT.out]; exact hqj)]
                          rfl)
                        clear he
                        obtain ⟨B, hB⟩ : ∃ B : Nat, (Bs.take j).getD q 0 = B := ⟨_, rfl⟩
                        rw [hB] at hc1 hc2
                        replace hc1 : World.cell? _ (ad.add q) = some (Value.slice (some ⟨B, 0, none⟩) 7 7) := hc1
                        clear hB
                        have p7 : (0 : Int) ≤ (k : Int) := by omega
                        have q7 : (k : Int) < (7 : Int) := by omega
                        have q7' : (k : Int) < ((7 : Nat) : Int) := by omega
                        have HLQ := Aside0.mk (show acc'.length ≤ 100000 from by
                          have h1_ : acc'.length ≤ acc.length + q := by rw [HA'.out, List.length_append, List.length_take]; omega
                          have h2_ : acc.length = acc0.length + k * j := by rw [HA.out, List.length_append, cols_length, HLT.out]
                          have h3_ : k * j ≤ 7 * j := Nat.mul_le_mul_right _ hk
                          have := HLA.out
                          have := HJ12.out
                          omega)
                        go_wp2_with (first | ((with_reducible refine gate_builtin (b := .append) (xs := #[.tmp 69, .tmp 74]) rfl ?_); at_builtin; refine Kd.R_append (Kd.int .u8) (w0 := W0) W0.heap.size rfl (.tmp 69) (.tmp 74) 81 5 (.int .u8 0) 1 rfl Try.underlying81 info_byte rfl (by decide) (by omega) u8 acc' e [.int .u8 e] (fun _ => True) (fun _ => False) rfl rfl ?aP (fun _ hk => hk.elim) (fun _ _ => trivial) HO.out HB.out (below_size HB.out) ?aL ?_; (case aP => exact rfl); (case aL => have := HLQ.out; omega); intro v1 w1 ho hb hg hat; have HO1 := Aside0.mk ho; have HB1 := Aside0.mk hb; have HG1 := Aside0.mk hg; clear ho hb hg hat))
                        have HQ := Aside0.mk (show wrap64 ((q : Int) + 1) = ((q + 1 : Nat) : Int) from by unfold wrap64; have := HLA.out; have := HJ12.out; omega)
                        go_roundw
                        case rel => exact ⟨q + 1, _, by omega, by rw [HQ.out], ⟨by rw [HE.out, ← List.append_assoc, ← HA'.out]⟩, HO1, HB1⟩
                        case measure => rw [HQ.out]; simp only [intOf, Int.toNat_natCast]; omega
                      · obtain rfl : j = q := by omega
                        clear hqj hq
                        go_wp2
                        go_roundw
                        case rel => exact ⟨k + 1, _, by omega, rfl, ⟨by rw [HA'.out, HA.out, cols_succ, List.append_assoc, List.take_of_length_le (l := colOf (xs.take j) k) (by rw [colOf, List.length_map, HLT.out]; exact Nat.le_refl _)]⟩, HO, HB⟩
                        case measure => simp only [intOf]; omega
                  · obtain rfl : k = 7 := by omega
                    clear hk7 hk
                    go_wp2
                    go_roundw
                    case rel =>
                      obtain ⟨m', rfl⟩ : ∃ m', m = m' + 1 := ⟨m - 1, by have := HLm.out; have := HJ12.out; omega⟩
                      have hne : xs ≠ [] := fun z => by
                        have h_ := HW.out.1
                        rw [z] at h_
                        have := HJ12.out
                        simp at h_
                        rw [h_] at this
                        simp at this
                        omega
                      have hT := HT.out
                      rw [blocks, if_neg hne, ← HJ.out.2.1, ← HJ.out.2.2.2, ← HA0.out, ← List.append_assoc, ← HA.out] at hT
                      refine ⟨m', Bs.drop j, xs.drop j, acc, A', c - j, by rw [List.length_drop], ⟨by rw [List.length_drop]; have := HLc.out; omega⟩, ⟨?_⟩, HCD, ⟨WB_drop HW.out j⟩, HO, ⟨hT⟩, HB⟩
                      have h1_ : acc.length = acc0.length + 7 * j := by rw [HA.out, List.length_append, cols_length, HLT.out]
                      rw [List.length_drop, h1_]
                      have := HLm.out
                      have := HLA.out
                      have := HJ12.out
                      omega
                    case measure =>
                      simp only [rowLen]
                      have := HJ12.out
                      omega
end Go.Proofs.Ytkdncfbbhbmaaaa.Ext
