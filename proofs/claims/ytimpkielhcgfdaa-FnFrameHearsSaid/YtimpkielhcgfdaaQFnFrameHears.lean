/- The law FnFrameHears returns true for all bytes that a draw is made of: a drawn frame that hears from home has what it is told, or gives up what it had, and what is to write is told back. More than 2^20 bytes are not asked for. -/
import Derived.Test.YtimpkielhcgfdaaMFnFrameHears
import Derived.Laws.BitsLemmas
namespace Go.Abs
open Go.RowKit
set_option linter.unusedVariables false
set_option linter.unusedSimpArgs false

theorem w64 {n : Int} (h0 : -9223372036854775808 ≤ n) (h1 : n ≤ 9223372036854775807) : IntKind.wrap .i64 n = n := by
  rw [IntKind.wrap_i64]
  omega
theorem succ_fuel {n d : Nat} (h : d < n) : ∃ m, n = m + 1 := ⟨n - 1, by omega⟩
theorem big : (1048577 : Nat) < N := by decide
theorem mem_getD {α : Type} (x : List α) (d : α) (i : Int) (h0 : 0 ≤ i) (h1 : i < x.length) : x.getD i.toNat d ∈ x := by
  have hlt : i.toNat < x.length := by omega
  rw [List.getD_eq_getElem?_getD, List.getElem?_eq_getElem hlt]
  exact List.getElem_mem hlt
theorem drop_getD {α : Type} (x : List α) (d : α) (i : Int) (h0 : 0 ≤ i) (h1 : i < x.length) : x.drop i.toNat = x.getD i.toNat d :: x.drop (i + 1).toNat := by
  have hlt : i.toNat < x.length := by omega
  have e : (i + 1).toNat = i.toNat + 1 := by omega
  rw [e, List.drop_eq_getElem_cons hlt, List.getD_eq_getElem?_getD, List.getElem?_eq_getElem hlt]
  rfl
theorem to_gen {α : Type} {d : α} {F : Nat → List α → Int → List α → Option (List α)} {g : α → Option α}
    (hs : ∀ n x i y, F (n + 1) x i y = bif decide (i < (x.length : Int)) then (bif (decide ((0 : Int) ≤ i) && decide (i < (x.length : Int))) then (g (x.getD i.toNat d)).bind fun e => (bif (decide ((0 : Int) ≤ i) && decide (i < (y.length : Int))) then F n x (IntKind.wrap .i64 (i + 1)) (y.set i.toNat e) else none) else none) else some y)
    (x : List α) (hn : x.length ≤ 1048576) (hg : ∀ e ∈ x, g e = some e) (k : Nat) : ∀ (n : Nat) (y : List α) (i : Int), 0 ≤ i → i ≤ x.length → (x.length : Int) - i = k → k < n → y.length = x.length → y.take i.toNat = x.take i.toNat → F n x i y = some x := by
  induction k with
  | zero =>
    intro n y i h0 h1 hd hk hl ht
    obtain ⟨n, rfl⟩ := succ_fuel hk
    rw [hs, decide_eq_false (by omega), cond_false]
    rw [List.take_of_length_le (by omega), List.take_of_length_le (by omega)] at ht
    rw [ht]
  | succ k ih =>
    intro n y i h0 h1 hd hk hl ht
    obtain ⟨n, rfl⟩ := succ_fuel hk
    have hw : IntKind.wrap .i64 (i + 1) = i + 1 := w64 (by omega) (by omega)
    have hlt : i.toNat < x.length := by omega
    rw [hs, decide_eq_true (show i < (x.length : Int) by omega), decide_eq_true h0, decide_eq_true (show i < (y.length : Int) by omega), hw, hg _ (mem_getD x d i h0 (by omega))]
    simp only [cond_true, Bool.and_self, Option.bind_some]
    refine ih n _ (i + 1) (by omega) (by omega) (by omega) (by omega) (by rw [List.length_set]; exact hl) ?_
    have e : (i + 1).toNat = i.toNat + 1 := by omega
    rw [e, List.take_add_one, List.take_add_one, List.take_set, List.getElem?_set_self (by omega), List.getElem?_eq_getElem hlt]
    have : x.getD i.toNat d = x[i.toNat] := by rw [List.getD_eq_getElem?_getD, List.getElem?_eq_getElem hlt]; rfl
    rw [this, List.set_eq_of_length_le (by rw [List.length_take]; omega), ht]
theorem eq_gen {α : Type} {d : α} {F : Nat → List α → List α → Bool → Int → Option (Bool ⊕ Bool)} {q : α → α → Option Bool}
    (hs : ∀ n x y b i, F (n + 1) x y b i = bif decide (i < (x.length : Int)) then (bif (decide ((0 : Int) ≤ i) && decide (i < (x.length : Int))) then (bif (decide ((0 : Int) ≤ i) && decide (i < (y.length : Int))) then (q (x.getD i.toNat d) (y.getD i.toNat d)).bind fun r => (bif (!r) then some (.inl false) else F n x y b (IntKind.wrap .i64 (i + 1))) else none) else none) else some (.inr b))
    (x : List α) (hn : x.length ≤ 1048576) (hq : ∀ e ∈ x, q e e = some true) (b : Bool) (k : Nat) : ∀ (n : Nat) (i : Int), 0 ≤ i → i ≤ x.length → (x.length : Int) - i = k → k < n → F n x x b i = some (.inr b) := by
  induction k with
  | zero =>
    intro n i h0 h1 hd hk
    obtain ⟨n, rfl⟩ := succ_fuel hk
    rw [hs, decide_eq_false (by omega), cond_false]
  | succ k ih =>
    intro n i h0 h1 hd hk
    obtain ⟨n, rfl⟩ := succ_fuel hk
    have hw : IntKind.wrap .i64 (i + 1) = i + 1 := w64 (by omega) (by omega)
    rw [hs, decide_eq_true (show i < (x.length : Int) by omega), decide_eq_true h0, hw, hq _ (mem_getD x d i h0 (by omega))]
    simp only [cond_true, Bool.and_self, Option.bind_some, Bool.not_true, cond_false]
    exact ih n (i + 1) (by omega) (by omega) (by omega) (by omega)
theorem sz_gen {α : Type} {d : α} {F : Nat → List α → Int → Int → Int → Option (Int ⊕ (Int × Int))} {s : α → Int → Option Int} {Ok : α → Prop}
    (hs : ∀ n x l q i, F (n + 1) x l q i = bif decide (i < (x.length : Int)) then (bif (decide ((0 : Int) ≤ i) && decide (i < (x.length : Int))) then (s (x.getD i.toNat d) l).bind fun r => (bif decide (r < 0) then some (.inl (-1)) else F n x r q (IntKind.wrap .i64 (i + 1))) else none) else some (.inr (l, q)))
    (x : List α) (hn : x.length ≤ 1048576) (he : ∀ e ∈ x, ∀ l, 0 ≤ l → l ≤ 1048576 → s e l = some (-1) ∨ ∃ l', s e l = some l' ∧ 0 ≤ l' ∧ l' ≤ l ∧ Ok e) (q : Int) (k : Nat) :
    ∀ (n : Nat) (l i : Int), 0 ≤ l → l ≤ 1048576 → 0 ≤ i → i ≤ x.length → (x.length : Int) - i = k → k < n → F n x l q i = some (.inl (-1)) ∨ ∃ l', F n x l q i = some (.inr (l', q)) ∧ 0 ≤ l' ∧ l' ≤ l ∧ ∀ e ∈ x.drop i.toNat, Ok e := by
  induction k with
  | zero =>
    intro n l i hl0 hl1 h0 h1 hd hk
    obtain ⟨n, rfl⟩ := succ_fuel hk
    rw [hs, decide_eq_false (show ¬ i < (x.length : Int) by omega), cond_false, List.drop_eq_nil_of_le (by omega)]
    exact .inr ⟨l, rfl, hl0, Int.le_refl _, fun e h => by cases h⟩
  | succ k ih =>
    intro n l i hl0 hl1 h0 h1 hd hk
    obtain ⟨n, rfl⟩ := succ_fuel hk
    have hw : IntKind.wrap .i64 (i + 1) = i + 1 := w64 (by omega) (by omega)
    rw [hs, decide_eq_true (show i < (x.length : Int) by omega), decide_eq_true h0, hw]
    simp only [cond_true, Bool.and_self]
    rcases he _ (mem_getD x d i h0 (by omega)) l hl0 hl1 with h | ⟨l', h, a0, a1, a2⟩
    · rw [h]; exact .inl rfl
    · rw [h, Option.bind_some, decide_eq_false (show ¬ l' < 0 by omega), cond_false]
      rcases ih n l' (i + 1) a0 (by omega) (by omega) (by omega) (by omega) (by omega) with h2 | ⟨l2, h2, b0, b1, b2⟩
      · exact .inl h2
      · refine .inr ⟨l2, h2, b0, by omega, fun e hm => ?_⟩
        rw [drop_getD x d i h0 (by omega)] at hm
        rcases List.mem_cons.1 hm with rfl | hm
        · exact a2
        · exact b2 e hm
theorem lt_N {x : Nat} (h : x ≤ 1048576) : x < N := Nat.lt_of_le_of_lt h (Nat.lt_trans (by omega) big)
def rng (x m : Int) : Bool := decide ((0 : Int) ≤ x) && decide (x ≤ m)
theorem in_rng (x m : Int) : f_spec_l1In x 0 m = some (rng x m) := by
  unfold f_spec_l1In rng
  cases decide ((0 : Int) ≤ x) <;> rfl
theorem from_rng (x m : Int) : f_impl_from x 0 m = some (rng x m) := by
  unfold f_impl_from rng
  cases decide ((0 : Int) ≤ x) <;> rfl
def rg (x a b : Int) : Bool := decide (a ≤ x) && decide (x ≤ b)
theorem in_rg (x a b : Int) : f_spec_l1In x a b = some (rg x a b) := by
  unfold f_spec_l1In rg
  cases decide (a ≤ x) <;> rfl
theorem from_rg (x a b : Int) : f_impl_from x a b = some (rg x a b) := by
  unfold f_impl_from rg
  cases decide (a ≤ x) <;> rfl
def allW (x : List Int) : Bool := x.all fun w => rng w 65535
theorem drop_step (x : List Int) (i : Int) (h0 : 0 ≤ i) (h1 : i < x.length) : x.drop i.toNat = x.getD i.toNat 0 :: x.drop (i + 1).toNat := by
  have hlt : i.toNat < x.length := by omega
  have e : (i + 1).toNat = i.toNat + 1 := by omega
  rw [e, List.drop_eq_getElem_cons hlt, List.getD_eq_getElem?_getD, List.getElem?_eq_getElem hlt]
  rfl
theorem specWords_loop (x : List Int) (hn : x.length ≤ 1048576) (k : Int) (b : Bool) (d : Nat) : ∀ (n : Nat) (i : Int), 0 ≤ i → i ≤ x.length → (x.length : Int) - i = d → d < n →
    f_spec_l1Words.l0 n x k b i = some (bif allW (x.drop i.toNat) then .inr (x, k, b) else .inl false) := by
  induction d with
  | zero =>
    intro n i h0 h1 hd hk
    obtain ⟨n, rfl⟩ := succ_fuel hk
    simp only [f_spec_l1Words.l0]
    rw [decide_eq_false (by omega), cond_false, List.drop_eq_nil_of_le (by omega)]
    rfl
  | succ d ih =>
    intro n i h0 h1 hd hk
    obtain ⟨n, rfl⟩ := succ_fuel hk
    have hw : IntKind.wrap .i64 (i + 1) = i + 1 := w64 (by omega) (by omega)
    simp only [f_spec_l1Words.l0]
    rw [decide_eq_true (show i < (x.length : Int) by omega), decide_eq_true h0, hw, in_rng, drop_step x i h0 (by omega)]
    simp only [cond_true, Bool.and_self, Option.bind_some]
    unfold allW
    rw [List.all_cons]
    cases hr : rng (x.getD i.toNat 0) 65535 with
    | false => rfl
    | true =>
      simp only [Bool.not_true, cond_false, Bool.true_and]
      exact ih n (i + 1) (by omega) (by omega) (by omega) (by omega)
theorem specWords (x : List Int) (hn : x.length ≤ 1048576) (k : Int) : f_spec_l1Words x k = some (allW x && decide ((x.length : Int) = k)) := by
  unfold f_spec_l1Words
  rw [specWords_loop x hn k false x.length N 0 (by omega) (by omega) (by omega) (Nat.lt_of_le_of_lt (by omega) big)]
  simp only [Int.toNat_zero, List.drop_zero, Option.bind_some]
  cases allW x <;> rfl
theorem implWords_loop (x : List Int) (hn : x.length ≤ 1048576) (q : Int) (d : Nat) : ∀ (n : Nat) (i : Int), 0 ≤ i → i ≤ x.length → (x.length : Int) - i = d → d < n →
    (allW (x.drop i.toNat) = true ∧ f_impl_wordsOk.l0 n x q (x.length : Int) i = some (.inr q)) ∨ (allW (x.drop i.toNat) = false ∧ ∃ j : Int, 0 ≤ j ∧ f_impl_wordsOk.l0 n x q (x.length : Int) i = some (.inl j)) := by
  induction d with
  | zero =>
    intro n i h0 h1 hd hk
    obtain ⟨n, rfl⟩ := succ_fuel hk
    simp only [f_impl_wordsOk.l0]
    rw [decide_eq_false (show ¬ i < (x.length : Int) by omega), cond_false, List.drop_eq_nil_of_le (by omega)]
    exact .inl ⟨rfl, rfl⟩
  | succ d ih =>
    intro n i h0 h1 hd hk
    obtain ⟨n, rfl⟩ := succ_fuel hk
    have hw : IntKind.wrap .i64 (i + 1) = i + 1 := w64 (by omega) (by omega)
    have ih2 := ih n (i + 1) (by omega) (by omega) (by omega) (by omega)
    simp only [f_impl_wordsOk.l0]
    rw [decide_eq_true (show i < (x.length : Int) by omega), decide_eq_true h0, hw, drop_step x i h0 (by omega)]
    unfold f_impl_wordsOk_1 f_impl_isWord
    simp only [cond_true, Bool.and_self, from_rng, Option.bind_some]
    unfold allW at ih2 ⊢
    rw [List.all_cons]
    cases hr : rng (x.getD i.toNat 0) 65535 with
    | false => exact .inr ⟨rfl, i, h0, rfl⟩
    | true =>
      simp only [Bool.not_true, cond_false, Bool.true_and]
      exact ih2
theorem implWords (x : List Int) (hn : x.length ≤ 1048576) (k : Int) : f_impl_wordsOk x k = some (allW x && decide ((x.length : Int) = k)) := by
  unfold f_impl_wordsOk
  have h := implWords_loop x hn 0 x.length N 0 (by omega) (by omega) (by omega) (Nat.lt_of_le_of_lt (by omega) big)
  simp only [Int.toNat_zero, List.drop_zero] at h
  cases decide ((x.length : Int) = k) with
  | false => simp
  | true =>
    rcases h with ⟨h1, h2⟩ | ⟨h1, j, h3, h2⟩
    · simp only [cond_true, h2, Option.bind_some, h1, Bool.and_true]; rfl
    · simp only [cond_true, h2, Option.bind_some, h1, Bool.and_true]
      show some (!(decide ((0 : Int) ≤ j))) = some false
      rw [decide_eq_true h3]; rfl
theorem same_frameOk (x0 : Int) (x1 : List Int) (x2 : Bool) (hn : x1.length ≤ 1048576) : ∃ b, f_spec_FrameOk x0 x1 x2 = some b ∧ f_impl_FrameOk x0 x1 x2 = some b := by
  unfold f_spec_FrameOk f_impl_FrameOk
  simp only [specWords x1 hn, implWords x1 hn, in_rng, Option.bind_some]
  by_cases h0 : x0 = 0
  · rw [decide_eq_true h0]; exact ⟨_, rfl, rfl⟩
  · rw [decide_eq_false h0]
    by_cases h1 : x0 = 1
    · subst h1; exact ⟨_, rfl, rfl⟩
    · by_cases h2 : x0 = 2
      · subst h2; exact ⟨_, rfl, rfl⟩
      · have hr : rng x0 2 = false := by
          unfold rng
          by_cases h3 : 0 ≤ x0
          · rw [decide_eq_true h3, decide_eq_false (by omega)]; rfl
          · rw [decide_eq_false h3]; rfl
        rw [hr, decide_eq_false h1, decide_eq_false h2]
        exact ⟨_, rfl, rfl⟩
theorem allW_nil (x : List Int) : (allW x && decide ((x.length : Int) = 0)) = decide ((x.length : Int) = 0) := by
  cases x with
  | nil => rfl
  | cons a x =>
    rw [decide_eq_false (by simp; omega), Bool.and_false]
theorem same_msgOk (x0 x1 : Int) (x2 : Bool) (x3 : List Int) (hn : x3.length ≤ 1048576) : ∃ b, f_spec_MsgOk x0 x1 x2 x3 = some b ∧ f_impl_MsgOk x0 x1 x2 x3 = some b := by
  unfold f_spec_MsgOk f_impl_MsgOk f_impl_isPage
  simp only [specWords x3 hn, implWords x3 hn, in_rg, from_rg, Option.bind_some, allW_nil]
  by_cases h3 : x0 = 3
  · subst h3
    rw [show rg 3 1 7 = true from rfl]
    cases rg x1 0 5 <;> cases x2 <;> exact ⟨_, rfl, rfl⟩
  · by_cases h7 : x0 = 7
    · subst h7
      rw [show rg 7 1 7 = true from rfl]
      cases rg x1 0 5 <;> cases x2 <;> exact ⟨_, rfl, rfl⟩
    · by_cases h6 : x0 = 6
      · subst h6
        rw [show rg 6 1 7 = true from rfl]
        cases rg x1 0 5 <;> cases x2 <;> exact ⟨_, rfl, rfl⟩
      · rw [decide_eq_false h3, decide_eq_false h7, decide_eq_false h6]
        cases rg x0 1 7 <;> cases rg x1 0 5 <;> cases x2 <;> exact ⟨_, rfl, rfl⟩
theorem msgOk_facts (k p : Int) (c : Bool) (w : List Int) (hn : w.length ≤ 1048576) (h : f_spec_MsgOk k p c w = some true) : 1 ≤ k ∧ k ≤ 7 ∧ 0 ≤ p ∧ p ≤ 5 ∧ allW w = true ∧ w.length = (if k = 3 ∨ k = 7 then 4 else 0) := by
  unfold f_spec_MsgOk at h
  simp only [specWords w hn, in_rg, Option.bind_some] at h
  have key : rg k 1 7 = true ∧ rg p 0 5 = true ∧ allW w = true ∧ (w.length : Int) = (if k = 3 ∨ k = 7 then 4 else 0) := by
    by_cases h3 : k = 3
    · subst h3
      rw [show rg 3 1 7 = true from rfl] at h ⊢
      cases hp : rg p 0 5 <;> simp [hp] at h ⊢
      exact ⟨h.1, by omega⟩
    · by_cases h7 : k = 7
      · subst h7
        rw [show rg 7 1 7 = true from rfl] at h ⊢
        cases hp : rg p 0 5 <;> cases c <;> simp [hp] at h ⊢
        exact ⟨h.1, by omega⟩
      · rw [decide_eq_false h3, decide_eq_false h7] at h
        cases hr : rg k 1 7 <;> cases hp : rg p 0 5 <;> cases hk : decide (k = 6) <;> cases c <;> simp [hr, hp, hk, h3, h7] at h ⊢ <;> exact ⟨h.1, h.2⟩
  obtain ⟨k1, k2, k3, k4⟩ := key
  unfold rg at k1 k2
  simp only [Bool.and_eq_true, decide_eq_true_eq] at k1 k2
  refine ⟨k1.1, k1.2, k2.1, k2.2, k3, ?_⟩
  by_cases hk : k = 3 ∨ k = 7
  · rw [if_pos hk] at k4 ⊢; omega
  · rw [if_neg hk] at k4 ⊢; omega
theorem same_frameHear (x0 : Int) (x1 : List Int) (x2 : Bool) (x3 x4 : Int) (x5 : Bool) (x6 : List Int) (h1 : x1.length ≤ 1048576) (h6 : x6.length ≤ 1048576) : ∃ r, f_spec_FrameHear x0 x1 x2 x3 x4 x5 x6 = some r ∧ f_impl_FrameHear x0 x1 x2 x3 x4 x5 x6 = some r ∧ r.2.1.length ≤ 1048576 ∧ r.2.2.2.2.2.2.1.length ≤ 1048576 := by
  obtain ⟨b, e1, e2⟩ := same_frameOk x0 x1 x2 h1
  obtain ⟨b', f1, f2⟩ := same_msgOk x3 x4 x5 x6 h6
  unfold f_spec_FrameHear f_impl_FrameHear f_spec_l3Copy f_impl_copyFrame f_slices_Clone_int_int f_spec_l1Bit
  simp only [List.length_nil, Nat.zero_add, (blt_iff _ _).2 (show x1.length < 17592186044416 by omega), (blt_iff _ _).2 (show x6.length < 17592186044416 by omega), cond_true, List.nil_append, Option.bind_some, e1, e2, f1, f2]
  cases b with
  | false => exact ⟨_, rfl, rfl, h1, by simp⟩
  | true =>
    cases b' with
    | false => exact ⟨_, rfl, rfl, h1, by simp⟩
    | true =>
      simp only [Bool.not_true, cond_false]
      cases decide (x3 = 3) with
      | true =>
        cases x5 with
        | true => exact ⟨(2, x6, false, 0, 0, false, [], false), by simp only [cond_true, Option.bind_some, w64 (show (-9223372036854775808 : Int) ≤ 1 + 1 by omega) (by omega)]; rfl, rfl, h6, by simp⟩
        | false => exact ⟨(1, x6, false, 0, 0, false, [], false), by simp only [cond_true, cond_false, Option.bind_some, w64 (show (-9223372036854775808 : Int) ≤ 1 + 0 by omega) (by omega)]; rfl, rfl, h6, by simp⟩
      | false =>
        simp only [cond_false]
        cases decide (x3 = 4) with
        | true => exact ⟨_, rfl, rfl, by simp, by simp⟩
        | false =>
          simp only [cond_false]
          cases decide (x3 = 6) with
          | false => exact ⟨_, rfl, rfl, h1, by simp⟩
          | true =>
            simp only [cond_true]
            cases decide (x0 = 2) with
            | false => exact ⟨_, rfl, rfl, h1, by simp⟩
            | true =>
              cases x5 with
              | true => exact ⟨_, rfl, rfl, by simp, h1⟩
              | false => exact ⟨_, rfl, rfl, h1, h1⟩
theorem sameInts_loop (x : List Int) (hn : x.length ≤ 1048576) (b : Bool) (d : Nat) : ∀ (n : Nat) (i : Int), 0 ≤ i → i ≤ x.length → (x.length : Int) - i = d → d < n → f_laws_sameInts.l0 n x x b i = some (.inr b) := by
  induction d with
  | zero =>
    intro n i h0 h1 hd hk
    obtain ⟨n, rfl⟩ := succ_fuel hk
    simp only [f_laws_sameInts.l0]
    rw [decide_eq_false (by omega), cond_false]
  | succ d ih =>
    intro n i h0 h1 hd hk
    obtain ⟨n, rfl⟩ := succ_fuel hk
    have hw : IntKind.wrap .i64 (i + 1) = i + 1 := w64 (by omega) (by omega)
    simp only [f_laws_sameInts.l0]
    rw [decide_eq_true (show i < (x.length : Int) by omega), decide_eq_true h0, hw]
    simp only [cond_true, Bool.and_self, decide_true, Bool.not_true, cond_false]
    exact ih n (i + 1) (by omega) (by omega) (by omega) (by omega)
theorem sameInts (x : List Int) (hn : x.length ≤ 1048576) : f_laws_sameInts x x = some true := by
  unfold f_laws_sameInts
  simp only [decide_true, Bool.not_true, cond_false]
  rw [sameInts_loop x hn false x.length N 0 (by omega) (by omega) (by omega) (Nat.lt_of_le_of_lt (by omega) big)]
  rfl
theorem and8 (n : Int) : bitI .and .i64 n 255 = n % 256 := by
  have h : (BitVec.ofInt 64 n &&& BitVec.ofInt 64 255).toNat = (n % 18446744073709551616).toNat % 256 := by
    rw [BitVec.toNat_and, BitVec.toNat_ofInt]
    show (n % 18446744073709551616).toNat &&& (2 ^ 8 - 1) = _
    rw [Nat.and_two_pow_sub_one_eq_mod]
  show IntKind.wrap .i64 ((BitVec.ofInt 64 n &&& BitVec.ofInt 64 255).toNat : Int) = _
  rw [h, w64 (by omega) (by omega)]
  omega
theorem draw_byte (x : List Int) (hn : x.length ≤ 1048576) (p s : Int) (hp : 0 ≤ p) : ∃ b p' s', f_spec_l1Byte x p s = some (b, p', s') ∧ 0 ≤ b ∧ b ≤ 255 ∧ 0 ≤ p' := by
  unfold f_spec_l1Byte
  simp only [and8]
  by_cases h : p < (x.length : Int)
  · rw [decide_eq_true h, decide_eq_true hp, w64 (show -9223372036854775808 ≤ p + 1 by omega) (by omega)]
    exact ⟨_, _, _, rfl, by omega, by omega, by omega⟩
  · rw [decide_eq_false h]
    exact ⟨_, _, _, rfl, by omega, by omega, hp⟩
theorem draw_below (x : List Int) (hn : x.length ≤ 1048576) (p s n : Int) (hp : 0 ≤ p) : ∃ r p' s', f_spec_l1Below x p s n = some (r, p', s') ∧ 0 ≤ p' ∧ 0 ≤ r ∧ (0 < n → r < n) ∧ (n ≤ 0 → r = 0) := by
  unfold f_spec_l1Below
  by_cases h0 : n ≤ 0
  · rw [decide_eq_true h0]
    exact ⟨_, _, _, rfl, hp, Int.le_refl _, fun h => by omega, fun _ => rfl⟩
  · rw [decide_eq_false h0, cond_false, decide_eq_false (show ¬ n = 0 by omega)]
    have hm : ∀ b, 0 ≤ b → 0 ≤ Int.tmod b n ∧ Int.tmod b n < n := fun b hb => by
      rw [Int.tmod_eq_emod_of_nonneg hb]
      exact ⟨Int.emod_nonneg _ (by omega), Int.emod_lt_of_pos _ (by omega)⟩
    by_cases h1 : n ≤ 256
    · obtain ⟨b, p', s', e, b0, b1, q⟩ := draw_byte x hn p s hp
      rw [decide_eq_true h1, e]
      exact ⟨_, _, _, rfl, q, (hm b b0).1, fun _ => (hm b b0).2, fun h => absurd h h0⟩
    · obtain ⟨b, p1, s1, e1, b0, b1, q1⟩ := draw_byte x hn p s hp
      obtain ⟨c, p2, s2, e2, c0, c1, q2⟩ := draw_byte x hn p1 s1 q1
      obtain ⟨d, p3, s3, e3, d0, d1, q3⟩ := draw_byte x hn p2 s2 q2
      obtain ⟨e, p4, s4, e4, f0, f1, q4⟩ := draw_byte x hn p3 s3 q3
      rw [decide_eq_false h1, cond_false, e1, Option.bind_some]
      simp only [e2, e3, e4, Option.bind_some, cond_false]
      rw [w64 (show -9223372036854775808 ≤ b * 16777216 by omega) (by omega), w64 (show -9223372036854775808 ≤ c * 65536 by omega) (by omega), w64 (show -9223372036854775808 ≤ d * 256 by omega) (by omega), w64 (show -9223372036854775808 ≤ b * 16777216 + c * 65536 by omega) (by omega), w64 (show -9223372036854775808 ≤ b * 16777216 + c * 65536 + d * 256 by omega) (by omega), w64 (show -9223372036854775808 ≤ b * 16777216 + c * 65536 + d * 256 + e by omega) (by omega)]
      have := hm (b * 16777216 + c * 65536 + d * 256 + e) (by omega)
      exact ⟨_, _, _, rfl, q4, this.1, fun _ => this.2, fun h => absurd h h0⟩
/-- The head of a draw: the bytes that it was handed, and a number out of them. -/
theorem draw_new {τ : Type} {F : Nat → List Int → Int → Int → Option τ} {G : List Int → Int → τ}
    (hs : ∀ n x s i, F (n + 1) x s i = bif (decide (i < (x.length : Int))) then bif (decide (i < (4000 : Int))) then bif ((decide ((0 : Int) ≤ i)) && (decide (i < (x.length : Int)))) then
      F n x (bitI .and .i64 (IntKind.wrap .i64 ((IntKind.wrap .i64 ((IntKind.wrap .i64 (s * (131 : Int))) + (IntKind.wrap .i64 ((x.getD i.toNat 0))))) + (7 : Int))) (1073741823 : Int)) (IntKind.wrap .i64 (i + (1 : Int))) else none else some (G x s) else some (G x s))
    (x : List Int) (hn : x.length ≤ 1048576) : ∀ s, ∃ s', F N x s 0 = some (G x s') := by
  have key : ∀ (k n : Nat) (s i : Int), 0 ≤ i → (x.length : Int) - i ≤ k → k < n → ∃ s', F n x s i = some (G x s') := by
    intro k
    induction k with
    | zero =>
      intro n s i h0 h1 hk
      obtain ⟨n, rfl⟩ := succ_fuel hk
      rw [hs, decide_eq_false (by omega)]
      exact ⟨_, rfl⟩
    | succ k ih =>
      intro n s i h0 h1 hk
      obtain ⟨n, rfl⟩ := succ_fuel hk
      rw [hs]
      by_cases h : i < (x.length : Int)
      · rw [decide_eq_true h, decide_eq_true h0, w64 (show -9223372036854775808 ≤ i + 1 by omega) (by omega)]
        cases decide (i < 4000)
        · exact ⟨_, rfl⟩
        · exact ih n _ (i + 1) (by omega) (by omega) (by omega)
      · rw [decide_eq_false h]; exact ⟨_, rfl⟩
  intro s
  exact key x.length N s 0 (Int.le_refl _) (by omega) (Nat.lt_of_le_of_lt hn (Nat.lt_trans (by omega) big))
theorem draw_pick (x : List Int) (hn : x.length ≤ 1048576) (p s : Int) (hp : 0 ≤ p) (l : List Int) (hl : 0 < (l.length : Int)) : ∃ e p' s', f_spec_l1PickInt x p s l = some (e, p', s') ∧ e ∈ l ∧ 0 ≤ p' := by
  unfold f_spec_l1PickInt
  obtain ⟨r, p', s', e, q, r0, r1, -⟩ := draw_below x hn p s (l.length : Int) hp
  rw [e, Option.bind_some]
  have r2 := r1 hl
  have hlt : r.toNat < l.length := by omega
  simp only [decide_eq_true r0, decide_eq_true r2, Bool.and_self, cond_true]
  refine ⟨_, _, _, rfl, ?_, q⟩
  rw [List.getD_eq_getElem?_getD, List.getElem?_eq_getElem hlt]
  exact List.getElem_mem hlt
theorem draw_once (x : List Int) (hn : x.length ≤ 1048576) (p s n : Int) (hp : 0 ≤ p) : ∃ b p' s', f_spec_l1Once x p s n = some (b, p', s') ∧ 0 ≤ p' := by
  unfold f_spec_l1Once
  obtain ⟨r, p', s', e, q, -⟩ := draw_below x hn p s n hp
  rw [e]
  exact ⟨_, _, _, rfl, q⟩
theorem drawList_loop (x : List Int) (hn : x.length ≤ 1048576) : ∀ (k n : Nat) (i p s : Int) (y : List Int), 0 ≤ i → 4 - i = k → k < n → 0 ≤ p → (y.length : Int) = i →
    ∃ p' s' y', f_spec_l1DrawList.l0 n i x p s y = some (x, p', s', y') ∧ 0 ≤ p' ∧ y'.length = 4 := by
  intro k
  induction k with
  | zero =>
    intro n i p s y h0 hk hn' hp hy
    obtain ⟨n, rfl⟩ := succ_fuel hn'
    simp only [f_spec_l1DrawList.l0, decide_eq_false (show ¬ i < 4 by omega), cond_false]
    exact ⟨_, _, _, rfl, hp, by omega⟩
  | succ k ih =>
    intro n i p s y h0 hk hn' hp hy
    obtain ⟨n, rfl⟩ := succ_fuel hn'
    obtain ⟨v, p1, s1, e1, -, q1⟩ := draw_pick x hn p s hp ([0, 1, 5, 300, 65535] : List Int) (by simp)
    simp only [f_spec_l1DrawList.l0, decide_eq_true (show i < 4 by omega), cond_true, e1, Option.bind_some, (blt_iff _ _).2 (show y.length + ([v] : List Int).length < 17592186044416 by simp; omega), w64 (show -9223372036854775808 ≤ i + 1 by omega) (by omega)]
    exact ih n (i + 1) p1 s1 _ (by omega) (by omega) (by omega) q1 (by rw [List.length_append]; simp; omega)
theorem drawList (x : List Int) (hn : x.length ≤ 1048576) (p s : Int) (hp : 0 ≤ p) : ∃ y p' s', f_spec_l1DrawList x p s = some (y, p', s') ∧ 0 ≤ p' ∧ y.length = 4 := by
  unfold f_spec_l1DrawList
  obtain ⟨p2, s2, y, e2, q2, hy⟩ := drawList_loop x hn 4 N 0 p s [] (Int.le_refl _) rfl (Nat.lt_of_lt_of_le (by omega) (Nat.le_of_lt big)) hp rfl
  rw [e2]
  exact ⟨_, _, _, rfl, q2, hy⟩
theorem drawFrameRight (x : List Int) (hn : x.length ≤ 1048576) (p s : Int) (hp : 0 ≤ p) : ∃ a y b p' s', f_spec_l3DrawRight x p s = some (a, y, b, p', s') ∧ 0 ≤ p' ∧ y.length ≤ 4 := by
  unfold f_spec_l3DrawRight
  obtain ⟨r, p1, s1, e1, q1, -⟩ := draw_below x hn p s 3 hp
  obtain ⟨b, p2, s2, e2, q2⟩ := draw_once x hn p1 s1 3 q1
  obtain ⟨y, p3, s3, e3, q3, hy⟩ := drawList x hn p2 s2 q2
  rw [e1, Option.bind_some]
  simp only [e2, e3, Option.bind_some]
  cases decide (r = 0)
  · exact ⟨_, _, _, _, _, rfl, q3, by omega⟩
  · exact ⟨_, _, _, _, _, rfl, q2, by simp⟩
theorem drawFrame (x : List Int) (hn : x.length ≤ 1048576) (p s : Int) (hp : 0 ≤ p) : ∃ a y b p' s', f_spec_l3Draw x p s = some (a, y, b, p', s') ∧ 0 ≤ p' ∧ y.length ≤ 5 := by
  unfold f_spec_l3Draw
  obtain ⟨a, y, b, p1, s1, e1, q1, hy⟩ := drawFrameRight x hn p s hp
  obtain ⟨t, p2, s2, e2, q2, -⟩ := draw_below x hn p1 s1 12 q1
  obtain ⟨u, p3, s3, e3, q3, -⟩ := draw_below x hn p2 s2 5 q2
  rw [e1, Option.bind_some]
  simp only [e2, e3, Option.bind_some, (blt_iff _ _).2 (show y.length + ([3] : List Int).length < 17592186044416 by simp; omega), cond_true]
  cases decide (t = 0)
  · cases decide (t = 1)
    · cases decide (t = 2)
      · exact ⟨_, _, _, _, _, rfl, q2, by omega⟩
      · exact ⟨_, _, _, _, _, rfl, q2, by simp⟩
    · exact ⟨_, _, _, _, _, rfl, q2, by rw [List.length_append]; simp; omega⟩
  · exact ⟨_, _, _, _, _, rfl, q3, by omega⟩
theorem drawMsgRight (x : List Int) (hn : x.length ≤ 1048576) (p s : Int) (hp : 0 ≤ p) : ∃ a b c y p' s', f_spec_l1DrawRight x p s = some (a, b, c, y, p', s') ∧ 0 ≤ p' ∧ y.length ≤ 4 := by
  unfold f_spec_l1DrawRight
  obtain ⟨r, p1, s1, e1, q1, -⟩ := draw_below x hn p s 7 hp
  obtain ⟨r2, p2, s2, e2, q2, -⟩ := draw_below x hn p1 s1 6 q1
  obtain ⟨b, p3, s3, e3, q3⟩ := draw_once x hn p2 s2 2 q2
  obtain ⟨y4, p4, s4, e4, q4, hy4⟩ := drawList x hn p3 s3 q3
  obtain ⟨y5, p5, s5, e5, q5, hy5⟩ := drawList x hn p2 s2 q2
  rw [e1, Option.bind_some]
  simp only [e2, e3, e4, e5, Option.bind_some]
  cases decide (IntKind.wrap .i64 (1 + r) = 3) <;> cases decide (IntKind.wrap .i64 (1 + r) = 6) <;> cases decide (IntKind.wrap .i64 (1 + r) = 7) <;> simp only [cond_true, cond_false] <;>
    first | exact ⟨_, _, _, _, _, _, rfl, q4, by omega⟩ | exact ⟨_, _, _, _, _, _, rfl, q5, by omega⟩ | exact ⟨_, _, _, _, _, _, rfl, q3, by simp⟩ | exact ⟨_, _, _, _, _, _, rfl, q2, by simp⟩
theorem drawMsg (x : List Int) (hn : x.length ≤ 1048576) (p s : Int) (hp : 0 ≤ p) : ∃ a b c y p' s', f_spec_l1Draw x p s = some (a, b, c, y, p', s') ∧ 0 ≤ p' ∧ y.length ≤ 5 := by
  unfold f_spec_l1Draw
  obtain ⟨a, b, c, y, p1, s1, e1, q1, hy⟩ := drawMsgRight x hn p s hp
  obtain ⟨r2, p2, s2, e2, q2, -⟩ := draw_below x hn p1 s1 12 q1
  obtain ⟨r3, p3, s3, e3, q3, -⟩ := draw_below x hn p2 s2 9 q2
  obtain ⟨r4, p4, s4, e4, -, q4⟩ := draw_pick x hn p2 s2 q2 ([-1, 6] : List Int) (by simp)
  obtain ⟨r5, p5, s5, e5, -, q5⟩ := draw_pick x hn p2 s2 q2 ([-1, 3, 65536] : List Int) (by simp)
  rw [e1, Option.bind_some]
  simp only [e2, e3, e4, e5, Option.bind_some, List.length_singleton, (blt_iff _ _).2 (show y.length + 1 < 17592186044416 by omega), cond_true]
  cases decide (r2 = 0)
  · cases decide (r2 = 1)
    · cases decide (r2 = 2)
      · cases decide (r2 = 3)
        · exact ⟨_, _, _, _, _, _, rfl, q2, by omega⟩
        · exact ⟨_, _, _, _, _, _, rfl, q5, by rw [List.length_append, List.length_singleton]; omega⟩
      · exact ⟨_, _, _, _, _, _, rfl, q2, by omega⟩
    · exact ⟨_, _, _, _, _, _, rfl, q4, by omega⟩
  · exact ⟨_, _, _, _, _, _, rfl, q3, by omega⟩
theorem drawFrameHear (x : List Int) (hn : x.length ≤ 1048576) : ∃ a y b k p c w, f_spec_DrawFrameHear x = some (a, y, b, k, p, c, w) ∧ y.length ≤ 5 ∧ w.length ≤ 5 := by
  unfold f_spec_DrawFrameHear
  obtain ⟨s', h⟩ := draw_new (F := fun n x s i => f_spec_DrawFrameHear.l0 n x s i 0 false 0 0 false) (G := fun x s => (x, s, 0, false, 0, 0, false)) (fun _ _ _ _ => rfl) x hn (IntKind.wrap .i64 ((20404 : Int) + (x.length : Int)))
  obtain ⟨a, y, b, p1, s1, e1, q1, hy⟩ := drawFrame x hn 0 s' (Int.le_refl _)
  obtain ⟨k, p, c, w, p2, s2, e2, q2, hw⟩ := drawMsg x hn p1 s1 q1
  rw [h, Option.bind_some]
  simp only [e1, e2, Option.bind_some]
  exact ⟨_, _, _, _, _, _, _, rfl, hy, hw⟩
theorem frameOk_facts (a : Int) (y : List Int) (b : Bool) (hy : y.length ≤ 1048576) (h : f_spec_FrameOk a y b = some true) : (a = 0 ∧ y = []) ∨ ((a = 1 ∨ a = 2) ∧ y.length = 4 ∧ allW y = true) := by
  unfold f_spec_FrameOk at h
  simp only [specWords y hy, in_rng, Option.bind_some] at h
  by_cases h0 : a = 0
  · rw [decide_eq_true h0] at h
    simp only [cond_true, Option.some.injEq, decide_eq_true_eq] at h
    exact .inl ⟨h0, List.eq_nil_of_length_eq_zero (by omega)⟩
  · rw [decide_eq_false h0] at h
    cases hr : rng a 2 with
    | false => rw [hr] at h; cases h
    | true =>
      rw [hr] at h
      simp only [cond_false, cond_true, Option.some.injEq, Bool.and_eq_true, decide_eq_true_eq] at h
      unfold rng at hr
      simp only [Bool.and_eq_true, decide_eq_true_eq] at hr
      exact .inr ⟨by omega, by omega, h.1⟩
theorem frameOk_words (a : Int) (y : List Int) (b : Bool) (ha : a = 1 ∨ a = 2) (hy : y.length = 4) (hw : allW y = true) : f_impl_FrameOk a y b = some true := by
  unfold f_impl_FrameOk
  rw [implWords y (by omega), hw, decide_eq_true (show (y.length : Int) = 4 by omega)]
  rcases ha with rfl | rfl <;> rfl
theorem msgOk_5 (p : Int) (h0 : 0 ≤ p) (h1 : p ≤ 5) : f_impl_MsgOk 5 p false [] = some true := by
  unfold f_impl_MsgOk f_impl_isPage
  have e : rg p 0 5 = true := by unfold rg; rw [decide_eq_true h0, decide_eq_true h1]; rfl
  simp only [from_rg, e, Option.bind_some]
  rfl
theorem msgOk_7 (p : Int) (h0 : 0 ≤ p) (h1 : p ≤ 5) (y : List Int) (hy : y.length = 4) (hw : allW y = true) : f_impl_MsgOk 7 p false y = some true := by
  unfold f_impl_MsgOk f_impl_isPage
  have e : rg p 0 5 = true := by unfold rg; rw [decide_eq_true h0, decide_eq_true h1]; rfl
  simp only [from_rg, e, Option.bind_some, implWords y (by omega), hw, decide_eq_true (show (y.length : Int) = 4 by omega)]
  rfl
theorem frameHears (x0 : List Int) : f_laws_FnFrameHears x0 = some true := by
  unfold f_laws_FnFrameHears f_laws_big
  by_cases hb : (1048576 : Int) < (x0.length : Int)
  · rw [decide_eq_true hb]; rfl
  rw [decide_eq_false hb]
  have hn : x0.length ≤ 1048576 := by omega
  obtain ⟨a, y, b, k, p, c, w, e1, hy, hw⟩ := drawFrameHear x0 hn
  obtain ⟨r, r1, r2, r3, r4⟩ := same_frameHear a y b k p c w (by omega) (by omega)
  obtain ⟨o, o1, o2⟩ := same_frameOk a y b (by omega)
  obtain ⟨m, m1, m2⟩ := same_msgOk k p c w (by omega)
  simp only [Option.bind_some, cond_false, e1, r1, r2, beq_self_eq_true, Bool.not_true, decide_true, sameInts r.2.1 r3, sameInts r.2.2.2.2.2.2.1 r4, o1, m1]
  have r5 := r2
  unfold f_impl_FrameHear f_impl_copyFrame f_slices_Clone_int_int at r5
  simp only [Nat.zero_add, (blt_iff _ _).2 (show y.length < 17592186044416 by omega), (blt_iff _ _).2 (show w.length < 17592186044416 by omega), cond_true, Option.bind_some, o2, m2] at r5
  cases o with
  | false =>
    cases r5
    simp only [Bool.not_false, cond_true, sameInts y (by omega), Option.bind_some]
  | true =>
    cases m with
    | false =>
      cases r5
      simp only [Bool.not_true, Bool.not_false, cond_true, cond_false, sameInts y (by omega), Option.bind_some]
    | true =>
      obtain ⟨k0, k1, p0, p1, w0, w1⟩ := msgOk_facts k p c w (by omega) m1
      have hfo := frameOk_facts a y b (by omega) o1
      simp only [Bool.not_true, cond_false] at r5 ⊢
      by_cases h3 : k = 3
      · rw [decide_eq_true h3] at r5 ⊢
        rw [if_pos (.inl h3)] at w1
        have hfw : ∀ t b', t = 1 ∨ t = 2 → f_impl_FrameOk t w b' = some true := fun t b' ht => frameOk_words t w b' ht w1 w0
        cases c with
        | true =>
          cases r5
          simp only [cond_false, hfw 2 false (.inr rfl), Option.bind_some, cond_true, Bool.not_true, sameInts w (by omega), Bool.not_false]
        | false =>
          cases r5
          simp only [cond_false, hfw 1 false (.inl rfl), Option.bind_some, cond_true, Bool.not_true, sameInts w (by omega), Bool.not_false]
      · rw [decide_eq_false h3] at r5 ⊢
        simp only [cond_false] at r5
        have back : f_impl_FrameOk a y b = some true := o2
        by_cases h4 : k = 4
        · rw [decide_eq_true h4] at r5
          cases r5
          simp only [cond_true, msgOk_5 p p0 p1, Option.bind_some, Bool.not_true, cond_false]
          rfl
        · rw [decide_eq_false h4] at r5
          simp only [cond_false] at r5
          by_cases h6 : k = 6
          · rw [decide_eq_true h6] at r5
            simp only [cond_true] at r5
            by_cases h2 : a = 2
            · rw [decide_eq_true h2] at r5
              have hy4 : y.length = 4 ∧ allW y = true := by
                rcases hfo with ⟨h, -⟩ | ⟨-, h, h'⟩
                · omega
                · exact ⟨h, h'⟩
              cases c with
              | true =>
                cases r5
                simp only [cond_true, msgOk_7 p p0 p1 y hy4.1 hy4.2, Option.bind_some, Bool.not_true, cond_false, decide_true, sameInts y (by omega)]
                rfl
              | false =>
                cases r5
                simp only [cond_true, msgOk_7 p p0 p1 y hy4.1 hy4.2, Option.bind_some, Bool.not_true, cond_false, decide_true, sameInts y (by omega), frameOk_words 1 y b (.inl rfl) hy4.1 hy4.2]
                rfl
            · rw [decide_eq_false h2] at r5
              cases r5
              simp only [cond_false, back, Option.bind_some, cond_true]
              rfl
          · rw [decide_eq_false h6] at r5
            cases r5
            simp only [cond_false, back, Option.bind_some, cond_true]
            rfl
theorem plain : Pure := fun x _ => frameHears x
end Go.Abs
