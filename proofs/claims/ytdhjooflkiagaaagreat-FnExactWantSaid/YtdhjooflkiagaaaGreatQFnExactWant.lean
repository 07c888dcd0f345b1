/- The law FnExactWant returns true for every node: the program's Want gives what the reference's gives, in rows of its own, and turns nothing that it was handed. A node of more than 2^20 things is not asked for. -/
import Derived.Test.YtdhjooflkiagaaaGreatMFnExactWant
import Derived.Laws.BitsLemmas
namespace Go.Abs
open Go.RowKit
set_option linter.unusedVariables false
set_option linter.unusedSimpArgs false

theorem w64 {n : Int} (h0 : -9223372036854775808 ≤ n) (h1 : n ≤ 9223372036854775807) : IntKind.wrap .i64 n = n := by
  rw [IntKind.wrap_i64]
  omega
theorem succ_fuel {n d : Nat} (h : d < n) : ∃ m, n = m + 1 := ⟨n - 1, by omega⟩
theorem big : (1048577 : Nat) < N := by decide
theorem mem_getD {α : Type} (x : List α) (d : α) (i : Int) (h0 : 0 ≤ i) (h1 : i < x.length) : x.getD i.toNat d ∈ x := by
  have hlt : i.toNat < x.length := by omega
  rw [List.getD_eq_getElem?_getD, List.getElem?_eq_getElem hlt]
  exact List.getElem_mem hlt
theorem drop_getD {α : Type} (x : List α) (d : α) (i : Int) (h0 : 0 ≤ i) (h1 : i < x.length) : x.drop i.toNat = x.getD i.toNat d :: x.drop (i + 1).toNat := by
  have hlt : i.toNat < x.length := by omega
  have e : (i + 1).toNat = i.toNat + 1 := by omega
  rw [e, List.drop_eq_getElem_cons hlt, List.getD_eq_getElem?_getD, List.getElem?_eq_getElem hlt]
  rfl
theorem to_gen {α : Type} {d : α} {F : Nat → List α → Int → List α → Option (List α)} {g : α → Option α}
    (hs : ∀ n x i y, F (n + 1) x i y = bif decide (i < (x.length : Int)) then (bif (decide ((0 : Int) ≤ i) && decide (i < (x.length : Int))) then (g (x.getD i.toNat d)).bind fun e => (bif (decide ((0 : Int) ≤ i) && decide (i < (y.length : Int))) then F n x (IntKind.wrap .i64 (i + 1)) (y.set i.toNat e) else none) else none) else some y)
    (x : List α) (hn : x.length ≤ 1048576) (hg : ∀ e ∈ x, g e = some e) (k : Nat) : ∀ (n : Nat) (y : List α) (i : Int), 0 ≤ i → i ≤ x.length → (x.length : Int) - i = k → k < n → y.length = x.length → y.take i.toNat = x.take i.toNat → F n x i y = some x := by
  induction k with
  | zero =>
    intro n y i h0 h1 hd hk hl ht
    obtain ⟨n, rfl⟩ := succ_fuel hk
    rw [hs, decide_eq_false (by omega), cond_false]
    rw [List.take_of_length_le (by omega), List.take_of_length_le (by omega)] at ht
    rw [ht]
  | succ k ih =>
    intro n y i h0 h1 hd hk hl ht
    obtain ⟨n, rfl⟩ := succ_fuel hk
    have hw : IntKind.wrap .i64 (i + 1) = i + 1 := w64 (by omega) (by omega)
    have hlt : i.toNat < x.length := by omega
    rw [hs, decide_eq_true (show i < (x.length : Int) by omega), decide_eq_true h0, decide_eq_true (show i < (y.length : Int) by omega), hw, hg _ (mem_getD x d i h0 (by omega))]
    simp only [cond_true, Bool.and_self, Option.bind_some]
    refine ih n _ (i + 1) (by omega) (by omega) (by omega) (by omega) (by rw [List.length_set]; exact hl) ?_
    have e : (i + 1).toNat = i.toNat + 1 := by omega
    rw [e, List.take_add_one, List.take_add_one, List.take_set, List.getElem?_set_self (by omega), List.getElem?_eq_getElem hlt]
    have : x.getD i.toNat d = x[i.toNat] := by rw [List.getD_eq_getElem?_getD, List.getElem?_eq_getElem hlt]; rfl
    rw [this, List.set_eq_of_length_le (by rw [List.length_take]; omega), ht]
theorem eq_gen {α : Type} {d : α} {F : Nat → List α → List α → Bool → Int → Option (Bool ⊕ Bool)} {q : α → α → Option Bool}
    (hs : ∀ n x y b i, F (n + 1) x y b i = bif decide (i < (x.length : Int)) then (bif (decide ((0 : Int) ≤ i) && decide (i < (x.length : Int))) then (bif (decide ((0 : Int) ≤ i) && decide (i < (y.length : Int))) then (q (x.getD i.toNat d) (y.getD i.toNat d)).bind fun r => (bif (!r) then some (.inl false) else F n x y b (IntKind.wrap .i64 (i + 1))) else none) else none) else some (.inr b))
    (x : List α) (hn : x.length ≤ 1048576) (hq : ∀ e ∈ x, q e e = some true) (b : Bool) (k : Nat) : ∀ (n : Nat) (i : Int), 0 ≤ i → i ≤ x.length → (x.length : Int) - i = k → k < n → F n x x b i = some (.inr b) := by
  induction k with
  | zero =>
    intro n i h0 h1 hd hk
    obtain ⟨n, rfl⟩ := succ_fuel hk
    rw [hs, decide_eq_false (by omega), cond_false]
  | succ k ih =>
    intro n i h0 h1 hd hk
    obtain ⟨n, rfl⟩ := succ_fuel hk
    have hw : IntKind.wrap .i64 (i + 1) = i + 1 := w64 (by omega) (by omega)
    rw [hs, decide_eq_true (show i < (x.length : Int) by omega), decide_eq_true h0, hw, hq _ (mem_getD x d i h0 (by omega))]
    simp only [cond_true, Bool.and_self, Option.bind_some, Bool.not_true, cond_false]
    exact ih n (i + 1) (by omega) (by omega) (by omega) (by omega)
theorem sz_gen {α : Type} {d : α} {F : Nat → List α → Int → Int → Int → Option (Int ⊕ (Int × Int))} {s : α → Int → Option Int} {Ok : α → Prop}
    (hs : ∀ n x l q i, F (n + 1) x l q i = bif decide (i < (x.length : Int)) then (bif (decide ((0 : Int) ≤ i) && decide (i < (x.length : Int))) then (s (x.getD i.toNat d) l).bind fun r => (bif decide (r < 0) then some (.inl (-1)) else F n x r q (IntKind.wrap .i64 (i + 1))) else none) else some (.inr (l, q)))
    (x : List α) (hn : x.length ≤ 1048576) (he : ∀ e ∈ x, ∀ l, 0 ≤ l → l ≤ 1048576 → s e l = some (-1) ∨ ∃ l', s e l = some l' ∧ 0 ≤ l' ∧ l' ≤ l ∧ Ok e) (q : Int) (k : Nat) :
    ∀ (n : Nat) (l i : Int), 0 ≤ l → l ≤ 1048576 → 0 ≤ i → i ≤ x.length → (x.length : Int) - i = k → k < n → F n x l q i = some (.inl (-1)) ∨ ∃ l', F n x l q i = some (.inr (l', q)) ∧ 0 ≤ l' ∧ l' ≤ l ∧ ∀ e ∈ x.drop i.toNat, Ok e := by
  induction k with
  | zero =>
    intro n l i hl0 hl1 h0 h1 hd hk
    obtain ⟨n, rfl⟩ := succ_fuel hk
    rw [hs, decide_eq_false (show ¬ i < (x.length : Int) by omega), cond_false, List.drop_eq_nil_of_le (by omega)]
    exact .inr ⟨l, rfl, hl0, Int.le_refl _, fun e h => by cases h⟩
  | succ k ih =>
    intro n l i hl0 hl1 h0 h1 hd hk
    obtain ⟨n, rfl⟩ := succ_fuel hk
    have hw : IntKind.wrap .i64 (i + 1) = i + 1 := w64 (by omega) (by omega)
    rw [hs, decide_eq_true (show i < (x.length : Int) by omega), decide_eq_true h0, hw]
    simp only [cond_true, Bool.and_self]
    rcases he _ (mem_getD x d i h0 (by omega)) l hl0 hl1 with h | ⟨l', h, a0, a1, a2⟩
    · rw [h]; exact .inl rfl
    · rw [h, Option.bind_some, decide_eq_false (show ¬ l' < 0 by omega), cond_false]
      rcases ih n l' (i + 1) a0 (by omega) (by omega) (by omega) (by omega) (by omega) with h2 | ⟨l2, h2, b0, b1, b2⟩
      · exact .inl h2
      · refine .inr ⟨l2, h2, b0, by omega, fun e hm => ?_⟩
        rw [drop_getD x d i h0 (by omega)] at hm
        rcases List.mem_cons.1 hm with rfl | hm
        · exact a2
        · exact b2 e hm
theorem lt_N {x : Nat} (h : x ≤ 1048576) : x < N := Nat.lt_of_le_of_lt h (Nat.lt_trans (by omega) big)
theorem all_getD {α : Type} {x : List α} {d : α} {Pr : α → Prop} (h : ∀ i, i < x.length → Pr (x.getD i d)) : ∀ e ∈ x, Pr e := by
  intro e he
  obtain ⟨i, hi, rfl⟩ := List.getElem_of_mem he
  have := h i hi
  rw [List.getD_eq_getElem?_getD, List.getElem?_eq_getElem hi] at this
  exact this
theorem szIntS (x : List Int) (left : Int) (h0 : 0 ≤ left) (h1 : left ≤ 1048576) (hx : x.length ≤ 9223372036854775807) :
    (f_laws_szIntS x left = some (-1)) ∨ (f_laws_szIntS x left = some (left - x.length) ∧ (x.length : Int) ≤ left) := by
  unfold f_laws_szIntS
  rw [w64 (by omega) (by omega)]
  by_cases h : left - (x.length : Int) < 0
  · rw [decide_eq_true h]; exact .inl rfl
  · rw [decide_eq_false h]; exact .inr ⟨rfl, by omega⟩
def rng (x m : Int) : Bool := decide ((0 : Int) ≤ x) && decide (x ≤ m)
theorem in_rng (x m : Int) : f_spec_l1In x 0 m = some (rng x m) := by
  unfold f_spec_l1In rng
  cases decide ((0 : Int) ≤ x) <;> rfl
theorem from_rng (x m : Int) : f_impl_from x 0 m = some (rng x m) := by
  unfold f_impl_from rng
  cases decide ((0 : Int) ≤ x) <;> rfl
def rg (x a b : Int) : Bool := decide (a ≤ x) && decide (x ≤ b)
theorem in_rg (x a b : Int) : f_spec_l1In x a b = some (rg x a b) := by
  unfold f_spec_l1In rg
  cases decide (a ≤ x) <;> rfl
theorem from_rg (x a b : Int) : f_impl_from x a b = some (rg x a b) := by
  unfold f_impl_from rg
  cases decide (a ≤ x) <;> rfl
theorem toIntS_loop (x : List Int) (hn : x.length ≤ 1048576) (d : Nat) : ∀ (n : Nat) (y : List Int) (i : Int), 0 ≤ i → i ≤ x.length → (x.length : Int) - i = d → d < n → y.length = x.length → y.take i.toNat = x.take i.toNat → f_laws_toIntS.l0 n x i y = some x := by
  induction d with
  | zero =>
    intro n y i h0 h1 hd hk hl ht
    obtain ⟨n, rfl⟩ := succ_fuel hk
    simp only [f_laws_toIntS.l0]
    rw [decide_eq_false (by omega), cond_false]
    rw [List.take_of_length_le (by omega), List.take_of_length_le (by omega)] at ht
    rw [ht]
  | succ d ih =>
    intro n y i h0 h1 hd hk hl ht
    obtain ⟨n, rfl⟩ := succ_fuel hk
    have hw : IntKind.wrap .i64 (i + 1) = i + 1 := w64 (by omega) (by omega)
    have hlt : i.toNat < x.length := by omega
    simp only [f_laws_toIntS.l0]
    rw [decide_eq_true (show i < (x.length : Int) by omega), decide_eq_true h0, decide_eq_true (show i < (y.length : Int) by omega), hw]
    simp only [cond_true, Bool.and_self, Option.bind_some]
    refine ih n _ (i + 1) (by omega) (by omega) (by omega) (by omega) (by rw [List.length_set]; exact hl) ?_
    have e : (i + 1).toNat = i.toNat + 1 := by omega
    rw [e, List.take_add_one, List.take_add_one, List.take_set, List.getElem?_set_self (by omega), List.getElem?_eq_getElem hlt]
    have : x.getD i.toNat 0 = x[i.toNat] := by rw [List.getD_eq_getElem?_getD, List.getElem?_eq_getElem hlt]; rfl
    rw [this, List.set_eq_of_length_le (by rw [List.length_take]; omega), ht]
theorem toIntS (x : List Int) (hn : x.length ≤ 1048576) : f_laws_toIntS x = some x := by
  unfold f_laws_toIntS
  rw [decide_eq_true (by omega), show Nat.ble ((x.length : Int).toNat) 17592186044416 = true from Nat.ble_eq_true_of_le (by omega)]
  simp only [Bool.and_self, cond_true]
  rw [toIntS_loop x hn x.length N _ 0 (by omega) (by omega) (by omega) (Nat.lt_of_le_of_lt (by omega) big) (by simp) (by simp)]
  rfl
theorem eqIntS_loop (x : List Int) (hn : x.length ≤ 1048576) (b : Bool) (d : Nat) : ∀ (n : Nat) (i : Int), 0 ≤ i → i ≤ x.length → (x.length : Int) - i = d → d < n → f_laws_eqIntS.l0 n x x b i = some (.inr b) := by
  induction d with
  | zero =>
    intro n i h0 h1 hd hk
    obtain ⟨n, rfl⟩ := succ_fuel hk
    simp only [f_laws_eqIntS.l0]
    rw [decide_eq_false (by omega), cond_false]
  | succ d ih =>
    intro n i h0 h1 hd hk
    obtain ⟨n, rfl⟩ := succ_fuel hk
    have hw : IntKind.wrap .i64 (i + 1) = i + 1 := w64 (by omega) (by omega)
    simp only [f_laws_eqIntS.l0]
    rw [decide_eq_true (show i < (x.length : Int) by omega), decide_eq_true h0, hw]
    simp only [cond_true, Bool.and_self, decide_true, Bool.not_true, cond_false]
    exact ih n (i + 1) (by omega) (by omega) (by omega) (by omega)
theorem eqIntS (x : List Int) (hn : x.length ≤ 1048576) : f_laws_eqIntS x x = some true := by
  unfold f_laws_eqIntS
  simp only [decide_true, Bool.not_true, cond_false]
  rw [eqIntS_loop x hn false x.length N 0 (by omega) (by omega) (by omega) (Nat.lt_of_le_of_lt (by omega) big)]
  rfl
def allW (x : List Int) : Bool := x.all fun w => rng w 65535
theorem drop_step (x : List Int) (i : Int) (h0 : 0 ≤ i) (h1 : i < x.length) : x.drop i.toNat = x.getD i.toNat 0 :: x.drop (i + 1).toNat := by
  have hlt : i.toNat < x.length := by omega
  have e : (i + 1).toNat = i.toNat + 1 := by omega
  rw [e, List.drop_eq_getElem_cons hlt, List.getD_eq_getElem?_getD, List.getElem?_eq_getElem hlt]
  rfl
theorem specWords_loop (x : List Int) (hn : x.length ≤ 1048576) (k : Int) (b : Bool) (d : Nat) : ∀ (n : Nat) (i : Int), 0 ≤ i → i ≤ x.length → (x.length : Int) - i = d → d < n →
    f_spec_l1Words.l0 n x k b i = some (bif allW (x.drop i.toNat) then .inr (x, k, b) else .inl false) := by
  induction d with
  | zero =>
    intro n i h0 h1 hd hk
    obtain ⟨n, rfl⟩ := succ_fuel hk
    simp only [f_spec_l1Words.l0]
    rw [decide_eq_false (by omega), cond_false, List.drop_eq_nil_of_le (by omega)]
    rfl
  | succ d ih =>
    intro n i h0 h1 hd hk
    obtain ⟨n, rfl⟩ := succ_fuel hk
    have hw : IntKind.wrap .i64 (i + 1) = i + 1 := w64 (by omega) (by omega)
    simp only [f_spec_l1Words.l0]
    rw [decide_eq_true (show i < (x.length : Int) by omega), decide_eq_true h0, hw, in_rng, drop_step x i h0 (by omega)]
    simp only [cond_true, Bool.and_self, Option.bind_some]
    unfold allW
    rw [List.all_cons]
    cases hr : rng (x.getD i.toNat 0) 65535 with
    | false => rfl
    | true =>
      simp only [Bool.not_true, cond_false, Bool.true_and]
      exact ih n (i + 1) (by omega) (by omega) (by omega) (by omega)
theorem specWords (x : List Int) (hn : x.length ≤ 1048576) (k : Int) : f_spec_l1Words x k = some (allW x && decide ((x.length : Int) = k)) := by
  unfold f_spec_l1Words
  rw [specWords_loop x hn k false x.length N 0 (by omega) (by omega) (by omega) (Nat.lt_of_le_of_lt (by omega) big)]
  simp only [Int.toNat_zero, List.drop_zero, Option.bind_some]
  cases allW x <;> rfl
theorem implWords_loop (x : List Int) (hn : x.length ≤ 1048576) (q : Int) (d : Nat) : ∀ (n : Nat) (i : Int), 0 ≤ i → i ≤ x.length → (x.length : Int) - i = d → d < n →
    (allW (x.drop i.toNat) = true ∧ f_impl_wordsOk.l0 n x q (x.length : Int) i = some (.inr q)) ∨ (allW (x.drop i.toNat) = false ∧ ∃ j : Int, 0 ≤ j ∧ f_impl_wordsOk.l0 n x q (x.length : Int) i = some (.inl j)) := by
  induction d with
  | zero =>
    intro n i h0 h1 hd hk
    obtain ⟨n, rfl⟩ := succ_fuel hk
    simp only [f_impl_wordsOk.l0]
    rw [decide_eq_false (show ¬ i < (x.length : Int) by omega), cond_false, List.drop_eq_nil_of_le (by omega)]
    exact .inl ⟨rfl, rfl⟩
  | succ d ih =>
    intro n i h0 h1 hd hk
    obtain ⟨n, rfl⟩ := succ_fuel hk
    have hw : IntKind.wrap .i64 (i + 1) = i + 1 := w64 (by omega) (by omega)
    have ih2 := ih n (i + 1) (by omega) (by omega) (by omega) (by omega)
    simp only [f_impl_wordsOk.l0]
    rw [decide_eq_true (show i < (x.length : Int) by omega), decide_eq_true h0, hw, drop_step x i h0 (by omega)]
    unfold f_impl_wordsOk_1 f_impl_isWord
    simp only [cond_true, Bool.and_self, from_rng, Option.bind_some]
    unfold allW at ih2 ⊢
    rw [List.all_cons]
    cases hr : rng (x.getD i.toNat 0) 65535 with
    | false => exact .inr ⟨rfl, i, h0, rfl⟩
    | true =>
      simp only [Bool.not_true, cond_false, Bool.true_and]
      exact ih2
theorem implWords (x : List Int) (hn : x.length ≤ 1048576) (k : Int) : f_impl_wordsOk x k = some (allW x && decide ((x.length : Int) = k)) := by
  unfold f_impl_wordsOk
  have h := implWords_loop x hn 0 x.length N 0 (by omega) (by omega) (by omega) (Nat.lt_of_le_of_lt (by omega) big)
  simp only [Int.toNat_zero, List.drop_zero] at h
  cases decide ((x.length : Int) = k) with
  | false => simp
  | true =>
    rcases h with ⟨h1, h2⟩ | ⟨h1, j, h3, h2⟩
    · simp only [cond_true, h2, Option.bind_some, h1, Bool.and_true]; rfl
    · simp only [cond_true, h2, Option.bind_some, h1, Bool.and_true]
      show some (!(decide ((0 : Int) ≤ j))) = some false
      rw [decide_eq_true h3]; rfl
theorem same_frameOk (x0 : Int) (x1 : List Int) (x2 : Bool) (hn : x1.length ≤ 1048576) : ∃ b, f_spec_FrameOk x0 x1 x2 = some b ∧ f_impl_FrameOk x0 x1 x2 = some b := by
  unfold f_spec_FrameOk f_impl_FrameOk
  simp only [specWords x1 hn, implWords x1 hn, in_rng, Option.bind_some]
  by_cases h0 : x0 = 0
  · rw [decide_eq_true h0]; exact ⟨_, rfl, rfl⟩
  · rw [decide_eq_false h0]
    by_cases h1 : x0 = 1
    · subst h1; exact ⟨_, rfl, rfl⟩
    · by_cases h2 : x0 = 2
      · subst h2; exact ⟨_, rfl, rfl⟩
      · have hr : rng x0 2 = false := by
          unfold rng
          by_cases h3 : 0 ≤ x0
          · rw [decide_eq_true h3, decide_eq_false (by omega)]; rfl
          · rw [decide_eq_false h3]; rfl
        rw [hr, decide_eq_false h1, decide_eq_false h2]
        exact ⟨_, rfl, rfl⟩
theorem toFrame_self (a : Int) (x : List Int) (c : Bool) (hn : x.length ≤ 1048576) : f_laws_toFrame a x c = some (a, x, c) := by
  unfold f_laws_toFrame
  simp only [toIntS x hn, Option.bind_some]
theorem eqFrame_self (a : Int) (x : List Int) (c : Bool) (hn : x.length ≤ 1048576) : f_laws_eqFrame a x c a x c = some true := by
  unfold f_laws_eqFrame
  simp only [decide_true, Bool.not_true, cond_false, beq_self_eq_true, eqIntS x hn, Option.bind_some]
theorem szFrame (a : Int) (x : List Int) (b : Bool) (left : Int) (h0 : 0 ≤ left) (h1 : left ≤ 1048576) (hx : x.length ≤ 9223372036854775807) :
    (f_laws_szFrame a x b left = some (-1)) ∨ (f_laws_szFrame a x b left = some (left - x.length) ∧ (x.length : Int) ≤ left) := by
  unfold f_laws_szFrame
  rcases szIntS x left h0 h1 hx with h | ⟨h, hl⟩
  · simp only [h, Option.bind_some]; exact .inl rfl
  · simp only [h, Option.bind_some]
    rw [decide_eq_false (by omega)]
    exact .inr ⟨rfl, hl⟩
theorem allW_nil (x : List Int) : (allW x && decide ((x.length : Int) = 0)) = decide ((x.length : Int) = 0) := by
  cases x with
  | nil => rfl
  | cons a x =>
    rw [decide_eq_false (by simp; omega), Bool.and_false]
theorem same_msgOk (x0 x1 : Int) (x2 : Bool) (x3 : List Int) (hn : x3.length ≤ 1048576) : ∃ b, f_spec_MsgOk x0 x1 x2 x3 = some b ∧ f_impl_MsgOk x0 x1 x2 x3 = some b := by
  unfold f_spec_MsgOk f_impl_MsgOk f_impl_isPage
  simp only [specWords x3 hn, implWords x3 hn, in_rg, from_rg, Option.bind_some, allW_nil]
  by_cases h3 : x0 = 3
  · subst h3
    rw [show rg 3 1 7 = true from rfl]
    cases rg x1 0 5 <;> cases x2 <;> exact ⟨_, rfl, rfl⟩
  · by_cases h7 : x0 = 7
    · subst h7
      rw [show rg 7 1 7 = true from rfl]
      cases rg x1 0 5 <;> cases x2 <;> exact ⟨_, rfl, rfl⟩
    · by_cases h6 : x0 = 6
      · subst h6
        rw [show rg 6 1 7 = true from rfl]
        cases rg x1 0 5 <;> cases x2 <;> exact ⟨_, rfl, rfl⟩
      · rw [decide_eq_false h3, decide_eq_false h7, decide_eq_false h6]
        cases rg x0 1 7 <;> cases rg x1 0 5 <;> cases x2 <;> exact ⟨_, rfl, rfl⟩
theorem eqMsg_self (a b : Int) (c : Bool) (x : List Int) (hn : x.length ≤ 1048576) : f_laws_eqMsg a b c x a b c x = some true := by
  unfold f_laws_eqMsg
  simp only [decide_true, Bool.not_true, cond_false, beq_self_eq_true, eqIntS x hn, Option.bind_some]
theorem toMsg_self (a b : Int) (c : Bool) (x : List Int) (hn : x.length ≤ 1048576) : f_laws_toMsg a b c x = some (a, b, c, x) := by
  unfold f_laws_toMsg
  simp only [toIntS x hn, Option.bind_some]
theorem szMsg (a b : Int) (c : Bool) (x : List Int) (left : Int) (h0 : 0 ≤ left) (h1 : left ≤ 1048576) (hx : x.length ≤ 9223372036854775807) :
    (f_laws_szMsg a b c x left = some (-1)) ∨ (f_laws_szMsg a b c x left = some (left - x.length) ∧ (x.length : Int) ≤ left) := by
  unfold f_laws_szMsg
  rcases szIntS x left h0 h1 hx with h | ⟨h, hl⟩
  · simp only [h, Option.bind_some]; exact .inl rfl
  · simp only [h, Option.bind_some]
    rw [decide_eq_false (by omega)]
    exact .inr ⟨rfl, hl⟩
abbrev MsgL := Int × Int × Bool × List Int
theorem szMsgS (x : List MsgL) (left : Int) (h0 : 0 ≤ left) (h1 : left ≤ 1048576) (hx : x.length ≤ 9223372036854775807) (he : ∀ e ∈ x, e.2.2.2.length ≤ 9223372036854775807) :
    f_laws_szMsgS x left = some (-1) ∨ ∃ l, f_laws_szMsgS x left = some l ∧ 0 ≤ l ∧ l ≤ left ∧ x.length ≤ 1048576 ∧ ∀ e ∈ x, e.2.2.2.length ≤ 1048576 := by
  unfold f_laws_szMsgS
  rw [w64 (by omega) (by omega)]
  by_cases h : left - (x.length : Int) < 0
  · rw [decide_eq_true h]; exact .inl rfl
  · rw [decide_eq_false h, cond_false]
    have hn : x.length ≤ 1048576 := by omega
    rcases sz_gen (F := f_laws_szMsgS.l0) (s := fun e l => f_laws_szMsg e.1 e.2.1 e.2.2.1 e.2.2.2 l) (Ok := fun e : MsgL => e.2.2.2.length ≤ 1048576) (d := (0, 0, false, [])) (fun n x l q i => rfl) x hn (fun e hm l a0 a1 => by
        rcases szMsg e.1 e.2.1 e.2.2.1 e.2.2.2 l a0 a1 (he e hm) with h2 | ⟨h2, h3⟩
        · exact .inl h2
        · exact .inr ⟨_, h2, by omega, by omega, by omega⟩) 0 x.length N (left - (x.length : Int)) 0 (by omega) (by omega) (by omega) (by omega) (by omega) (lt_N hn) with h2 | ⟨l, h2, b0, b1, b2⟩
    · rw [h2]; exact .inl rfl
    · rw [h2]
      exact .inr ⟨l, rfl, b0, by omega, hn, fun e hm => b2 e (by simpa using hm)⟩
theorem toMsgS (x : List MsgL) (hn : x.length ≤ 1048576) (he : ∀ e ∈ x, e.2.2.2.length ≤ 1048576) : f_laws_toMsgS x = some x := by
  unfold f_laws_toMsgS
  rw [decide_eq_true (by omega), show Nat.ble ((x.length : Int).toNat) 2932031007402 = true from Nat.ble_eq_true_of_le (by omega)]
  simp only [Bool.and_self, cond_true]
  rw [to_gen (F := f_laws_toMsgS.l0) (g := fun e => f_laws_toMsg e.1 e.2.1 e.2.2.1 e.2.2.2) (d := (0, 0, false, [])) (fun n x i y => rfl) x hn (fun e hm => toMsg_self _ _ _ _ (he e hm)) x.length N _ 0 (by omega) (by omega) (by omega) (lt_N hn) (by simp) (by simp)]
  rfl
theorem eqMsgS (x : List MsgL) (hn : x.length ≤ 1048576) (he : ∀ e ∈ x, e.2.2.2.length ≤ 1048576) : f_laws_eqMsgS x x = some true := by
  unfold f_laws_eqMsgS
  simp only [decide_true, Bool.not_true, cond_false]
  rw [eq_gen (F := f_laws_eqMsgS.l0) (q := fun e f => f_laws_eqMsg e.1 e.2.1 e.2.2.1 e.2.2.2 f.1 f.2.1 f.2.2.1 f.2.2.2) (d := (0, 0, false, [])) (fun n x y b i => rfl) x hn (fun e hm => eqMsg_self _ _ _ _ (he e hm)) false x.length N 0 (by omega) (by omega) (by omega) (lt_N hn)]
  rfl
noncomputable def tM (e : MsgL) : Bool := (f_spec_MsgOk e.1 e.2.1 e.2.2.1 e.2.2.2).getD false
theorem tM_eq (e : MsgL) (h : e.2.2.2.length ≤ 1048576) : f_spec_MsgOk e.1 e.2.1 e.2.2.1 e.2.2.2 = some (tM e) ∧ f_impl_MsgOk e.1 e.2.1 e.2.2.1 e.2.2.2 = some (tM e) := by
  obtain ⟨b, h1, h2⟩ := same_msgOk e.1 e.2.1 e.2.2.1 e.2.2.2 h
  unfold tM
  rw [h1, h2]
  exact ⟨rfl, rfl⟩
theorem senderS_loop (x : List MsgL) (hn : x.length ≤ 1048576) (he : ∀ e ∈ x, e.2.2.2.length ≤ 1048576) (c : Bool) (a : Int) (k : Nat) : ∀ (n : Nat) (i : Int), 0 ≤ i → i ≤ x.length → (x.length : Int) - i = k → k < n →
    f_spec_SenderOk.l0 n c i a x = some (bif (x.drop i.toNat).all tM then .inr (c, a, x) else .inl false) := by
  induction k with
  | zero =>
    intro n i h0 h1 hd hk
    obtain ⟨n, rfl⟩ := succ_fuel hk
    simp only [f_spec_SenderOk.l0]
    rw [decide_eq_false (show ¬ i < (x.length : Int) by omega), cond_false, List.drop_eq_nil_of_le (by omega)]
    rfl
  | succ k ih =>
    intro n i h0 h1 hd hk
    obtain ⟨n, rfl⟩ := succ_fuel hk
    have hw : IntKind.wrap .i64 (i + 1) = i + 1 := w64 (by omega) (by omega)
    simp only [f_spec_SenderOk.l0]
    rw [decide_eq_true (show i < (x.length : Int) by omega), decide_eq_true h0, hw, (tM_eq _ (he _ (mem_getD x (0, 0, false, []) i h0 (by omega)))).1, drop_getD x (0, 0, false, []) i h0 (by omega)]
    simp only [cond_true, Bool.and_self, Option.bind_some, List.all_cons]
    cases tM (x.getD i.toNat (0, 0, false, [])) with
    | false => rfl
    | true =>
      simp only [Bool.not_true, cond_false, Bool.true_and]
      exact ih n (i + 1) (by omega) (by omega) (by omega) (by omega)
theorem senderI_loop (x : List MsgL) (hn : x.length ≤ 1048576) (he : ∀ e ∈ x, e.2.2.2.length ≤ 1048576) (q a : Int) (k : Nat) : ∀ (n : Nat) (i : Int), 0 ≤ i → i ≤ x.length → (x.length : Int) - i = k → k < n →
    ((x.drop i.toNat).all tM = true ∧ f_impl_SenderOk.l0 n x q (x.length : Int) i a x = some (.inr (q, a, x))) ∨ ((x.drop i.toNat).all tM = false ∧ ∃ j : Int, 0 ≤ j ∧ f_impl_SenderOk.l0 n x q (x.length : Int) i a x = some (.inl (j, a, x))) := by
  induction k with
  | zero =>
    intro n i h0 h1 hd hk
    obtain ⟨n, rfl⟩ := succ_fuel hk
    simp only [f_impl_SenderOk.l0]
    rw [decide_eq_false (show ¬ i < (x.length : Int) by omega), cond_false, List.drop_eq_nil_of_le (by omega)]
    exact .inl ⟨rfl, rfl⟩
  | succ k ih =>
    intro n i h0 h1 hd hk
    obtain ⟨n, rfl⟩ := succ_fuel hk
    have hw : IntKind.wrap .i64 (i + 1) = i + 1 := w64 (by omega) (by omega)
    have ih2 := ih n (i + 1) (by omega) (by omega) (by omega) (by omega)
    simp only [f_impl_SenderOk.l0, f_impl_SenderOk_1]
    rw [decide_eq_true (show i < (x.length : Int) by omega), decide_eq_true h0, hw, (tM_eq _ (he _ (mem_getD x (0, 0, false, []) i h0 (by omega)))).2, drop_getD x (0, 0, false, []) i h0 (by omega)]
    simp only [cond_true, Bool.and_self, Option.bind_some, List.all_cons]
    cases tM (x.getD i.toNat (0, 0, false, [])) with
    | false => exact .inr ⟨rfl, i, h0, rfl⟩
    | true =>
      simp only [Bool.not_true, cond_false, Bool.true_and]
      exact ih2
theorem same_senderOk (a : Int) (x : List MsgL) (hn : x.length ≤ 1048576) (he : ∀ e ∈ x, e.2.2.2.length ≤ 1048576) : ∃ b, f_spec_SenderOk a x = some b ∧ f_impl_SenderOk a x = some b := by
  unfold f_spec_SenderOk f_impl_SenderOk f_impl_isSeq
  rw [senderS_loop x hn he false a x.length N 0 (by omega) (by omega) (by omega) (lt_N hn)]
  have hi := senderI_loop x hn he 0 a x.length N 0 (by omega) (by omega) (by omega) (lt_N hn)
  simp only [Int.toNat_zero, List.drop_zero, in_rg, from_rg, Option.bind_some] at hi ⊢
  rcases hi with ⟨h1, h2⟩ | ⟨h1, j, h3, h2⟩
  · rw [h1, h2]
    simp only [cond_true, cs, Option.bind_some]
    cases rg a 0 100000 <;> cases decide ((x.length : Int) ≤ 30) <;> cases decide (IntKind.wrap .i64 (a + (x.length : Int)) ≤ 100000) <;> exact ⟨_, rfl, rfl⟩
  · rw [h1, h2]
    simp only [cond_false, cs, Option.bind_some, decide_eq_true h3]
    cases rg a 0 100000 <;> cases decide ((x.length : Int) ≤ 30) <;> cases decide (IntKind.wrap .i64 (a + (x.length : Int)) ≤ 100000) <;> exact ⟨_, rfl, rfl⟩
theorem szSender (a : Int) (x : List MsgL) (left : Int) (h0 : 0 ≤ left) (h1 : left ≤ 1048576) (hx : x.length ≤ 9223372036854775807) (he : ∀ e ∈ x, e.2.2.2.length ≤ 9223372036854775807) :
    f_laws_szSender a x left = some (-1) ∨ ∃ l, f_laws_szSender a x left = some l ∧ 0 ≤ l ∧ l ≤ left ∧ x.length ≤ 1048576 ∧ ∀ e ∈ x, e.2.2.2.length ≤ 1048576 := by
  unfold f_laws_szSender
  rcases szMsgS x left h0 h1 hx he with h | ⟨l, h, l0, l1, hn, hb⟩
  · simp only [h, Option.bind_some]; exact .inl rfl
  · simp only [h, Option.bind_some]
    rw [decide_eq_false (by omega)]
    exact .inr ⟨l, rfl, l0, l1, hn, hb⟩
theorem toSender_self (a : Int) (x : List MsgL) (hn : x.length ≤ 1048576) (he : ∀ e ∈ x, e.2.2.2.length ≤ 1048576) : f_laws_toSender a x = some (a, x) := by
  unfold f_laws_toSender
  rw [toMsgS x hn he]; rfl
theorem eqSender_self (a : Int) (x : List MsgL) (hn : x.length ≤ 1048576) (he : ∀ e ∈ x, e.2.2.2.length ≤ 1048576) : f_laws_eqSender a x a x = some true := by
  unfold f_laws_eqSender
  simp only [decide_true, Bool.not_true, cond_false, eqMsgS x hn he, Option.bind_some]
theorem szBoolS (x : List Bool) (left : Int) (h0 : 0 ≤ left) (h1 : left ≤ 1048576) (hx : x.length ≤ 9223372036854775807) : (f_laws_szBoolS x left = some (-1)) ∨ (f_laws_szBoolS x left = some (left - x.length) ∧ (x.length : Int) ≤ left) := by
  unfold f_laws_szBoolS
  rw [w64 (by omega) (by omega)]
  by_cases h : left - (x.length : Int) < 0
  · rw [decide_eq_true h]; exact .inl rfl
  · rw [decide_eq_false h]; exact .inr ⟨rfl, by omega⟩
theorem szWaitS (x : List (Int × Bool)) (left : Int) (h0 : 0 ≤ left) (h1 : left ≤ 1048576) (hx : x.length ≤ 9223372036854775807) : (f_laws_szWaitS x left = some (-1)) ∨ (f_laws_szWaitS x left = some (left - x.length) ∧ (x.length : Int) ≤ left) := by
  unfold f_laws_szWaitS
  rw [w64 (by omega) (by omega)]
  by_cases h : left - (x.length : Int) < 0
  · rw [decide_eq_true h]; exact .inl rfl
  · rw [decide_eq_false h]; exact .inr ⟨rfl, by omega⟩
structure HomeS (x0 : List Int) (x2 : List Bool) (x7 : List (Int × Bool)) : Prop where
  g0 : x0.length ≤ 1048576
  g2 : x2.length ≤ 1048576
  g7 : x7.length ≤ 1048576
theorem szHome (x0 : List Int) (x1 : Int) (x2 : List Bool) (x3 : Bool) (x4 : Int) (x5 : Bool) (x6 : Int) (x7 : List (Int × Bool)) (left : Int) (h0 : 0 ≤ left) (h1 : left ≤ 1048576) (b0 : x0.length ≤ 9223372036854775807) (b2 : x2.length ≤ 9223372036854775807) (b7 : x7.length ≤ 9223372036854775807) :
    f_laws_szHome x0 x1 x2 x3 x4 x5 x6 x7 left = some (-1) ∨ ∃ l, f_laws_szHome x0 x1 x2 x3 x4 x5 x6 x7 left = some l ∧ 0 ≤ l ∧ l ≤ left ∧ HomeS x0 x2 x7 := by
  unfold f_laws_szHome
  rcases szIntS x0 left h0 h1 b0 with h | ⟨h, k⟩
  · rw [h]; exact .inl rfl
  · rw [h, Option.bind_some, decide_eq_false (by omega), cond_false]
    rcases szBoolS x2 (left - x0.length) (by omega) (by omega) b2 with h' | ⟨h', k'⟩
    · rw [h']; exact .inl rfl
    · rw [h', Option.bind_some, decide_eq_false (by omega), cond_false]
      rcases szWaitS x7 (left - x0.length - x2.length) (by omega) (by omega) b7 with h2 | ⟨h2, k2⟩
      · rw [h2]; exact .inl rfl
      · rw [h2, Option.bind_some, decide_eq_false (by omega), cond_false]
        exact .inr ⟨_, rfl, by omega, by omega, by omega, by omega, by omega⟩
theorem toBoolS (x : List Bool) (hn : x.length ≤ 1048576) : f_laws_toBoolS x = some x := by
  unfold f_laws_toBoolS
  rw [decide_eq_true (by omega), show Nat.ble ((x.length : Int).toNat) 140737488355328 = true from Nat.ble_eq_true_of_le (by omega)]
  simp only [Bool.and_self, cond_true]
  rw [to_gen (d := false) (F := f_laws_toBoolS.l0) (g := some) (fun n x i y => rfl) x hn (fun _ _ => rfl) x.length N _ 0 (by omega) (by omega) (by omega) (lt_N hn) (by simp) (by simp)]
  rfl
theorem toWaitS (x : List (Int × Bool)) (hn : x.length ≤ 1048576) : f_laws_toWaitS x = some x := by
  unfold f_laws_toWaitS
  rw [decide_eq_true (by omega), show Nat.ble ((x.length : Int).toNat) 8796093022208 = true from Nat.ble_eq_true_of_le (by omega)]
  simp only [Bool.and_self, cond_true]
  rw [to_gen (d := ((0 : Int), false)) (F := f_laws_toWaitS.l0) (g := fun e => (f_laws_toWait e.1 e.2).bind fun y => some (y.1, y.2)) (fun n x i y => rfl) x hn (fun _ _ => rfl) x.length N _ 0 (by omega) (by omega) (by omega) (lt_N hn) (by simp) (by simp)]
  rfl
theorem toHome_self (x0 : List Int) (x1 : Int) (x2 : List Bool) (x3 : Bool) (x4 : Int) (x5 : Bool) (x6 : Int) (x7 : List (Int × Bool)) (h : HomeS x0 x2 x7) : f_laws_toHome x0 x1 x2 x3 x4 x5 x6 x7 = some (x0, x1, x2, x3, x4, x5, x6, x7) := by
  unfold f_laws_toHome f_laws_toWait
  simp only [toIntS x0 h.g0, toBoolS x2 h.g2, toWaitS x7 h.g7, Option.bind_some]
theorem eqBoolS (x : List Bool) (hn : x.length ≤ 1048576) : f_laws_eqBoolS x x = some true := by
  unfold f_laws_eqBoolS
  simp only [decide_true, Bool.not_true, cond_false]
  rw [eq_gen (d := false) (F := f_laws_eqBoolS.l0) (q := fun a b => some (a == b)) (fun n x y b i => rfl) x hn (fun e _ => by simp) false x.length N 0 (by omega) (by omega) (by omega) (lt_N hn)]
  rfl
theorem eqWait_self (a : Int) (b : Bool) : f_laws_eqWait a b a b = some true := by
  unfold f_laws_eqWait
  simp
theorem eqWaitS (x : List (Int × Bool)) (hn : x.length ≤ 1048576) : f_laws_eqWaitS x x = some true := by
  unfold f_laws_eqWaitS
  simp only [decide_true, Bool.not_true, cond_false]
  rw [eq_gen (d := ((0 : Int), false)) (F := f_laws_eqWaitS.l0) (q := fun a b => f_laws_eqWait a.1 a.2 b.1 b.2) (fun n x y b i => rfl) x hn (fun e _ => eqWait_self _ _) false x.length N 0 (by omega) (by omega) (by omega) (lt_N hn)]
  rfl
theorem eqHome_self (x0 : List Int) (x1 : Int) (x2 : List Bool) (x3 : Bool) (x4 : Int) (x5 : Bool) (x6 : Int) (x7 : List (Int × Bool)) (g0 : x0.length ≤ 1048576) (g2 : x2.length ≤ 1048576) (g7 : x7.length ≤ 1048576) : f_laws_eqHome x0 x1 x2 x3 x4 x5 x6 x7 x0 x1 x2 x3 x4 x5 x6 x7 = some true := by
  unfold f_laws_eqHome
  simp only [eqIntS x0 g0, eqBoolS x2 g2, eqWaitS x7 g7, eqWait_self, decide_true, beq_self_eq_true, Bool.not_true, cond_false, Option.bind_some]
theorem all_loop {α β : Type} {d : α} {F : Nat → Int → Option (Bool ⊕ β)} {q : α → Bool} {b : β} (x : List α) (hx : x.length ≤ 1048576) (h0 : ∀ n i, ¬ i < (x.length : Int) → F (n + 1) i = some (.inr b))
    (h1 : ∀ n i, 0 ≤ i → i < (x.length : Int) → x.getD i.toNat d ∈ x → F (n + 1) i = bif q (x.getD i.toNat d) then F n (i + 1) else some (.inl false)) : F N 0 = some (bif x.all q then .inr b else .inl false) := by
  have step : ∀ (k n : Nat) (i : Int), 0 ≤ i → i ≤ x.length → (x.length : Int) - i = k → k < n → F n i = some (bif (x.drop i.toNat).all q then .inr b else .inl false) := by
    intro k
    induction k with
    | zero =>
      intro n i a0 a1 hd hn
      obtain ⟨n, rfl⟩ := succ_fuel hn
      rw [h0 n i (by omega), List.drop_eq_nil_of_le (by omega)]
      rfl
    | succ k ih =>
      intro n i a0 a1 hd hn
      obtain ⟨n, rfl⟩ := succ_fuel hn
      rw [h1 n i a0 (by omega) (mem_getD x d i a0 (by omega)), drop_getD x d i a0 (by omega), List.all_cons]
      cases q (x.getD i.toNat d) with
      | false => rfl
      | true => simp only [cond_true, Bool.true_and]; exact ih n (i + 1) (by omega) (by omega) (by omega) (by omega)
  have := step x.length N 0 (by omega) (by omega) (by omega) (Nat.lt_of_le_of_lt hx (Nat.lt_trans (by omega) big))
  simpa using this
theorem any_loop {α β γ : Type} {d : α} {F : Nat → Int → Option (β ⊕ γ)} {q : α → Bool} {g : Int → β} {e : γ} (x : List α) (hx : x.length ≤ 1048576) (h0 : ∀ n i, ¬ i < (x.length : Int) → F (n + 1) i = some (.inr e))
    (h1 : ∀ n i, 0 ≤ i → i < (x.length : Int) → x.getD i.toNat d ∈ x → F (n + 1) i = bif q (x.getD i.toNat d) then F n (i + 1) else some (.inl (g i))) : (x.all q = true ∧ F N 0 = some (.inr e)) ∨ (x.all q = false ∧ ∃ j : Int, 0 ≤ j ∧ j < x.length ∧ F N 0 = some (.inl (g j))) := by
  have step : ∀ (k n : Nat) (i : Int), 0 ≤ i → i ≤ x.length → (x.length : Int) - i = k → k < n → ((x.drop i.toNat).all q = true ∧ F n i = some (.inr e)) ∨ ((x.drop i.toNat).all q = false ∧ ∃ j : Int, 0 ≤ j ∧ j < x.length ∧ F n i = some (.inl (g j))) := by
    intro k
    induction k with
    | zero =>
      intro n i a0 a1 hd hn
      obtain ⟨n, rfl⟩ := succ_fuel hn
      rw [h0 n i (by omega), List.drop_eq_nil_of_le (by omega)]
      exact .inl ⟨rfl, rfl⟩
    | succ k ih =>
      intro n i a0 a1 hd hn
      obtain ⟨n, rfl⟩ := succ_fuel hn
      rw [h1 n i a0 (by omega) (mem_getD x d i a0 (by omega)), drop_getD x d i a0 (by omega), List.all_cons]
      cases q (x.getD i.toNat d) with
      | false => exact .inr ⟨rfl, i, a0, by omega, rfl⟩
      | true => simp only [cond_true, Bool.true_and]; exact ih n (i + 1) (by omega) (by omega) (by omega) (by omega)
  have := step x.length N 0 (by omega) (by omega) (by omega) (Nat.lt_of_le_of_lt hx (Nat.lt_trans (by omega) big))
  simpa using this
def rng2 (a x m : Int) : Bool := decide (a ≤ x) && decide (x ≤ m)
theorem in_rng2 (a x m : Int) : f_spec_l1In x a m = some (rng2 a x m) := by
  unfold f_spec_l1In rng2
  cases decide (a ≤ x) <;> rfl
theorem from_rng2 (a x m : Int) : f_impl_from x a m = some (rng2 a x m) := by
  unfold f_impl_from rng2
  cases decide (a ≤ x) <;> rfl
def homeOkB (x0 : List Int) (x1 : Int) (x2 : List Bool) (x4 x6 : Int) (x7 : List (Int × Bool)) (x8 : Int) : Bool :=
  rng2 1 x8 4 && (allW x0 && decide ((x0.length : Int) = 4)) && rng2 (-1) x1 (x8 - 1) && decide ((x2.length : Int) = x8) && rng2 0 x4 (x8 - 1) && rng2 0 x6 x8 && decide ((x7.length : Int) ≤ 12) && x7.all fun e => rng2 0 e.1 (x8 - 1)
theorem isOf_rng (x k : Int) (h0 : 1 ≤ k) (h1 : k ≤ 4) : f_impl_isOf x k = some (rng2 0 x (k - 1)) := by
  unfold f_impl_isOf
  have e : rng2 1 k 4 = true := by unfold rng2; rw [decide_eq_true h0, decide_eq_true h1]; rfl
  simp only [from_rng2, e, cond_true, w64 (show -9223372036854775808 ≤ k - 1 by omega) (by omega), Option.bind_some]
theorem specHomeOk (x0 : List Int) (x1 : Int) (x2 : List Bool) (x3 : Bool) (x4 : Int) (x5 : Bool) (x6 : Int) (x7 : List (Int × Bool)) (x8 : Int) (h : HomeS x0 x2 x7) : f_spec_HomeOk x0 x1 x2 x3 x4 x5 x6 x7 x8 = some (homeOkB x0 x1 x2 x4 x6 x7 x8) := by
  unfold f_spec_HomeOk homeOkB
  rw [in_rng2]
  cases hr : rng2 1 x8 4 with
  | false => rfl
  | true =>
    have hr' := hr
    unfold rng2 at hr'
    simp only [Bool.and_eq_true, decide_eq_true_eq] at hr'
    have hl := all_loop (d := ((0 : Int), false)) (F := fun n i => f_spec_HomeOk.l0 n x8 false i x0 x1 x2 x3 x4 x5 x6 x7) (q := fun e => rng2 0 e.1 (x8 - 1)) (b := false) x7 h.g7
      (fun n i hi => by simp only [f_spec_HomeOk.l0, decide_eq_false hi, cond_false])
      (fun n i h0 h1 _ => by
        have := h.g7
        simp only [f_spec_HomeOk.l0, decide_eq_true h1, decide_eq_true h0, cond_true, Bool.and_self, in_rng2, Option.bind_some, w64 (show -9223372036854775808 ≤ x8 - 1 by omega) (by omega), w64 (show -9223372036854775808 ≤ i + 1 by omega) (by omega)]
        cases rng2 0 ((x7.getD i.toNat (0, false)).1) (x8 - 1) <;> rfl)
    simp only [in_rng2, specWords x0 h.g0, Option.bind_some, w64 (show -9223372036854775808 ≤ x8 - 1 by omega) (by omega), hl]
    cases allW x0 && decide ((x0.length : Int) = 4) <;> cases rng2 (-1) x1 (x8 - 1) <;> cases decide ((x2.length : Int) = x8) <;> cases rng2 0 x4 (x8 - 1) <;> cases rng2 0 x6 x8 <;> try rfl
    by_cases h12 : (x7.length : Int) ≤ 12
    · rw [decide_eq_true h12, decide_eq_false (by omega)]
      cases x7.all fun e => rng2 0 e.1 (x8 - 1) <;> rfl
    · rw [decide_eq_false h12, decide_eq_true (by omega)]; rfl
theorem implHomeOk (x0 : List Int) (x1 : Int) (x2 : List Bool) (x3 : Bool) (x4 : Int) (x5 : Bool) (x6 : Int) (x7 : List (Int × Bool)) (x8 : Int) (h : HomeS x0 x2 x7) : f_impl_HomeOk x0 x1 x2 x3 x4 x5 x6 x7 x8 = some (homeOkB x0 x1 x2 x4 x6 x7 x8) := by
  unfold f_impl_HomeOk homeOkB
  rw [from_rng2]
  cases hr : rng2 1 x8 4 with
  | false => rfl
  | true =>
    have hr' := hr
    unfold rng2 at hr'
    simp only [Bool.and_eq_true, decide_eq_true_eq] at hr'
    have hl := any_loop (d := ((0 : Int), false)) (F := fun n i => f_impl_HomeOk.l0 n x7 0 (x7.length : Int) i x0 x1 x2 x3 x4 x5 x6 x7 x8) (q := fun e => rng2 0 e.1 (x8 - 1)) (g := fun i => (i, x0, x1, x2, x3, x4, x5, x6, x7, x8)) (e := (0, x0, x1, x2, x3, x4, x5, x6, x7, x8)) x7 h.g7
      (fun n i hi => by simp only [f_impl_HomeOk.l0, decide_eq_false hi, cond_false])
      (fun n i h0 h1 _ => by
        have := h.g7
        simp only [f_impl_HomeOk.l0, f_impl_HomeOk_1, decide_eq_true h1, decide_eq_true h0, cond_true, Bool.and_self, isOf_rng _ _ hr'.1 hr'.2, Option.bind_some, w64 (show -9223372036854775808 ≤ i + 1 by omega) (by omega)]
        cases rng2 0 ((x7.getD i.toNat (0, false)).1) (x8 - 1) <;> rfl)
    simp only [from_rng2, implWords x0 h.g0, Option.bind_some, isOf_rng _ _ hr'.1 hr'.2, w64 (show -9223372036854775808 ≤ x8 - 1 by omega) (by omega)]
    cases allW x0 && decide ((x0.length : Int) = 4) <;> cases rng2 (-1) x1 (x8 - 1) <;> cases decide ((x2.length : Int) = x8) <;> cases rng2 0 x4 (x8 - 1) <;> cases rng2 0 x6 x8 <;> try rfl
    cases decide ((x7.length : Int) ≤ 12) with
    | false => rfl
    | true =>
      rcases hl with ⟨e1, e2⟩ | ⟨e1, j, e3, _, e2⟩
      · simp only [e2, e1]; rfl
      · simp only [e2, e1, Option.bind_some]
        show some (!(decide ((0 : Int) ≤ j))) = some false
        rw [decide_eq_true e3]; rfl
theorem all2_loop {α α' β : Type} {d : α} {d' : α'} {F : Nat → Int → Option (Bool ⊕ β)} {q : α → Bool} {r : α' → Bool} {b : β} (x : List α) (y : List α') (hx : x.length ≤ 1048576) (hy : y.length = x.length) (h0 : ∀ n i, ¬ i < (x.length : Int) → F (n + 1) i = some (.inr b))
    (h1 : ∀ n i, 0 ≤ i → i < (x.length : Int) → x.getD i.toNat d ∈ x → y.getD i.toNat d' ∈ y → F (n + 1) i = bif q (x.getD i.toNat d) then (bif r (y.getD i.toNat d') then F n (i + 1) else some (.inl false)) else some (.inl false)) : F N 0 = some (bif x.all q && y.all r then .inr b else .inl false) := by
  have step : ∀ (k n : Nat) (i : Int), 0 ≤ i → i ≤ x.length → (x.length : Int) - i = k → k < n → F n i = some (bif (x.drop i.toNat).all q && (y.drop i.toNat).all r then .inr b else .inl false) := by
    intro k
    induction k with
    | zero =>
      intro n i a0 a1 hd hn
      obtain ⟨n, rfl⟩ := succ_fuel hn
      rw [h0 n i (by omega), List.drop_eq_nil_of_le (by omega), List.drop_eq_nil_of_le (by omega)]
      rfl
    | succ k ih =>
      intro n i a0 a1 hd hn
      obtain ⟨n, rfl⟩ := succ_fuel hn
      rw [h1 n i a0 (by omega) (mem_getD x d i a0 (by omega)) (mem_getD y d' i a0 (by omega)), drop_getD x d i a0 (by omega), drop_getD y d' i a0 (by omega), List.all_cons, List.all_cons]
      cases q (x.getD i.toNat d) with
      | false => rfl
      | true =>
        cases r (y.getD i.toNat d') with
        | false => simp
        | true => simp only [cond_true, Bool.true_and]; exact ih n (i + 1) (by omega) (by omega) (by omega) (by omega)
  have := step x.length N 0 (by omega) (by omega) (by omega) (Nat.lt_of_le_of_lt hx (Nat.lt_trans (by omega) big))
  simpa using this
abbrev FrameT := Int × List Int × Bool
def bigFrame (e : FrameT) : Prop := e.2.1.length ≤ 9223372036854775807
def okFrame (e : FrameT) : Prop := e.2.1.length ≤ 1048576
theorem szFrameS (x : List FrameT) (left : Int) (h0 : 0 ≤ left) (h1 : left ≤ 1048576) (hx : x.length ≤ 9223372036854775807) (he : ∀ e ∈ x, bigFrame e) :
    f_laws_szFrameS x left = some (-1) ∨ ∃ l, f_laws_szFrameS x left = some l ∧ 0 ≤ l ∧ l ≤ left ∧ x.length ≤ 1048576 ∧ ∀ e ∈ x, okFrame e := by
  unfold f_laws_szFrameS
  rw [w64 (by omega) (by omega)]
  by_cases h : left - (x.length : Int) < 0
  · rw [decide_eq_true h]; exact .inl rfl
  · rw [decide_eq_false h, cond_false]
    have hn : x.length ≤ 1048576 := by omega
    rcases sz_gen (F := f_laws_szFrameS.l0) (s := fun e l => f_laws_szFrame e.1 e.2.1 e.2.2 l) (Ok := okFrame) (d := (0, [], false)) (fun n x l q i => rfl) x hn (fun e hm l a0 a1 => by
        rcases szFrame e.1 e.2.1 e.2.2 l a0 a1 (he e hm) with h2 | ⟨h2, h3⟩
        · exact .inl h2
        · exact .inr ⟨_, h2, by omega, by omega, show e.2.1.length ≤ 1048576 by omega⟩) 0 x.length N (left - (x.length : Int)) 0 (by omega) (by omega) (by omega) (by omega) (by omega) (lt_N hn) with h2 | ⟨l, h2, b0, b1, b2⟩
    · rw [h2]; exact .inl rfl
    · rw [h2]
      exact .inr ⟨l, rfl, b0, by omega, hn, fun e hm => b2 e (by simpa using hm)⟩
theorem toFrameS (x : List FrameT) (hn : x.length ≤ 1048576) (he : ∀ e ∈ x, okFrame e) : f_laws_toFrameS x = some x := by
  unfold f_laws_toFrameS
  rw [decide_eq_true (by omega), show Nat.ble ((x.length : Int).toNat) 3518437208883 = true from Nat.ble_eq_true_of_le (by omega)]
  simp only [Bool.and_self, cond_true]
  rw [to_gen (F := f_laws_toFrameS.l0) (g := fun e => f_laws_toFrame e.1 e.2.1 e.2.2) (d := (0, [], false)) (fun n x i y => rfl) x hn (fun e hm => toFrame_self _ _ _ (he e hm)) x.length N _ 0 (by omega) (by omega) (by omega) (lt_N hn) (by simp) (by simp)]
  rfl
theorem eqFrameS (x : List FrameT) (hn : x.length ≤ 1048576) (he : ∀ e ∈ x, okFrame e) : f_laws_eqFrameS x x = some true := by
  unfold f_laws_eqFrameS
  simp only [decide_true, Bool.not_true, cond_false]
  rw [eq_gen (F := f_laws_eqFrameS.l0) (q := fun e f => f_laws_eqFrame e.1 e.2.1 e.2.2 f.1 f.2.1 f.2.2) (d := (0, [], false)) (fun n x y b i => rfl) x hn (fun e hm => eqFrame_self _ _ _ (he e hm)) false x.length N 0 (by omega) (by omega) (by omega) (lt_N hn)]
  rfl
abbrev HomeT := List Int × Int × List Bool × Bool × Int × Bool × Int × List (Int × Bool)
def bigHome (e : HomeT) : Prop := e.1.length ≤ 9223372036854775807 ∧ e.2.2.1.length ≤ 9223372036854775807 ∧ e.2.2.2.2.2.2.2.length ≤ 9223372036854775807
def okHome (e : HomeT) : Prop := HomeS e.1 e.2.2.1 e.2.2.2.2.2.2.2
theorem szHomeS' (x : List HomeT) (left : Int) (h0 : 0 ≤ left) (h1 : left ≤ 1048576) (hx : x.length ≤ 9223372036854775807) (he : ∀ e ∈ x, bigHome e) :
    f_laws_szHomeS x left = some (-1) ∨ ∃ l, f_laws_szHomeS x left = some l ∧ 0 ≤ l ∧ l ≤ left ∧ x.length ≤ 1048576 ∧ ∀ e ∈ x, okHome e := by
  unfold f_laws_szHomeS
  rw [w64 (by omega) (by omega)]
  by_cases h : left - (x.length : Int) < 0
  · rw [decide_eq_true h]; exact .inl rfl
  · rw [decide_eq_false h, cond_false]
    have hn : x.length ≤ 1048576 := by omega
    rcases sz_gen (F := f_laws_szHomeS.l0) (s := fun e l => f_laws_szHome e.1 e.2.1 e.2.2.1 e.2.2.2.1 e.2.2.2.2.1 e.2.2.2.2.2.1 e.2.2.2.2.2.2.1 e.2.2.2.2.2.2.2 l) (Ok := okHome) (d := ([], 0, [], false, 0, false, 0, [])) (fun n x l q i => rfl) x hn (fun e hm l a0 a1 => by
        rcases szHome e.1 e.2.1 e.2.2.1 e.2.2.2.1 e.2.2.2.2.1 e.2.2.2.2.2.1 e.2.2.2.2.2.2.1 e.2.2.2.2.2.2.2 l a0 a1 (he e hm).1 (he e hm).2.1 (he e hm).2.2 with h2 | ⟨l', h2, h3, h4, h5⟩
        · exact .inl h2
        · exact .inr ⟨l', h2, h3, h4, h5⟩) 0 x.length N (left - (x.length : Int)) 0 (by omega) (by omega) (by omega) (by omega) (by omega) (lt_N hn) with h2 | ⟨l, h2, b0, b1, b2⟩
    · rw [h2]; exact .inl rfl
    · rw [h2]
      exact .inr ⟨l, rfl, b0, by omega, hn, fun e hm => b2 e (by simpa using hm)⟩
theorem toHomeS' (x : List HomeT) (hn : x.length ≤ 1048576) (he : ∀ e ∈ x, okHome e) : f_laws_toHomeS x = some x := by
  unfold f_laws_toHomeS
  rw [decide_eq_true (by omega), show Nat.ble ((x.length : Int).toNat) 1256584717458 = true from Nat.ble_eq_true_of_le (by omega)]
  simp only [Bool.and_self, cond_true]
  rw [to_gen (F := f_laws_toHomeS.l0) (g := fun e => f_laws_toHome e.1 e.2.1 e.2.2.1 e.2.2.2.1 e.2.2.2.2.1 e.2.2.2.2.2.1 e.2.2.2.2.2.2.1 e.2.2.2.2.2.2.2) (d := ([], 0, [], false, 0, false, 0, [])) (fun n x i y => rfl) x hn (fun e hm => toHome_self _ _ _ _ _ _ _ _ (he e hm)) x.length N _ 0 (by omega) (by omega) (by omega) (lt_N hn) (by simp) (by simp)]
  rfl
theorem eqHomeS' (x : List HomeT) (hn : x.length ≤ 1048576) (he : ∀ e ∈ x, okHome e) : f_laws_eqHomeS x x = some true := by
  unfold f_laws_eqHomeS
  simp only [decide_true, Bool.not_true, cond_false]
  rw [eq_gen (F := f_laws_eqHomeS.l0) (q := fun e f => f_laws_eqHome e.1 e.2.1 e.2.2.1 e.2.2.2.1 e.2.2.2.2.1 e.2.2.2.2.2.1 e.2.2.2.2.2.2.1 e.2.2.2.2.2.2.2 f.1 f.2.1 f.2.2.1 f.2.2.2.1 f.2.2.2.2.1 f.2.2.2.2.2.1 f.2.2.2.2.2.2.1 f.2.2.2.2.2.2.2) (d := ([], 0, [], false, 0, false, 0, [])) (fun n x y b i => rfl) x hn (fun e hm => eqHome_self _ _ _ _ _ _ _ _ (he e hm).g0 (he e hm).g2 (he e hm).g7) false x.length N 0 (by omega) (by omega) (by omega) (lt_N hn)]
  rfl
abbrev SenderT := Int × List MsgL
def bigSender (e : SenderT) : Prop := e.2.length ≤ 9223372036854775807 ∧ ∀ f ∈ e.2, f.2.2.2.length ≤ 9223372036854775807
def okSender (e : SenderT) : Prop := e.2.length ≤ 1048576 ∧ ∀ f ∈ e.2, f.2.2.2.length ≤ 1048576
theorem szSenderS (x : List SenderT) (left : Int) (h0 : 0 ≤ left) (h1 : left ≤ 1048576) (hx : x.length ≤ 9223372036854775807) (he : ∀ e ∈ x, bigSender e) :
    f_laws_szSenderS x left = some (-1) ∨ ∃ l, f_laws_szSenderS x left = some l ∧ 0 ≤ l ∧ l ≤ left ∧ x.length ≤ 1048576 ∧ ∀ e ∈ x, okSender e := by
  unfold f_laws_szSenderS
  rw [w64 (by omega) (by omega)]
  by_cases h : left - (x.length : Int) < 0
  · rw [decide_eq_true h]; exact .inl rfl
  · rw [decide_eq_false h, cond_false]
    have hn : x.length ≤ 1048576 := by omega
    rcases sz_gen (F := f_laws_szSenderS.l0) (s := fun e l => f_laws_szSender e.1 e.2 l) (Ok := okSender) (d := (0, [])) (fun n x l q i => rfl) x hn (fun e hm l a0 a1 => by
        rcases szSender e.1 e.2 l a0 a1 (he e hm).1 (he e hm).2 with h2 | ⟨l', h2, h3, h4, h5⟩
        · exact .inl h2
        · exact .inr ⟨l', h2, h3, h4, h5⟩) 0 x.length N (left - (x.length : Int)) 0 (by omega) (by omega) (by omega) (by omega) (by omega) (lt_N hn) with h2 | ⟨l, h2, b0, b1, b2⟩
    · rw [h2]; exact .inl rfl
    · rw [h2]
      exact .inr ⟨l, rfl, b0, by omega, hn, fun e hm => b2 e (by simpa using hm)⟩
theorem toSenderS (x : List SenderT) (hn : x.length ≤ 1048576) (he : ∀ e ∈ x, okSender e) : f_laws_toSenderS x = some x := by
  unfold f_laws_toSenderS
  rw [decide_eq_true (by omega), show Nat.ble ((x.length : Int).toNat) 4398046511104 = true from Nat.ble_eq_true_of_le (by omega)]
  simp only [Bool.and_self, cond_true]
  rw [to_gen (F := f_laws_toSenderS.l0) (g := fun e => f_laws_toSender e.1 e.2) (d := (0, [])) (fun n x i y => rfl) x hn (fun e hm => toSender_self _ _ (he e hm).1 (he e hm).2) x.length N _ 0 (by omega) (by omega) (by omega) (lt_N hn) (by simp) (by simp)]
  rfl
theorem eqSenderS (x : List SenderT) (hn : x.length ≤ 1048576) (he : ∀ e ∈ x, okSender e) : f_laws_eqSenderS x x = some true := by
  unfold f_laws_eqSenderS
  simp only [decide_true, Bool.not_true, cond_false]
  rw [eq_gen (F := f_laws_eqSenderS.l0) (q := fun e f => f_laws_eqSender e.1 e.2 f.1 f.2) (d := (0, [])) (fun n x y b i => rfl) x hn (fun e hm => eqSender_self _ _ (he e hm).1 (he e hm).2) false x.length N 0 (by omega) (by omega) (by omega) (lt_N hn)]
  rfl
theorem szReceiverS (x : List Int) (left : Int) (h0 : 0 ≤ left) (h1 : left ≤ 1048576) (hx : x.length ≤ 9223372036854775807) : (f_laws_szReceiverS x left = some (-1)) ∨ (f_laws_szReceiverS x left = some (left - x.length) ∧ (x.length : Int) ≤ left) := by
  unfold f_laws_szReceiverS
  rw [w64 (by omega) (by omega)]
  by_cases h : left - (x.length : Int) < 0
  · rw [decide_eq_true h]; exact .inl rfl
  · rw [decide_eq_false h]; exact .inr ⟨rfl, by omega⟩
theorem toReceiverS (x : List Int) (hn : x.length ≤ 1048576) : f_laws_toReceiverS x = some x := by
  unfold f_laws_toReceiverS
  rw [decide_eq_true (by omega), show Nat.ble ((x.length : Int).toNat) 17592186044416 = true from Nat.ble_eq_true_of_le (by omega)]
  simp only [Bool.and_self, cond_true]
  rw [to_gen (d := (0 : Int)) (F := f_laws_toReceiverS.l0) (g := f_laws_toReceiver) (fun n x i y => rfl) x hn (fun _ _ => rfl) x.length N _ 0 (by omega) (by omega) (by omega) (lt_N hn) (by simp) (by simp)]
  rfl
theorem eqReceiverS (x : List Int) (hn : x.length ≤ 1048576) : f_laws_eqReceiverS x x = some true := by
  unfold f_laws_eqReceiverS
  simp only [decide_true, Bool.not_true, cond_false]
  rw [eq_gen (d := (0 : Int)) (F := f_laws_eqReceiverS.l0) (q := f_laws_eqReceiver) (fun n x y b i => rfl) x hn (fun e _ => by unfold f_laws_eqReceiver; simp) false x.length N 0 (by omega) (by omega) (by omega) (lt_N hn)]
  rfl
structure NodeB (x1 : List FrameT) (x2 : List HomeT) (x3 : List SenderT) (x4 : List Int) : Prop where
  l1 : x1.length ≤ 9223372036854775807
  l2 : x2.length ≤ 9223372036854775807
  l3 : x3.length ≤ 9223372036854775807
  l4 : x4.length ≤ 9223372036854775807
  e1 : ∀ e ∈ x1, bigFrame e
  e2 : ∀ e ∈ x2, bigHome e
  e3 : ∀ e ∈ x3, bigSender e
structure NodeK (x1 : List FrameT) (x2 : List HomeT) (x3 : List SenderT) (x4 : List Int) : Prop where
  l1 : x1.length ≤ 1048576
  l2 : x2.length ≤ 1048576
  l3 : x3.length ≤ 1048576
  l4 : x4.length ≤ 1048576
  e1 : ∀ e ∈ x1, okFrame e
  e2 : ∀ e ∈ x2, okHome e
  e3 : ∀ e ∈ x3, okSender e
theorem szNode (x0 : Int) (x1 : List FrameT) (x2 : List HomeT) (x3 : List SenderT) (x4 : List Int) (left : Int) (h0 : 0 ≤ left) (h1 : left ≤ 1048576) (h : NodeB x1 x2 x3 x4) : f_laws_szNode x0 x1 x2 x3 x4 left = some (-1) ∨ ∃ l, f_laws_szNode x0 x1 x2 x3 x4 left = some l ∧ 0 ≤ l ∧ l ≤ left ∧ NodeK x1 x2 x3 x4 := by
  unfold f_laws_szNode
  rcases szFrameS x1 left h0 h1 h.l1 h.e1 with e | ⟨a, e, a0, a1, k1, k1'⟩
  · rw [e]; exact .inl rfl
  rw [e, Option.bind_some, decide_eq_false (show ¬ a < 0 by omega), cond_false]
  rcases szHomeS' x2 a a0 (by omega) h.l2 h.e2 with e | ⟨b, e, b0, b1, k2, k2'⟩
  · rw [e]; exact .inl rfl
  rw [e, Option.bind_some, decide_eq_false (show ¬ b < 0 by omega), cond_false]
  rcases szSenderS x3 b b0 (by omega) h.l3 h.e3 with e | ⟨c, e, c0, c1, k3, k3'⟩
  · rw [e]; exact .inl rfl
  rw [e, Option.bind_some, decide_eq_false (show ¬ c < 0 by omega), cond_false]
  rcases szReceiverS x4 c c0 (by omega) h.l4 with e | ⟨e, k4⟩
  · rw [e]; exact .inl rfl
  rw [e, Option.bind_some, decide_eq_false (by omega), cond_false]
  exact .inr ⟨_, rfl, by omega, by omega, k1, k2, k3, by omega, k1', k2', k3'⟩
theorem toNode_self (x0 : Int) (x1 : List FrameT) (x2 : List HomeT) (x3 : List SenderT) (x4 : List Int) (h : NodeK x1 x2 x3 x4) : f_laws_toNode x0 x1 x2 x3 x4 = some (x0, x1, x2, x3, x4) := by
  unfold f_laws_toNode
  simp only [toFrameS x1 h.l1 h.e1, toHomeS' x2 h.l2 h.e2, toSenderS x3 h.l3 h.e3, toReceiverS x4 h.l4, Option.bind_some]
theorem eqNode_self (x0 : Int) (x1 : List FrameT) (x2 : List HomeT) (x3 : List SenderT) (x4 : List Int) (h : NodeK x1 x2 x3 x4) : f_laws_eqNode x0 x1 x2 x3 x4 x0 x1 x2 x3 x4 = some true := by
  unfold f_laws_eqNode
  simp only [decide_true, eqFrameS x1 h.l1 h.e1, eqHomeS' x2 h.l2 h.e2, eqSenderS x3 h.l3 h.e3, eqReceiverS x4 h.l4, Option.bind_some, Bool.not_true, cond_false]
theorem bigOf {x1 : List FrameT} {x2 : List HomeT} {x3 : List SenderT} {x4 : List Int} (l1 : x1.length ≤ 9223372036854775807) (l2 : x2.length ≤ 9223372036854775807) (l3 : x3.length ≤ 9223372036854775807) (l4 : x4.length ≤ 9223372036854775807)
    (e1 : ∀ i, i < x1.length → bigFrame (x1.getD i (0, [], false))) (e2 : ∀ i, i < x2.length → bigHome (x2.getD i ([], 0, [], false, 0, false, 0, []))) (e3 : ∀ i, i < x3.length → bigSender (x3.getD i (0, []))) : NodeB x1 x2 x3 x4 :=
  ⟨l1, l2, l3, l4, all_getD e1, all_getD e2, all_getD e3⟩
noncomputable def tF (e : FrameT) : Bool := (f_spec_FrameOk e.1 e.2.1 e.2.2).getD false
theorem tF_eq (e : FrameT) (h : okFrame e) : f_spec_FrameOk e.1 e.2.1 e.2.2 = some (tF e) ∧ f_impl_FrameOk e.1 e.2.1 e.2.2 = some (tF e) := by
  obtain ⟨b, h1, h2⟩ := same_frameOk e.1 e.2.1 e.2.2 h
  unfold tF
  rw [h1, h2]
  exact ⟨rfl, rfl⟩
noncomputable def tS (e : SenderT) : Bool := (f_spec_SenderOk e.1 e.2).getD false
theorem tS_eq (e : SenderT) (h : okSender e) : f_spec_SenderOk e.1 e.2 = some (tS e) ∧ f_impl_SenderOk e.1 e.2 = some (tS e) := by
  obtain ⟨b, h1, h2⟩ := same_senderOk e.1 e.2 h.1 h.2
  unfold tS
  rw [h1, h2]
  exact ⟨rfl, rfl⟩
def tH (k : Int) (e : HomeT) : Bool := homeOkB e.1 e.2.1 e.2.2.1 e.2.2.2.2.1 e.2.2.2.2.2.2.1 e.2.2.2.2.2.2.2 k
theorem tH_eq (k : Int) (e : HomeT) (h : okHome e) : f_spec_HomeOk e.1 e.2.1 e.2.2.1 e.2.2.2.1 e.2.2.2.2.1 e.2.2.2.2.2.1 e.2.2.2.2.2.2.1 e.2.2.2.2.2.2.2 k = some (tH k e) ∧ f_impl_HomeOk e.1 e.2.1 e.2.2.1 e.2.2.2.1 e.2.2.2.2.1 e.2.2.2.2.2.1 e.2.2.2.2.2.2.1 e.2.2.2.2.2.2.2 k = some (tH k e) :=
  ⟨specHomeOk _ _ _ _ _ _ _ _ _ h, implHomeOk _ _ _ _ _ _ _ _ _ h⟩
noncomputable def nodeOkB (x0 : Int) (x1 : List FrameT) (x2 : List HomeT) (x3 : List SenderT) (x4 : List Int) (k : Int) : Bool :=
  rng2 1 k 4 && (rng2 0 x0 (k - 1) && (decide ((x1.length : Int) = 6) && (decide ((x2.length : Int) = 6) && (decide ((x3.length : Int) = k) && (decide ((x4.length : Int) = k) && ((x1.all tF && x2.all (tH k)) && (x3.all tS && x4.all fun e => rng2 0 e 100000)))))))
theorem specNodeOk (x0 : Int) (x1 : List FrameT) (x2 : List HomeT) (x3 : List SenderT) (x4 : List Int) (k : Int) (h : NodeK x1 x2 x3 x4) : f_spec_NodeOk x0 x1 x2 x3 x4 k = some (nodeOkB x0 x1 x2 x3 x4 k) := by
  unfold f_spec_NodeOk nodeOkB
  rw [in_rng2]
  cases hr : rng2 1 k 4 with
  | false => rfl
  | true =>
    have hr' := hr
    unfold rng2 at hr'
    simp only [Bool.and_eq_true, decide_eq_true_eq] at hr'
    simp only [in_rng2, Option.bind_some, w64 (show -9223372036854775808 ≤ k - 1 by omega) (by omega)]
    cases rng2 0 x0 (k - 1) with
    | false => rfl
    | true =>
      by_cases h1 : (x1.length : Int) = 6
      · rw [decide_eq_true h1]
        by_cases h2 : (x2.length : Int) = 6
        · rw [decide_eq_true h2]
          by_cases h3 : (x3.length : Int) = k
          · rw [decide_eq_true h3]
            by_cases h4 : (x4.length : Int) = k
            · rw [decide_eq_true h4]
              have e0 := all2_loop (d := ((0 : Int), ([] : List Int), false)) (d' := (([] : List Int), (0 : Int), ([] : List Bool), false, (0 : Int), false, (0 : Int), ([] : List (Int × Bool)))) (F := fun n i => f_spec_NodeOk.l0 n k false i x0 x1 x2 x3 x4) (q := tF) (r := tH k) (b := (k, false, x0, x1, x2, x3, x4)) x1 x2 h.l1 (by omega)
                (fun n i hi => by simp only [f_spec_NodeOk.l0, decide_eq_false (show ¬ i < 6 by omega), cond_false])
                (fun n i a0 a1 m1 m2 => by
                  simp only [f_spec_NodeOk.l0, decide_eq_true (show i < 6 by omega), decide_eq_true a0, decide_eq_true a1, decide_eq_true (show i < (x2.length : Int) by omega), cond_true, Bool.and_self, (tF_eq _ (h.e1 _ m1)).1, (tH_eq k _ (h.e2 _ m2)).1, Option.bind_some, w64 (show -9223372036854775808 ≤ i + 1 by omega) (by omega)]
                  cases tF (x1.getD i.toNat (0, [], false)) <;> cases tH k (x2.getD i.toNat ([], 0, [], false, 0, false, 0, [])) <;> rfl)
              have e1 := all2_loop (d := ((0 : Int), ([] : List MsgL))) (d' := (0 : Int)) (F := fun n i => f_spec_NodeOk.l1 n k false i x0 x1 x2 x3 x4) (q := tS) (r := fun e => rng2 0 e 100000) (b := false) x3 x4 h.l3 (by omega)
                (fun n i hi => by simp only [f_spec_NodeOk.l1, decide_eq_false (show ¬ i < k by omega), cond_false])
                (fun n i a0 a1 m1 m2 => by
                  simp only [f_spec_NodeOk.l1, decide_eq_true (show i < k by omega), decide_eq_true a0, decide_eq_true a1, decide_eq_true (show i < (x4.length : Int) by omega), cond_true, Bool.and_self, (tS_eq _ (h.e3 _ m1)).1, in_rng2, Option.bind_some, w64 (show -9223372036854775808 ≤ i + 1 by omega) (by omega)]
                  cases tS (x3.getD i.toNat (0, [])) <;> cases rng2 0 (x4.getD i.toNat 0) 100000 <;> rfl)
              simp only [Bool.not_true, cond_false, e0, Option.bind_some, Bool.true_and]
              cases x1.all tF && x2.all (tH k) with
              | false => rfl
              | true =>
                simp only [cond_true, cs, e1, Option.bind_some, Bool.true_and]
                cases x3.all tS && x4.all fun e => rng2 0 e 100000 <;> rfl
            · rw [decide_eq_false h4]; rfl
          · rw [decide_eq_false h3]; rfl
        · rw [decide_eq_false h2]; rfl
      · rw [decide_eq_false h1]; rfl
theorem implNodeOk (x0 : Int) (x1 : List FrameT) (x2 : List HomeT) (x3 : List SenderT) (x4 : List Int) (k : Int) (h : NodeK x1 x2 x3 x4) : f_impl_NodeOk x0 x1 x2 x3 x4 k = some (nodeOkB x0 x1 x2 x3 x4 k) := by
  unfold f_impl_NodeOk nodeOkB f_impl_isOf
  rw [from_rng2]
  cases hr : rng2 1 k 4 with
  | false => rfl
  | true =>
    have hr' := hr
    unfold rng2 at hr'
    simp only [Bool.and_eq_true, decide_eq_true_eq] at hr'
    simp only [from_rng2, cond_true, Option.bind_some, w64 (show -9223372036854775808 ≤ k - 1 by omega) (by omega), Bool.true_and]
    have f0 := any_loop (d := ((0 : Int), ([] : List Int), false)) (F := fun n i => f_impl_NodeOk.l0 n x1 0 (x1.length : Int) i x0 x1 x2 x3 x4 k) (q := tF) (g := fun i => (i, x0, x1, x2, x3, x4, k)) (e := (0, x0, x1, x2, x3, x4, k)) x1 h.l1
      (fun n i hi => by simp only [f_impl_NodeOk.l0, decide_eq_false hi, cond_false])
      (fun n i a0 a1 m => by
        have := h.l1
        simp only [f_impl_NodeOk.l0, f_impl_NodeOk_1, decide_eq_true a1, decide_eq_true a0, cond_true, Bool.and_self, (tF_eq _ (h.e1 _ m)).2, Option.bind_some, w64 (show -9223372036854775808 ≤ i + 1 by omega) (by omega)]
        cases tF (x1.getD i.toNat (0, [], false)) <;> rfl)
    have f7 := any_loop (d := (([] : List Int), (0 : Int), ([] : List Bool), false, (0 : Int), false, (0 : Int), ([] : List (Int × Bool)))) (F := fun n i => f_impl_NodeOk.l7 n x2 0 (x2.length : Int) i x0 x1 x2 x3 x4 k) (q := tH k) (g := fun i => (i, x0, x1, x2, x3, x4, k)) (e := (0, x0, x1, x2, x3, x4, k)) x2 h.l2
      (fun n i hi => by simp only [f_impl_NodeOk.l7, decide_eq_false hi, cond_false])
      (fun n i a0 a1 m => by
        have := h.l2
        simp only [f_impl_NodeOk.l7, f_impl_NodeOk_2, decide_eq_true a1, decide_eq_true a0, cond_true, Bool.and_self, (tH_eq k _ (h.e2 _ m)).2, Option.bind_some, w64 (show -9223372036854775808 ≤ i + 1 by omega) (by omega)]
        cases tH k (x2.getD i.toNat ([], 0, [], false, 0, false, 0, [])) <;> rfl)
    have f8 := any_loop (d := ((0 : Int), ([] : List MsgL))) (F := fun n i => f_impl_NodeOk.l8 n x3 0 (x3.length : Int) i x0 x1 x2 x3 x4 k) (q := tS) (g := fun i => (i, x0, x1, x2, x3, x4, k)) (e := (0, x0, x1, x2, x3, x4, k)) x3 h.l3
      (fun n i hi => by simp only [f_impl_NodeOk.l8, decide_eq_false hi, cond_false])
      (fun n i a0 a1 m => by
        have := h.l3
        simp only [f_impl_NodeOk.l8, f_impl_NodeOk_3, decide_eq_true a1, decide_eq_true a0, cond_true, Bool.and_self, (tS_eq _ (h.e3 _ m)).2, Option.bind_some, w64 (show -9223372036854775808 ≤ i + 1 by omega) (by omega)]
        cases tS (x3.getD i.toNat (0, [])) <;> rfl)
    have f9 := any_loop (d := (0 : Int)) (F := fun n i => f_impl_NodeOk.l9 n x4 0 (x4.length : Int) i x0 x1 x2 x3 x4 k) (q := fun e => rng2 0 e 100000) (g := fun i => (i, x0, x1, x2, x3, x4, k)) (e := (0, x0, x1, x2, x3, x4, k)) x4 h.l4
      (fun n i hi => by simp only [f_impl_NodeOk.l9, decide_eq_false hi, cond_false])
      (fun n i a0 a1 m => by
        have := h.l4
        simp only [f_impl_NodeOk.l9, f_impl_NodeOk_4, f_impl_isSeq, decide_eq_true a1, decide_eq_true a0, cond_true, Bool.and_self, from_rng2, Option.bind_some, w64 (show -9223372036854775808 ≤ i + 1 by omega) (by omega)]
        cases rng2 0 (x4.getD i.toNat 0) 100000 <;> rfl)
    cases rng2 0 x0 (k - 1) <;> cases decide ((x1.length : Int) = 6) <;> cases decide ((x2.length : Int) = 6) <;> cases decide ((x3.length : Int) = k) <;> cases decide ((x4.length : Int) = k) <;> try rfl
    rcases f0 with ⟨q0, e0⟩ | ⟨q0, j, j0, -, e0⟩
    · rcases f7 with ⟨q7, e7⟩ | ⟨q7, j, j0, -, e7⟩
      · rcases f8 with ⟨q8, e8⟩ | ⟨q8, j, j0, -, e8⟩
        · rcases f9 with ⟨q9, e9⟩ | ⟨q9, j, j0, -, e9⟩
          · simp only [cond_true, e0, e7, e8, e9, q0, q7, q8, q9, Option.bind_some, cs, Bool.and_self]
          · simp only [cond_true, e0, e7, e8, e9, q0, q7, q8, q9, Option.bind_some, cs, Bool.and_self, Bool.and_false, decide_eq_true j0, Bool.not_true]
        · simp only [cond_true, e0, e7, e8, q0, q7, q8, Option.bind_some, cs, Bool.and_self, Bool.and_false, Bool.false_and, decide_eq_true j0, Bool.not_true, cond_false]
      · simp only [cond_true, e0, e7, q0, q7, Option.bind_some, cs, Bool.and_false, Bool.false_and, decide_eq_true j0, Bool.not_true, cond_false]
    · simp only [cond_true, e0, q0, Option.bind_some, cs, Bool.and_false, Bool.false_and, decide_eq_true j0, Bool.not_true, cond_false]
abbrev NodeT := Int × List FrameT × List HomeT × List SenderT × List Int
theorem getD_set_self {α : Type} (x : List α) (d e : α) (i : Int) (h0 : 0 ≤ i) (h1 : i < x.length) : (x.set i.toNat e).getD i.toNat d = e := by
  rw [List.getD_eq_getElem?_getD, List.getElem?_set_self (by omega)]; rfl
theorem getD_set_other {α : Type} (x : List α) (d e : α) (i j : Nat) (h : i ≠ j) : (x.set i e).getD j d = x.getD j d := by
  rw [List.getD_eq_getElem?_getD, List.getElem?_set_ne h, List.getD_eq_getElem?_getD]
theorem mhB_loop {α : Type} {d : α} {F : Nat → Int → Int → Int → List α → Option (Int × Int × List α)} {H : Nat → List α → Int → Int → Int → Option (Int ⊕ (Int × Int))} {P : α → Prop} {M B : Int} (hM : 0 ≤ M)
    (f0 : ∀ n c q i x, ¬ i < (x.length : Int) → F (n + 1) c q i x = some (c, q, x)) (g0 : ∀ n x c q i, ¬ i < (x.length : Int) → H (n + 1) x c q i = some (.inr (c, q)))
    (f1 : ∀ c e, P e → 0 ≤ c → c ≤ B → ∃ e' c', c ≤ c' ∧ c' ≤ c + M ∧ (∀ n q i (x : List α), x.length ≤ 1048576 → 0 ≤ i → i < (x.length : Int) → x.getD i.toNat d = e → F (n + 1) c q i x = F n c' q (i + 1) (x.set i.toNat e')) ∧
      ∀ n q i (x : List α), x.length ≤ 1048576 → 0 ≤ i → i < (x.length : Int) → x.getD i.toNat d = e' → H (n + 1) x c q i = H n x c' q (i + 1))
    (k : Nat) : ∀ (n m : Nat) (x : List α) (c q q' i : Int), x.length ≤ 1048576 → (∀ j : Nat, i.toNat ≤ j → j < x.length → P (x.getD j d)) → 0 ≤ c → c + M * k ≤ B → 0 ≤ i → i ≤ x.length → (x.length : Int) - i = k → k < n → k < m →
      ∃ y c', F n c q i x = some (c', q, y) ∧ y.length = x.length ∧ c ≤ c' ∧ c' ≤ c + M * k ∧ (∀ j : Nat, j < i.toNat → y.getD j d = x.getD j d) ∧ H m y c q' i = some (.inr (c', q')) := by
  induction k with
  | zero =>
    intro n m x c q q' i hx hp hc0 hc1 h0 h1 hd hn hm
    obtain ⟨n, rfl⟩ := succ_fuel hn
    obtain ⟨m, rfl⟩ := succ_fuel hm
    exact ⟨x, c, f0 n c q i x (by omega), rfl, Int.le_refl _, by omega, fun _ _ => rfl, g0 m x c q' i (by omega)⟩
  | succ k ih =>
    intro n m x c q q' i hx hp hc0 hc1 h0 h1 hd hn hm
    obtain ⟨n, rfl⟩ := succ_fuel hn
    obtain ⟨m, rfl⟩ := succ_fuel hm
    have e1 : M * ((k + 1 : Nat) : Int) = M * (k : Int) + M := by rw [Int.natCast_add, Int.mul_add]; simp
    have e2 : 0 ≤ M * (k : Int) := Int.mul_nonneg hM (by omega)
    rw [e1] at hc1 ⊢
    obtain ⟨e', c1, b1, b2, b3, b4⟩ := f1 c _ (hp i.toNat (Nat.le_refl _) (by omega)) hc0 (by omega)
    obtain ⟨y, c', h2, h3, h4, h5, h6, h7⟩ := ih n m (x.set i.toNat e') c1 q q' (i + 1) (by rw [List.length_set]; exact hx) (fun j h2 h3 => by
      rw [List.length_set] at h3
      rw [getD_set_other x d e' i.toNat j (by omega)]
      exact hp j (by omega) h3) (by omega) (by omega) (by omega) (by rw [List.length_set]; omega) (by rw [List.length_set]; omega) (by omega) (by omega)
    rw [List.length_set] at h3
    refine ⟨y, c', ?_, h3, by omega, by omega, fun j hj => ?_, ?_⟩
    · rw [b3 n q i x hx h0 (by omega) rfl]; exact h2
    · rw [h6 j (by omega)]
      exact getD_set_other x d e' i.toNat j (by omega)
    · rw [b4 m q' i y (by omega) h0 (by omega) (by rw [h6 i.toNat (by omega)]; exact getD_set_self x d e' i h0 (by omega))]
      exact h7
/-- (with a bound.) What is marked from c on, holds what was marked. -/
theorem mhB_gen {α : Type} {d : α} {F : Nat → Int → Int → Int → List α → Option (Int × Int × List α)} {H : Nat → List α → Int → Int → Int → Option (Int ⊕ (Int × Int))} {P : α → Prop} {M B : Int} (hM : 0 ≤ M)
    (f0 : ∀ n c q i x, ¬ i < (x.length : Int) → F (n + 1) c q i x = some (c, q, x)) (g0 : ∀ n x c q i, ¬ i < (x.length : Int) → H (n + 1) x c q i = some (.inr (c, q)))
    (f1 : ∀ c e, P e → 0 ≤ c → c ≤ B → ∃ e' c', c ≤ c' ∧ c' ≤ c + M ∧ (∀ n q i (x : List α), x.length ≤ 1048576 → 0 ≤ i → i < (x.length : Int) → x.getD i.toNat d = e → F (n + 1) c q i x = F n c' q (i + 1) (x.set i.toNat e')) ∧
      ∀ n q i (x : List α), x.length ≤ 1048576 → 0 ≤ i → i < (x.length : Int) → x.getD i.toNat d = e' → H (n + 1) x c q i = H n x c' q (i + 1))
    (x : List α) (hx : x.length ≤ 1048576) (hp : ∀ e ∈ x, P e) (c : Int) (h0 : 0 ≤ c) (h1 : c + M * x.length ≤ B) : ∃ y c', F N c 0 0 x = some (c', 0, y) ∧ y.length = x.length ∧ c ≤ c' ∧ c' ≤ c + M * x.length ∧ H N y c 0 0 = some (.inr (c', 0)) := by
  have hN : x.length < N := Nat.lt_of_le_of_lt hx (Nat.lt_trans (by omega) big)
  obtain ⟨y, c', a1, a2, a3, a4, _, a5⟩ := mhB_loop (d := d) hM f0 g0 f1 x.length N N x c 0 0 0 hx (fun j _ hj => hp _ (by
    rw [List.getD_eq_getElem?_getD, List.getElem?_eq_getElem hj]
    exact List.getElem_mem hj)) h0 h1 (by omega) (by omega) (by omega) hN hN
  exact ⟨y, c', a1, a2, a3, a4, a5⟩
def sumW {α : Type} (W : α → Int) : List α → Int
  | [] => 0
  | a :: x => W a + sumW W x
theorem sumW_nonneg {α : Type} {W : α → Int} (hW : ∀ e, 0 ≤ W e) : ∀ x : List α, 0 ≤ sumW W x
  | [] => Int.le_refl _
  | a :: x => by have := hW a; have := sumW_nonneg hW x; simp only [sumW]; omega
theorem mhW_loop {α : Type} {d : α} {F : Nat → Int → Int → Int → List α → Option (Int × Int × List α)} {H : Nat → List α → Int → Int → Int → Option (Int ⊕ (Int × Int))} {P : α → Prop} {W : α → Int} {B : Int} (hW : ∀ e, 0 ≤ W e)
    (f0 : ∀ n c q i x, ¬ i < (x.length : Int) → F (n + 1) c q i x = some (c, q, x)) (g0 : ∀ n x c q i, ¬ i < (x.length : Int) → H (n + 1) x c q i = some (.inr (c, q)))
    (f1 : ∀ c e, P e → 0 ≤ c → c + W e ≤ B → ∃ e' c', c ≤ c' ∧ c' ≤ c + W e ∧ (∀ n q i (x : List α), x.length ≤ 1048576 → 0 ≤ i → i < (x.length : Int) → x.getD i.toNat d = e → F (n + 1) c q i x = F n c' q (i + 1) (x.set i.toNat e')) ∧
      ∀ n q i (x : List α), x.length ≤ 1048576 → 0 ≤ i → i < (x.length : Int) → x.getD i.toNat d = e' → H (n + 1) x c q i = H n x c' q (i + 1))
    (k : Nat) : ∀ (n m : Nat) (x : List α) (c q q' i : Int), x.length ≤ 1048576 → (∀ j : Nat, i.toNat ≤ j → j < x.length → P (x.getD j d)) → 0 ≤ c → c + sumW W (x.drop i.toNat) ≤ B → 0 ≤ i → i ≤ x.length → (x.length : Int) - i = k → k < n → k < m →
      ∃ y c', F n c q i x = some (c', q, y) ∧ y.length = x.length ∧ c ≤ c' ∧ c' ≤ c + sumW W (x.drop i.toNat) ∧ (∀ j : Nat, j < i.toNat → y.getD j d = x.getD j d) ∧ H m y c q' i = some (.inr (c', q')) := by
  induction k with
  | zero =>
    intro n m x c q q' i hx hp hc0 hc1 h0 h1 hd hn hm
    obtain ⟨n, rfl⟩ := succ_fuel hn
    obtain ⟨m, rfl⟩ := succ_fuel hm
    have := sumW_nonneg hW (x.drop i.toNat)
    exact ⟨x, c, f0 n c q i x (by omega), rfl, Int.le_refl _, by omega, fun _ _ => rfl, g0 m x c q' i (by omega)⟩
  | succ k ih =>
    intro n m x c q q' i hx hp hc0 hc1 h0 h1 hd hn hm
    obtain ⟨n, rfl⟩ := succ_fuel hn
    obtain ⟨m, rfl⟩ := succ_fuel hm
    have e1 : sumW W (x.drop i.toNat) = W (x.getD i.toNat d) + sumW W (x.drop (i + 1).toNat) := by rw [drop_getD x d i h0 (by omega)]; rfl
    have e2 : 0 ≤ sumW W (x.drop (i + 1).toNat) := sumW_nonneg hW _
    rw [e1] at hc1 ⊢
    obtain ⟨e', c1, b1, b2, b3, b4⟩ := f1 c _ (hp i.toNat (Nat.le_refl _) (by omega)) hc0 (by omega)
    have e3 : (x.set i.toNat e').drop (i + 1).toNat = x.drop (i + 1).toNat := by rw [List.drop_set_of_lt (by omega)]
    obtain ⟨y, c', h2, h3, h4, h5, h6, h7⟩ := ih n m (x.set i.toNat e') c1 q q' (i + 1) (by rw [List.length_set]; exact hx) (fun j h2 h3 => by
      rw [List.length_set] at h3
      rw [getD_set_other x d e' i.toNat j (by omega)]
      exact hp j (by omega) h3) (by omega) (by rw [e3]; omega) (by omega) (by rw [List.length_set]; omega) (by rw [List.length_set]; omega) (by omega) (by omega)
    rw [List.length_set] at h3
    rw [e3] at h5
    refine ⟨y, c', ?_, h3, by omega, by omega, fun j hj => ?_, ?_⟩
    · rw [b3 n q i x hx h0 (by omega) rfl]; exact h2
    · rw [h6 j (by omega)]
      exact getD_set_other x d e' i.toNat j (by omega)
    · rw [b4 m q' i y (by omega) h0 (by omega) (by rw [h6 i.toNat (by omega)]; exact getD_set_self x d e' i h0 (by omega))]
      exact h7
/-- (with weights.) What is marked from c on, holds what was marked. -/
theorem mhW_gen {α : Type} {d : α} {F : Nat → Int → Int → Int → List α → Option (Int × Int × List α)} {H : Nat → List α → Int → Int → Int → Option (Int ⊕ (Int × Int))} {P : α → Prop} {W : α → Int} {B : Int} (hW : ∀ e, 0 ≤ W e)
    (f0 : ∀ n c q i x, ¬ i < (x.length : Int) → F (n + 1) c q i x = some (c, q, x)) (g0 : ∀ n x c q i, ¬ i < (x.length : Int) → H (n + 1) x c q i = some (.inr (c, q)))
    (f1 : ∀ c e, P e → 0 ≤ c → c + W e ≤ B → ∃ e' c', c ≤ c' ∧ c' ≤ c + W e ∧ (∀ n q i (x : List α), x.length ≤ 1048576 → 0 ≤ i → i < (x.length : Int) → x.getD i.toNat d = e → F (n + 1) c q i x = F n c' q (i + 1) (x.set i.toNat e')) ∧
      ∀ n q i (x : List α), x.length ≤ 1048576 → 0 ≤ i → i < (x.length : Int) → x.getD i.toNat d = e' → H (n + 1) x c q i = H n x c' q (i + 1))
    (x : List α) (hx : x.length ≤ 1048576) (hp : ∀ e ∈ x, P e) (c : Int) (h0 : 0 ≤ c) (h1 : c + sumW W x ≤ B) : ∃ y c', F N c 0 0 x = some (c', 0, y) ∧ y.length = x.length ∧ c ≤ c' ∧ c' ≤ c + sumW W x ∧ H N y c 0 0 = some (.inr (c', 0)) := by
  have hN : x.length < N := Nat.lt_of_le_of_lt hx (Nat.lt_trans (by omega) big)
  obtain ⟨y, c', a1, a2, a3, a4, _, a5⟩ := mhW_loop (d := d) hW f0 g0 f1 x.length N N x c 0 0 0 hx (fun j _ hj => hp _ (by
    rw [List.getD_eq_getElem?_getD, List.getElem?_eq_getElem hj]
    exact List.getElem_mem hj)) h0 (by simpa using h1) (by omega) (by omega) (by omega) hN hN
  exact ⟨y, c', a1, a2, a3, by simpa using a4, a5⟩
theorem markIntB (x : List Int) (hx : x.length ≤ 1048576) (c : Int) (h0 : 0 ≤ c) (h1 : c ≤ 1152921504606846976) : ∃ y c', f_laws_markIntS x c = some (c', y) ∧ y.length = x.length ∧ c ≤ c' ∧ c' ≤ c + x.length ∧ f_laws_heldIntS y c = some c' := by
  obtain ⟨y, c', a1, a2, a3, a4, a5⟩ := mhB_gen (d := (0 : Int)) (F := f_laws_markIntS.l0) (H := f_laws_heldIntS.l0) (P := fun _ => True) (M := 1) (B := 2305843009213693952) (by omega)
    (fun n c q i x h => by simp only [f_laws_markIntS.l0, decide_eq_false h, cond_false]) (fun n x c q i h => by simp only [f_laws_heldIntS.l0, decide_eq_false h, cond_false])
    (fun c e _ h0 h1 => ⟨c, c + 1, by omega, by omega, fun n q i x hx hi0 hi1 _ => by
      simp only [f_laws_markIntS.l0, decide_eq_true hi1, decide_eq_true hi0, cond_true, Bool.and_self, Option.bind_some, w64 (show -9223372036854775808 ≤ c + 1 by omega) (by omega), w64 (show -9223372036854775808 ≤ i + 1 by omega) (by omega)],
      fun n q i x hx hi0 hi1 he => by
      simp only [f_laws_heldIntS.l0, decide_eq_true hi1, decide_eq_true hi0, cond_true, Bool.and_self, he, decide_true, Bool.not_true, cond_false, w64 (show -9223372036854775808 ≤ c + 1 by omega) (by omega), w64 (show -9223372036854775808 ≤ i + 1 by omega) (by omega)]⟩)
    x hx (fun _ _ => trivial) c h0 (by omega)
  refine ⟨y, c', ?_, a2, a3, by omega, ?_⟩
  · unfold f_laws_markIntS; rw [a1]; rfl
  · unfold f_laws_heldIntS; rw [a5]; rfl
theorem markBoolB (x : List Bool) (hx : x.length ≤ 1048576) (c : Int) (h0 : 0 ≤ c) (h1 : c ≤ 1152921504606846976) : ∃ y c', f_laws_markBoolS x c = some (c', y) ∧ y.length = x.length ∧ c ≤ c' ∧ c' ≤ c + x.length ∧ f_laws_heldBoolS y c = some c' := by
  obtain ⟨y, c', a1, a2, a3, a4, a5⟩ := mhB_gen (d := false) (F := f_laws_markBoolS.l0) (H := f_laws_heldBoolS.l0) (P := fun _ => True) (M := 1) (B := 2305843009213693952) (by omega)
    (fun n c q i x h => by simp only [f_laws_markBoolS.l0, decide_eq_false h, cond_false]) (fun n x c q i h => by simp only [f_laws_heldBoolS.l0, decide_eq_false h, cond_false])
    (fun c e _ h0 h1 => ⟨decide (Int.tmod c 3 = 0), c + 1, by omega, by omega, fun n q i x hx hi0 hi1 _ => by
      simp only [f_laws_markBoolS.l0, decide_eq_true hi1, decide_eq_true hi0, cond_true, Bool.and_self, Option.bind_some, w64 (show -9223372036854775808 ≤ c + 1 by omega) (by omega), w64 (show -9223372036854775808 ≤ i + 1 by omega) (by omega)],
      fun n q i x hx hi0 hi1 he => by
      simp only [f_laws_heldBoolS.l0, decide_eq_true hi1, decide_eq_true hi0, cond_true, Bool.and_self, he, beq_self_eq_true, Bool.not_true, cond_false, w64 (show -9223372036854775808 ≤ c + 1 by omega) (by omega), w64 (show -9223372036854775808 ≤ i + 1 by omega) (by omega)]⟩)
    x hx (fun _ _ => trivial) c h0 (by omega)
  refine ⟨y, c', ?_, a2, a3, by omega, ?_⟩
  · unfold f_laws_markBoolS; rw [a1]; rfl
  · unfold f_laws_heldBoolS; rw [a5]; rfl
theorem markWaitB (x : List (Int × Bool)) (hx : x.length ≤ 1048576) (c : Int) (h0 : 0 ≤ c) (h1 : c ≤ 1152921504606846976) : ∃ y c', f_laws_markWaitS x c = some (c', y) ∧ y.length = x.length ∧ c ≤ c' ∧ c' ≤ c + 2 * x.length ∧ f_laws_heldWaitS y c = some c' := by
  obtain ⟨y, c', a1, a2, a3, a4, a5⟩ := mhB_gen (d := ((0 : Int), false)) (F := f_laws_markWaitS.l0) (H := f_laws_heldWaitS.l0) (P := fun _ => True) (M := 2) (B := 2305843009213693952) (by omega)
    (fun n c q i x h => by simp only [f_laws_markWaitS.l0, decide_eq_false h, cond_false]) (fun n x c q i h => by simp only [f_laws_heldWaitS.l0, decide_eq_false h, cond_false])
    (fun c e _ h0 h1 => ⟨(c, decide (Int.tmod (c + 1) 3 = 0)), c + 1 + 1, by omega, by omega, fun n q i x hx hi0 hi1 _ => by
      simp only [f_laws_markWaitS.l0, decide_eq_true hi1, decide_eq_true hi0, cond_true, Bool.and_self, Option.bind_some, w64 (show -9223372036854775808 ≤ c + 1 by omega) (by omega), w64 (show -9223372036854775808 ≤ c + 1 + 1 by omega) (by omega), w64 (show -9223372036854775808 ≤ i + 1 by omega) (by omega), List.length_set, List.set_set, getD_set_self _ _ _ i hi0 hi1],
      fun n q i x hx hi0 hi1 he => by
      simp only [f_laws_heldWaitS.l0, decide_eq_true hi1, decide_eq_true hi0, cond_true, Bool.and_self, he, beq_self_eq_true, decide_true, Bool.not_true, cond_false, w64 (show -9223372036854775808 ≤ c + 1 by omega) (by omega), w64 (show -9223372036854775808 ≤ c + 1 + 1 by omega) (by omega), w64 (show -9223372036854775808 ≤ i + 1 by omega) (by omega)]⟩)
    x hx (fun _ _ => trivial) c h0 (by omega)
  refine ⟨y, c', ?_, a2, a3, by omega, ?_⟩
  · unfold f_laws_markWaitS; rw [a1]; rfl
  · unfold f_laws_heldWaitS; rw [a5]; rfl
def wFrame (e : FrameT) : Int := 2 + (e.2.1.length : Int)
def wHome (e : HomeT) : Int := 5 + (e.1.length : Int) + (e.2.2.1.length : Int) + 2 * (e.2.2.2.2.2.2.2.length : Int)
def wMsg (e : MsgL) : Int := 3 + (e.2.2.2.length : Int)
def wSender (e : SenderT) : Int := 1 + sumW wMsg e.2
theorem wMsg0 (e : MsgL) : 0 ≤ wMsg e := by unfold wMsg; omega
theorem wSender0 (e : SenderT) : 0 ≤ wSender e := by have := sumW_nonneg wMsg0 e.2; unfold wSender; omega
theorem markFrameW (x : List FrameT) (hx : x.length ≤ 1048576) (he : ∀ e ∈ x, okFrame e) (c : Int) (h0 : 0 ≤ c) (h1 : c + sumW wFrame x ≤ 1152921504606846976) : ∃ y c', f_laws_markFrameS x c = some (c', y) ∧ y.length = x.length ∧ c ≤ c' ∧ c' ≤ c + sumW wFrame x ∧ f_laws_heldFrameS y c = some c' := by
  obtain ⟨y, c', a1, a2, a3, a4, a5⟩ := mhW_gen (d := ((0 : Int), ([] : List Int), false)) (F := f_laws_markFrameS.l0) (H := f_laws_heldFrameS.l0) (P := okFrame) (W := wFrame) (B := 1152921504606846976) (fun e => by unfold wFrame; omega)
    (fun n c q i x h => by simp only [f_laws_markFrameS.l0, decide_eq_false h, cond_false]) (fun n x c q i h => by simp only [f_laws_heldFrameS.l0, decide_eq_false h, cond_false])
    (fun c e he h0 h1 => by
      unfold wFrame at h1 ⊢
      have hel : e.2.1.length ≤ 1048576 := he
      obtain ⟨y, c1, b1, b2, b3, b4, b5⟩ := markIntB e.2.1 hel (c + 1) (by omega) (by omega)
      refine ⟨(c, y, decide (Int.tmod c1 3 = 0)), c1 + 1, by omega, by omega, fun n q i x hx hi0 hi1 hxe => ?_, fun n q i x hx hi0 hi1 hxe => ?_⟩
      · simp only [f_laws_markFrameS.l0, decide_eq_true hi1, decide_eq_true hi0, cond_true, Bool.and_self, hxe, Option.bind_some, List.length_set, List.set_set, getD_set_self x _ _ i hi0 hi1, w64 (show -9223372036854775808 ≤ c + 1 by omega) (by omega), b1, w64 (show -9223372036854775808 ≤ i + 1 by omega) (by omega), w64 (show -9223372036854775808 ≤ c1 + 1 by omega) (by omega)]
      · simp only [f_laws_heldFrameS.l0, decide_eq_true hi1, decide_eq_true hi0, cond_true, Bool.and_self, hxe, decide_true, Bool.not_true, cond_false, w64 (show -9223372036854775808 ≤ c + 1 by omega) (by omega), b5, Option.bind_some, decide_eq_false (show ¬ c1 < 0 by omega), beq_self_eq_true, w64 (show -9223372036854775808 ≤ i + 1 by omega) (by omega), w64 (show -9223372036854775808 ≤ c1 + 1 by omega) (by omega)])
    x hx he c h0 h1
  refine ⟨y, c', ?_, a2, a3, a4, ?_⟩
  · unfold f_laws_markFrameS; rw [a1]; rfl
  · unfold f_laws_heldFrameS; rw [a5]; rfl
theorem markHomeW (x : List HomeT) (hx : x.length ≤ 1048576) (he : ∀ e ∈ x, okHome e) (c : Int) (h0 : 0 ≤ c) (h1 : c + sumW wHome x ≤ 1152921504606846976) : ∃ y c', f_laws_markHomeS x c = some (c', y) ∧ y.length = x.length ∧ c ≤ c' ∧ c' ≤ c + sumW wHome x ∧ f_laws_heldHomeS y c = some c' := by
  obtain ⟨y, c', a1, a2, a3, a4, a5⟩ := mhW_gen (d := (([] : List Int), (0 : Int), ([] : List Bool), false, (0 : Int), false, (0 : Int), ([] : List (Int × Bool)))) (F := f_laws_markHomeS.l0) (H := f_laws_heldHomeS.l0) (P := okHome) (W := wHome) (B := 1152921504606846976) (fun e => by unfold wHome; omega)
    (fun n c q i x h => by simp only [f_laws_markHomeS.l0, decide_eq_false h, cond_false]) (fun n x c q i h => by simp only [f_laws_heldHomeS.l0, decide_eq_false h, cond_false])
    (fun c e he h0 h1 => by
      unfold wHome at h1 ⊢
      obtain ⟨y, c1, b1, b2, b3, b4, b5⟩ := markIntB e.1 he.g0 c (by omega) (by omega)
      obtain ⟨y2, c2, d1, d2, d3, d4, d5⟩ := markBoolB e.2.2.1 he.g2 (c1 + 1) (by omega) (by omega)
      obtain ⟨y3, c3, g1, g2, g3, g4, g5⟩ := markWaitB e.2.2.2.2.2.2.2 he.g7 (c2 + 4) (by omega) (by omega)
      refine ⟨(y, c1, y2, decide (Int.tmod c2 3 = 0), c2 + 1, decide (Int.tmod (c2 + 2) 3 = 0), c2 + 3, y3), c3, by omega, by omega, fun n q i x hx hi0 hi1 hxe => ?_, fun n q i x hx hi0 hi1 hxe => ?_⟩
      · simp only [f_laws_markHomeS.l0, decide_eq_true hi1, decide_eq_true hi0, cond_true, Bool.and_self, hxe, b1, Option.bind_some, List.length_set, List.set_set, getD_set_self x _ _ i hi0 hi1, w64 (show -9223372036854775808 ≤ c1 + 1 by omega) (by omega), d1, w64 (show -9223372036854775808 ≤ c2 + 1 by omega) (by omega), show c2 + 1 + 1 = c2 + 2 by omega, w64 (show -9223372036854775808 ≤ c2 + 2 by omega) (by omega), show c2 + 2 + 1 = c2 + 3 by omega, w64 (show -9223372036854775808 ≤ c2 + 3 by omega) (by omega), show c2 + 3 + 1 = c2 + 4 by omega, w64 (show -9223372036854775808 ≤ c2 + 4 by omega) (by omega), g1, w64 (show -9223372036854775808 ≤ i + 1 by omega) (by omega)]
      · simp only [f_laws_heldHomeS.l0, decide_eq_true hi1, decide_eq_true hi0, cond_true, Bool.and_self, hxe, b5, Option.bind_some, decide_eq_false (show ¬ c1 < 0 by omega), cond_false, decide_true, Bool.not_true, w64 (show -9223372036854775808 ≤ c1 + 1 by omega) (by omega), d5, decide_eq_false (show ¬ c2 < 0 by omega), beq_self_eq_true, w64 (show -9223372036854775808 ≤ c2 + 1 by omega) (by omega), show c2 + 1 + 1 = c2 + 2 by omega, w64 (show -9223372036854775808 ≤ c2 + 2 by omega) (by omega), show c2 + 2 + 1 = c2 + 3 by omega, w64 (show -9223372036854775808 ≤ c2 + 3 by omega) (by omega), show c2 + 3 + 1 = c2 + 4 by omega, w64 (show -9223372036854775808 ≤ c2 + 4 by omega) (by omega), g5, decide_eq_false (show ¬ c3 < 0 by omega), w64 (show -9223372036854775808 ≤ i + 1 by omega) (by omega)])
    x hx he c h0 h1
  refine ⟨y, c', ?_, a2, a3, a4, ?_⟩
  · unfold f_laws_markHomeS; rw [a1]; rfl
  · unfold f_laws_heldHomeS; rw [a5]; rfl
theorem markMsgW (x : List MsgL) (hx : x.length ≤ 1048576) (he : ∀ e ∈ x, e.2.2.2.length ≤ 1048576) (c : Int) (h0 : 0 ≤ c) (h1 : c + sumW wMsg x ≤ 1152921504606846976) : ∃ y c', f_laws_markMsgS x c = some (c', y) ∧ y.length = x.length ∧ c ≤ c' ∧ c' ≤ c + sumW wMsg x ∧ f_laws_heldMsgS y c = some c' := by
  obtain ⟨y, c', a1, a2, a3, a4, a5⟩ := mhW_gen (d := ((0 : Int), (0 : Int), false, ([] : List Int))) (F := f_laws_markMsgS.l0) (H := f_laws_heldMsgS.l0) (P := fun e : MsgL => e.2.2.2.length ≤ 1048576) (W := wMsg) (B := 1152921504606846976) wMsg0
    (fun n c q i x h => by simp only [f_laws_markMsgS.l0, decide_eq_false h, cond_false]) (fun n x c q i h => by simp only [f_laws_heldMsgS.l0, decide_eq_false h, cond_false])
    (fun c e he h0 h1 => by
      unfold wMsg at h1 ⊢
      obtain ⟨y, c1, b1, b2, b3, b4, b5⟩ := markIntB e.2.2.2 he (c + 3) (by omega) (by omega)
      refine ⟨(c, c + 1, decide (Int.tmod (c + 2) 3 = 0), y), c1, by omega, by omega, fun n q i x hx hi0 hi1 hxe => ?_, fun n q i x hx hi0 hi1 hxe => ?_⟩
      · simp only [f_laws_markMsgS.l0, decide_eq_true hi1, decide_eq_true hi0, cond_true, Bool.and_self, hxe, Option.bind_some, List.length_set, List.set_set, getD_set_self x _ _ i hi0 hi1, w64 (show -9223372036854775808 ≤ c + 1 by omega) (by omega), w64 (show -9223372036854775808 ≤ i + 1 by omega) (by omega), show c + 1 + 1 = c + 2 by omega, w64 (show -9223372036854775808 ≤ c + 2 by omega) (by omega), show c + 2 + 1 = c + 3 by omega, w64 (show -9223372036854775808 ≤ c + 3 by omega) (by omega), b1]
      · simp only [f_laws_heldMsgS.l0, decide_eq_true hi1, decide_eq_true hi0, cond_true, Bool.and_self, hxe, w64 (show -9223372036854775808 ≤ c + 1 by omega) (by omega), w64 (show -9223372036854775808 ≤ i + 1 by omega) (by omega), show c + 1 + 1 = c + 2 by omega, w64 (show -9223372036854775808 ≤ c + 2 by omega) (by omega), show c + 2 + 1 = c + 3 by omega, w64 (show -9223372036854775808 ≤ c + 3 by omega) (by omega), b5, Option.bind_some, decide_eq_false (show ¬ c1 < 0 by omega), cond_false, decide_true, Bool.not_true, beq_self_eq_true])
    x hx he c h0 h1
  refine ⟨y, c', ?_, a2, a3, a4, ?_⟩
  · unfold f_laws_markMsgS; rw [a1]; rfl
  · unfold f_laws_heldMsgS; rw [a5]; rfl
theorem markSenderW (x : List SenderT) (hx : x.length ≤ 1048576) (he : ∀ e ∈ x, okSender e) (c : Int) (h0 : 0 ≤ c) (h1 : c + sumW wSender x ≤ 1152921504606846976) : ∃ y c', f_laws_markSenderS x c = some (c', y) ∧ y.length = x.length ∧ c ≤ c' ∧ c' ≤ c + sumW wSender x ∧ f_laws_heldSenderS y c = some c' := by
  obtain ⟨y, c', a1, a2, a3, a4, a5⟩ := mhW_gen (d := ((0 : Int), ([] : List MsgL))) (F := f_laws_markSenderS.l0) (H := f_laws_heldSenderS.l0) (P := okSender) (W := wSender) (B := 1152921504606846976) wSender0
    (fun n c q i x h => by simp only [f_laws_markSenderS.l0, decide_eq_false h, cond_false]) (fun n x c q i h => by simp only [f_laws_heldSenderS.l0, decide_eq_false h, cond_false])
    (fun c e he h0 h1 => by
      unfold wSender at h1 ⊢
      obtain ⟨y, c1, b1, b2, b3, b4, b5⟩ := markMsgW e.2 he.1 he.2 (c + 1) (by omega) (by omega)
      have hs := sumW_nonneg wMsg0 e.2
      refine ⟨(c, y), c1, by omega, by omega, fun n q i x hx hi0 hi1 hxe => ?_, fun n q i x hx hi0 hi1 hxe => ?_⟩
      · simp only [f_laws_markSenderS.l0, decide_eq_true hi1, decide_eq_true hi0, cond_true, Bool.and_self, hxe, Option.bind_some, List.length_set, List.set_set, getD_set_self x _ _ i hi0 hi1, w64 (show -9223372036854775808 ≤ c + 1 by omega) (by omega), w64 (show -9223372036854775808 ≤ i + 1 by omega) (by omega), b1]
      · simp only [f_laws_heldSenderS.l0, decide_eq_true hi1, decide_eq_true hi0, cond_true, Bool.and_self, hxe, w64 (show -9223372036854775808 ≤ c + 1 by omega) (by omega), w64 (show -9223372036854775808 ≤ i + 1 by omega) (by omega), b5, Option.bind_some, decide_eq_false (show ¬ c1 < 0 by omega), cond_false, decide_true, Bool.not_true])
    x hx he c h0 h1
  refine ⟨y, c', ?_, a2, a3, a4, ?_⟩
  · unfold f_laws_markSenderS; rw [a1]; rfl
  · unfold f_laws_heldSenderS; rw [a5]; rfl
theorem markReceiverB (x : List Int) (hx : x.length ≤ 1048576) (c : Int) (h0 : 0 ≤ c) (h1 : c ≤ 1152921504606846976) : ∃ y c', f_laws_markReceiverS x c = some (c', y) ∧ y.length = x.length ∧ c ≤ c' ∧ c' ≤ c + x.length ∧ f_laws_heldReceiverS y c = some c' := by
  obtain ⟨y, c', a1, a2, a3, a4, a5⟩ := mhB_gen (d := (0 : Int)) (F := f_laws_markReceiverS.l0) (H := f_laws_heldReceiverS.l0) (P := fun _ => True) (M := 1) (B := 2305843009213693952) (by omega)
    (fun n c q i x h => by simp only [f_laws_markReceiverS.l0, decide_eq_false h, cond_false]) (fun n x c q i h => by simp only [f_laws_heldReceiverS.l0, decide_eq_false h, cond_false])
    (fun c e _ h0 h1 => ⟨c, c + 1, by omega, by omega, fun n q i x hx hi0 hi1 _ => by
      simp only [f_laws_markReceiverS.l0, decide_eq_true hi1, decide_eq_true hi0, cond_true, Bool.and_self, Option.bind_some, w64 (show -9223372036854775808 ≤ c + 1 by omega) (by omega), w64 (show -9223372036854775808 ≤ i + 1 by omega) (by omega)],
      fun n q i x hx hi0 hi1 he => by
      simp only [f_laws_heldReceiverS.l0, decide_eq_true hi1, decide_eq_true hi0, cond_true, Bool.and_self, he, decide_true, Bool.not_true, cond_false, w64 (show -9223372036854775808 ≤ c + 1 by omega) (by omega), w64 (show -9223372036854775808 ≤ i + 1 by omega) (by omega)]⟩)
    x hx (fun _ _ => trivial) c h0 (by omega)
  refine ⟨y, c', ?_, a2, a3, by omega, ?_⟩
  · unfold f_laws_markReceiverS; rw [a1]; rfl
  · unfold f_laws_heldReceiverS; rw [a5]; rfl
def wNode (x1 : List FrameT) (x2 : List HomeT) (x3 : List SenderT) (x4 : List Int) : Int := sumW wFrame x1 + sumW wHome x2 + sumW wSender x3 + (x4.length : Int)
theorem markNodeW (x0 : Int) (x1 : List FrameT) (x2 : List HomeT) (x3 : List SenderT) (x4 : List Int) (h : NodeK x1 x2 x3 x4) (c : Int) (h0 : 0 ≤ c) (h1 : c + wNode x1 x2 x3 x4 ≤ 1152921504606846976) : ∃ y1 y2 y3 y4 c', f_laws_markNode x0 x1 x2 x3 x4 c = some (c', y1, y2, y3, y4) ∧ c ≤ c' ∧ c' ≤ c + wNode x1 x2 x3 x4 ∧ f_laws_heldNode x0 y1 y2 y3 y4 c = some c' := by
  unfold wNode at h1 ⊢
  have s1 := sumW_nonneg (W := wFrame) (fun e => by unfold wFrame; omega) x1
  have s2 := sumW_nonneg (W := wHome) (fun e => by unfold wHome; omega) x2
  have s3 := sumW_nonneg wSender0 x3
  obtain ⟨y1, c1, a1, a2, a3, a4, a5⟩ := markFrameW x1 h.l1 h.e1 c h0 (by omega)
  obtain ⟨y2, c2, b1, b2, b3, b4, b5⟩ := markHomeW x2 h.l2 h.e2 c1 (by omega) (by omega)
  obtain ⟨y3, c3, d1, d2, d3, d4, d5⟩ := markSenderW x3 h.l3 h.e3 c2 (by omega) (by omega)
  obtain ⟨y4, c4, g1, g2, g3, g4, g5⟩ := markReceiverB x4 h.l4 c3 (by omega) (by omega)
  refine ⟨y1, y2, y3, y4, c4, ?_, by omega, by omega, ?_⟩
  · unfold f_laws_markNode
    simp only [a1, b1, d1, g1, Option.bind_some]
  · unfold f_laws_heldNode
    simp only [a5, b5, d5, g5, Option.bind_some, decide_eq_false (show ¬ c1 < 0 by omega), decide_eq_false (show ¬ c2 < 0 by omega), decide_eq_false (show ¬ c3 < 0 by omega), decide_eq_false (show ¬ c4 < 0 by omega), cond_false]
theorem wFrame0 (e : FrameT) : 0 ≤ wFrame e := by unfold wFrame; omega
theorem szW_gen {α : Type} {d : α} {F : Nat → List α → Int → Int → Int → Option (Int ⊕ (Int × Int))} {s : α → Int → Option Int} {W : α → Int}
    (hs : ∀ n x l q i, F (n + 1) x l q i = bif decide (i < (x.length : Int)) then (bif (decide ((0 : Int) ≤ i) && decide (i < (x.length : Int))) then (s (x.getD i.toNat d) l).bind fun r => (bif decide (r < 0) then some (.inl (-1)) else F n x r q (IntKind.wrap .i64 (i + 1))) else none) else some (.inr (l, q)))
    (x : List α) (hn : x.length ≤ 1048576) (he : ∀ e ∈ x, ∀ l, 0 ≤ l → l ≤ 1048576 → s e l = some (-1) ∨ ∃ l', s e l = some l' ∧ 0 ≤ l' ∧ l' ≤ l ∧ W e ≤ 8 * (l - l') + 8) (q : Int) (k : Nat) :
    ∀ (n : Nat) (l i : Int), 0 ≤ l → l ≤ 1048576 → 0 ≤ i → i ≤ x.length → (x.length : Int) - i = k → k < n → F n x l q i = some (.inl (-1)) ∨ ∃ l', F n x l q i = some (.inr (l', q)) ∧ 0 ≤ l' ∧ l' ≤ l ∧ sumW W (x.drop i.toNat) ≤ 8 * (l - l') + 8 * (x.length - i) := by
  induction k with
  | zero =>
    intro n l i hl0 hl1 h0 h1 hd hk
    obtain ⟨n, rfl⟩ := succ_fuel hk
    rw [hs, decide_eq_false (show ¬ i < (x.length : Int) by omega), cond_false, List.drop_eq_nil_of_le (by omega)]
    exact .inr ⟨l, rfl, hl0, Int.le_refl _, by simp only [sumW]; omega⟩
  | succ k ih =>
    intro n l i hl0 hl1 h0 h1 hd hk
    obtain ⟨n, rfl⟩ := succ_fuel hk
    have hw : IntKind.wrap .i64 (i + 1) = i + 1 := w64 (by omega) (by omega)
    rw [hs, decide_eq_true (show i < (x.length : Int) by omega), decide_eq_true h0, hw]
    simp only [cond_true, Bool.and_self]
    rcases he _ (mem_getD x d i h0 (by omega)) l hl0 hl1 with h | ⟨l', h, a0, a1, a2⟩
    · rw [h]; exact .inl rfl
    · rw [h, Option.bind_some, decide_eq_false (show ¬ l' < 0 by omega), cond_false]
      rcases ih n l' (i + 1) a0 (by omega) (by omega) (by omega) (by omega) (by omega) with h2 | ⟨l2, h2, b0, b1, b2⟩
      · exact .inl h2
      · refine .inr ⟨l2, h2, b0, by omega, ?_⟩
        rw [drop_getD x d i h0 (by omega)]
        simp only [sumW]
        omega
theorem szHomeW (x0 : List Int) (x1 : Int) (x2 : List Bool) (x3 : Bool) (x4 : Int) (x5 : Bool) (x6 : Int) (x7 : List (Int × Bool)) (left : Int) (h0 : 0 ≤ left) (h1 : left ≤ 1048576) (b0 : x0.length ≤ 9223372036854775807) (b2 : x2.length ≤ 9223372036854775807) (b7 : x7.length ≤ 9223372036854775807) :
    f_laws_szHome x0 x1 x2 x3 x4 x5 x6 x7 left = some (-1) ∨ ∃ l, f_laws_szHome x0 x1 x2 x3 x4 x5 x6 x7 left = some l ∧ 0 ≤ l ∧ l ≤ left ∧ wHome (x0, x1, x2, x3, x4, x5, x6, x7) ≤ 8 * (left - l) + 8 := by
  unfold f_laws_szHome
  rcases szIntS x0 left h0 h1 b0 with h | ⟨h, k⟩
  · rw [h]; exact .inl rfl
  · rw [h, Option.bind_some, decide_eq_false (by omega), cond_false]
    rcases szBoolS x2 (left - x0.length) (by omega) (by omega) b2 with h' | ⟨h', k'⟩
    · rw [h']; exact .inl rfl
    · rw [h', Option.bind_some, decide_eq_false (by omega), cond_false]
      rcases szWaitS x7 (left - x0.length - x2.length) (by omega) (by omega) b7 with h2 | ⟨h2, k2⟩
      · rw [h2]; exact .inl rfl
      · rw [h2, Option.bind_some, decide_eq_false (by omega), cond_false]
        exact .inr ⟨_, rfl, by omega, by omega, show 5 + (x0.length : Int) + (x2.length : Int) + 2 * (x7.length : Int) ≤ _ by omega⟩
theorem szFrameSW (x : List FrameT) (left : Int) (h0 : 0 ≤ left) (h1 : left ≤ 1048576) (hx : x.length ≤ 9223372036854775807) (he : ∀ e ∈ x, bigFrame e) :
    f_laws_szFrameS x left = some (-1) ∨ ∃ l, f_laws_szFrameS x left = some l ∧ 0 ≤ l ∧ l ≤ left ∧ sumW wFrame x ≤ 8 * (left - l) := by
  unfold f_laws_szFrameS
  rw [w64 (by omega) (by omega)]
  by_cases h : left - (x.length : Int) < 0
  · rw [decide_eq_true h]; exact .inl rfl
  · rw [decide_eq_false h, cond_false]
    have hn : x.length ≤ 1048576 := by omega
    rcases szW_gen (F := f_laws_szFrameS.l0) (s := fun e l => f_laws_szFrame e.1 e.2.1 e.2.2 l) (W := wFrame) (d := (0, [], false)) (fun n x l q i => rfl) x hn (fun e hm l a0 a1 => by
        rcases szFrame e.1 e.2.1 e.2.2 l a0 a1 (he e hm) with h2 | ⟨h2, h3⟩
        · exact .inl h2
        · exact .inr ⟨_, h2, by omega, by omega, by unfold wFrame; omega⟩) 0 x.length N (left - (x.length : Int)) 0 (by omega) (by omega) (by omega) (by omega) (by omega) (lt_N hn) with h2 | ⟨l, h2, b0, b1, b2⟩
    · rw [h2]; exact .inl rfl
    · rw [h2]
      simp only [Int.toNat_zero, List.drop_zero] at b2
      exact .inr ⟨l, rfl, b0, by omega, by omega⟩
theorem szHomeSW (x : List HomeT) (left : Int) (h0 : 0 ≤ left) (h1 : left ≤ 1048576) (hx : x.length ≤ 9223372036854775807) (he : ∀ e ∈ x, bigHome e) :
    f_laws_szHomeS x left = some (-1) ∨ ∃ l, f_laws_szHomeS x left = some l ∧ 0 ≤ l ∧ l ≤ left ∧ sumW wHome x ≤ 8 * (left - l) := by
  unfold f_laws_szHomeS
  rw [w64 (by omega) (by omega)]
  by_cases h : left - (x.length : Int) < 0
  · rw [decide_eq_true h]; exact .inl rfl
  · rw [decide_eq_false h, cond_false]
    have hn : x.length ≤ 1048576 := by omega
    rcases szW_gen (F := f_laws_szHomeS.l0) (s := fun e l => f_laws_szHome e.1 e.2.1 e.2.2.1 e.2.2.2.1 e.2.2.2.2.1 e.2.2.2.2.2.1 e.2.2.2.2.2.2.1 e.2.2.2.2.2.2.2 l) (W := wHome) (d := ([], 0, [], false, 0, false, 0, [])) (fun n x l q i => rfl) x hn (fun e hm l a0 a1 => by
        exact szHomeW e.1 e.2.1 e.2.2.1 e.2.2.2.1 e.2.2.2.2.1 e.2.2.2.2.2.1 e.2.2.2.2.2.2.1 e.2.2.2.2.2.2.2 l a0 a1 (he e hm).1 (he e hm).2.1 (he e hm).2.2) 0 x.length N (left - (x.length : Int)) 0 (by omega) (by omega) (by omega) (by omega) (by omega) (lt_N hn) with h2 | ⟨l, h2, b0, b1, b2⟩
    · rw [h2]; exact .inl rfl
    · rw [h2]
      simp only [Int.toNat_zero, List.drop_zero] at b2
      exact .inr ⟨l, rfl, b0, by omega, by omega⟩
theorem szMsgSW (x : List MsgL) (left : Int) (h0 : 0 ≤ left) (h1 : left ≤ 1048576) (hx : x.length ≤ 9223372036854775807) (he : ∀ e ∈ x, (fun e : MsgL => e.2.2.2.length ≤ 9223372036854775807) e) :
    f_laws_szMsgS x left = some (-1) ∨ ∃ l, f_laws_szMsgS x left = some l ∧ 0 ≤ l ∧ l ≤ left ∧ sumW wMsg x ≤ 8 * (left - l) := by
  unfold f_laws_szMsgS
  rw [w64 (by omega) (by omega)]
  by_cases h : left - (x.length : Int) < 0
  · rw [decide_eq_true h]; exact .inl rfl
  · rw [decide_eq_false h, cond_false]
    have hn : x.length ≤ 1048576 := by omega
    rcases szW_gen (F := f_laws_szMsgS.l0) (s := fun e l => f_laws_szMsg e.1 e.2.1 e.2.2.1 e.2.2.2 l) (W := wMsg) (d := (0, 0, false, [])) (fun n x l q i => rfl) x hn (fun e hm l a0 a1 => by
        rcases szMsg e.1 e.2.1 e.2.2.1 e.2.2.2 l a0 a1 (he e hm) with h2 | ⟨h2, h3⟩
        · exact .inl h2
        · exact .inr ⟨_, h2, by omega, by omega, by unfold wMsg; omega⟩) 0 x.length N (left - (x.length : Int)) 0 (by omega) (by omega) (by omega) (by omega) (by omega) (lt_N hn) with h2 | ⟨l, h2, b0, b1, b2⟩
    · rw [h2]; exact .inl rfl
    · rw [h2]
      simp only [Int.toNat_zero, List.drop_zero] at b2
      exact .inr ⟨l, rfl, b0, by omega, by omega⟩
theorem szSenderSW (x : List SenderT) (left : Int) (h0 : 0 ≤ left) (h1 : left ≤ 1048576) (hx : x.length ≤ 9223372036854775807) (he : ∀ e ∈ x, bigSender e) :
    f_laws_szSenderS x left = some (-1) ∨ ∃ l, f_laws_szSenderS x left = some l ∧ 0 ≤ l ∧ l ≤ left ∧ sumW wSender x ≤ 8 * (left - l) := by
  unfold f_laws_szSenderS
  rw [w64 (by omega) (by omega)]
  by_cases h : left - (x.length : Int) < 0
  · rw [decide_eq_true h]; exact .inl rfl
  · rw [decide_eq_false h, cond_false]
    have hn : x.length ≤ 1048576 := by omega
    rcases szW_gen (F := f_laws_szSenderS.l0) (s := fun e l => f_laws_szSender e.1 e.2 l) (W := wSender) (d := (0, [])) (fun n x l q i => rfl) x hn (fun e hm l a0 a1 => by
        unfold f_laws_szSender wSender
        rcases szMsgSW e.2 l a0 a1 (he e hm).1 (he e hm).2 with h2 | ⟨l', h2, h3, h4, h5⟩
        · rw [h2]; exact .inl rfl
        · rw [h2, Option.bind_some, decide_eq_false (show ¬ l' < 0 by omega), cond_false]; exact .inr ⟨l', rfl, h3, h4, by omega⟩) 0 x.length N (left - (x.length : Int)) 0 (by omega) (by omega) (by omega) (by omega) (by omega) (lt_N hn) with h2 | ⟨l, h2, b0, b1, b2⟩
    · rw [h2]; exact .inl rfl
    · rw [h2]
      simp only [Int.toNat_zero, List.drop_zero] at b2
      exact .inr ⟨l, rfl, b0, by omega, by omega⟩
theorem szNodeW (x0 : Int) (x1 : List FrameT) (x2 : List HomeT) (x3 : List SenderT) (x4 : List Int) (left : Int) (h0 : 0 ≤ left) (h1 : left ≤ 1048576) (h : NodeB x1 x2 x3 x4) : f_laws_szNode x0 x1 x2 x3 x4 left = some (-1) ∨ ∃ l, f_laws_szNode x0 x1 x2 x3 x4 left = some l ∧ 0 ≤ l ∧ l ≤ left ∧ wNode x1 x2 x3 x4 ≤ 8 * (left - l) := by
  unfold f_laws_szNode wNode
  rcases szFrameSW x1 left h0 h1 h.l1 h.e1 with e | ⟨a, e, a0, a1, k1⟩
  · rw [e]; exact .inl rfl
  rw [e, Option.bind_some, decide_eq_false (show ¬ a < 0 by omega), cond_false]
  rcases szHomeSW x2 a a0 (by omega) h.l2 h.e2 with e | ⟨b, e, b0, b1, k2⟩
  · rw [e]; exact .inl rfl
  rw [e, Option.bind_some, decide_eq_false (show ¬ b < 0 by omega), cond_false]
  rcases szSenderSW x3 b b0 (by omega) h.l3 h.e3 with e | ⟨c, e, c0, c1, k3⟩
  · rw [e]; exact .inl rfl
  rw [e, Option.bind_some, decide_eq_false (show ¬ c < 0 by omega), cond_false]
  rcases szReceiverS x4 c c0 (by omega) h.l4 with e | ⟨e, k4⟩
  · rw [e]; exact .inl rfl
  rw [e, Option.bind_some, decide_eq_false (by omega), cond_false]
  exact .inr ⟨_, rfl, by omega, by omega, by omega⟩
/-- A node that is asked for: what its rows hold, and how much there is to mark. -/
theorem szNodeKW (x0 : Int) (x1 : List FrameT) (x2 : List HomeT) (x3 : List SenderT) (x4 : List Int) (h : NodeB x1 x2 x3 x4) : f_laws_szNode x0 x1 x2 x3 x4 1048576 = some (-1) ∨ ∃ l, f_laws_szNode x0 x1 x2 x3 x4 1048576 = some l ∧ 0 ≤ l ∧ l ≤ 1048576 ∧ NodeK x1 x2 x3 x4 ∧ wNode x1 x2 x3 x4 ≤ 8388608 := by
  rcases szNode x0 x1 x2 x3 x4 1048576 (by omega) (by omega) h with e | ⟨l, e, l0, l1, k⟩
  · exact .inl e
  rcases szNodeW x0 x1 x2 x3 x4 1048576 (by omega) (by omega) h with e' | ⟨l', e', l0', l1', k'⟩
  · exact .inl e'
  exact .inr ⟨l, e, l0, l1, k, by omega⟩
theorem tF_state (e : FrameT) (h : tF e = true) : 0 ≤ e.1 ∧ e.1 ≤ 2 := by
  unfold tF f_spec_FrameOk at h
  by_cases h0 : e.1 = 0
  · omega
  · simp only [decide_eq_false h0, cond_false, in_rng, Option.bind_some] at h
    by_cases h1 : rng e.1 2 = true
    · simpa only [rng, Bool.and_eq_true, decide_eq_true_eq] using h1
    · rw [Bool.not_eq_true] at h1
      rw [h1] at h
      cases h
structure NodeFacts (e : NodeT) (k i : Int) : Prop where
  a : e.1 = i
  l1 : e.2.1.length = 6
  l2 : e.2.2.1.length = 6
  l3 : (e.2.2.2.1.length : Int) = k
  l4 : (e.2.2.2.2.length : Int) = k
  f : ∀ g ∈ e.2.1, tF g = true
  h : ∀ g ∈ e.2.2.1, tH k g = true
  s : ∀ g ∈ e.2.2.2.1, tS g = true
  r : ∀ g ∈ e.2.2.2.2, 0 ≤ g ∧ g ≤ 100000
theorem nodeFacts (x0 : Int) (x1 : List FrameT) (x2 : List HomeT) (x3 : List SenderT) (x4 : List Int) (k : Int) (h : nodeOkB x0 x1 x2 x3 x4 k = true) : (1 ≤ k ∧ k ≤ 4) ∧ (0 ≤ x0 ∧ x0 ≤ k - 1) ∧ NodeFacts (x0, x1, x2, x3, x4) k x0 := by
  unfold nodeOkB rng2 at h
  simp only [Bool.and_eq_true, decide_eq_true_eq, List.all_eq_true] at h
  obtain ⟨h1, h2, h3, h4, h5, h6, ⟨h7, h8⟩, h9, h10⟩ := h
  exact ⟨h1, h2, rfl, show x1.length = 6 by omega, show x2.length = 6 by omega, h5, h6, h7, h8, h9, h10⟩
theorem cp_gen {α τ : Type} {d : α} {F : Nat → Int → List α → Option τ} {R : List α → τ} (x : List α) (hx : x.length ≤ 1048576) (h0 : ∀ n i y, ¬ i < (x.length : Int) → F (n + 1) i y = some (R y))
    (h1 : ∀ n i y, 0 ≤ i → i < (x.length : Int) → x.getD i.toNat d ∈ x → y.length ≤ 1048576 → F (n + 1) i y = F n (i + 1) (y ++ [x.getD i.toNat d])) : F N 0 [] = some (R x) := by
  have step : ∀ (k n : Nat) (i : Int) (y : List α), 0 ≤ i → i ≤ x.length → (x.length : Int) - i = k → k < n → y = x.take i.toNat → F n i y = some (R x) := by
    intro k
    induction k with
    | zero =>
      intro n i y a0 a1 hd hn hy
      obtain ⟨n, rfl⟩ := succ_fuel hn
      rw [h0 n i y (by omega), hy, List.take_of_length_le (by omega)]
    | succ k ih =>
      intro n i y a0 a1 hd hn hy
      obtain ⟨n, rfl⟩ := succ_fuel hn
      rw [h1 n i y a0 (by omega) (mem_getD x d i a0 (by omega)) (by rw [hy, List.length_take]; omega)]
      refine ih n (i + 1) _ (by omega) (by omega) (by omega) (by omega) ?_
      have e : (i + 1).toNat = i.toNat + 1 := by omega
      have hlt : i.toNat < x.length := by omega
      rw [e, List.take_add_one, List.getElem?_eq_getElem hlt, hy, List.getD_eq_getElem?_getD, List.getElem?_eq_getElem hlt]
      rfl
  exact step x.length N 0 [] (by omega) (by omega) (by omega) (Nat.lt_of_le_of_lt hx (Nat.lt_trans (by omega) big)) rfl
theorem specSenderCopy (a : Int) (x : List MsgL) (hn : x.length ≤ 1048576) (he : ∀ e ∈ x, e.2.2.2.length ≤ 1048576) : f_spec_l2Sender a x = some (a, x) := by
  unfold f_spec_l2Sender
  have c1 := cp_gen (d := ((0 : Int), (0 : Int), false, ([] : List Int))) (F := fun n i y => f_spec_l2Sender.l0 n i a x 0 a [] y) (R := fun y => (0, a, ([] : List MsgL), y)) x hn (fun n i y hi => by simp only [f_spec_l2Sender.l0, decide_eq_false hi, cond_false])
    (fun n i y a0 a1 hm hy => by
      have hk : (x.getD i.toNat (0, 0, false, [])).2.2.2.length ≤ 1048576 := he _ hm
      simp only [f_spec_l2Sender.l0, f_spec_l1Msg, decide_eq_true a0, decide_eq_true a1, cond_true, Bool.and_self, List.length_nil, Nat.zero_add, (blt_iff _ _).2 (show (x.getD i.toNat (0, 0, false, [])).2.2.2.length < 17592186044416 by omega), List.nil_append, Option.bind_some, List.length_singleton, (blt_iff _ _).2 (show y.length + 1 < 2932031007402 by omega), w64 (show -9223372036854775808 ≤ i + 1 by omega) (by omega)])
  rw [c1]
  rfl
theorem implSenderCopy (a : Int) (x : List MsgL) (hn : x.length ≤ 1048576) (he : ∀ e ∈ x, e.2.2.2.length ≤ 1048576) : f_impl_copySender a x = some (a, x) := by
  unfold f_impl_copySender
  have c1 := cp_gen (d := ((0 : Int), (0 : Int), false, ([] : List Int))) (F := fun n i y => f_impl_copySender.l0 n x (x.length : Int) i 0 a [] y) (R := fun y => (0, a, ([] : List MsgL), y)) x hn (fun n i y hi => by simp only [f_impl_copySender.l0, decide_eq_false hi, cond_false])
    (fun n i y a0 a1 hm hy => by
      have hk : (x.getD i.toNat (0, 0, false, [])).2.2.2.length ≤ 1048576 := he _ hm
      simp only [f_impl_copySender.l0, f_impl_copyMsg, f_slices_Clone_int_int, decide_eq_true a0, decide_eq_true a1, cond_true, Bool.and_self, Nat.zero_add, (blt_iff _ _).2 (show (x.getD i.toNat (0, 0, false, [])).2.2.2.length < 17592186044416 by omega), Option.bind_some, List.length_singleton, (blt_iff _ _).2 (show y.length + 1 < 2932031007402 by omega), w64 (show -9223372036854775808 ≤ i + 1 by omega) (by omega)])
  rw [c1]
  rfl
/-- What a right sender's numbers are. -/
theorem senderOk_facts (a : Int) (x : List MsgL) (hn : x.length ≤ 1048576) (he : ∀ e ∈ x, e.2.2.2.length ≤ 1048576) (h : f_spec_SenderOk a x = some true) : 0 ≤ a ∧ a ≤ 100000 ∧ (x.length : Int) ≤ 30 ∧ a + (x.length : Int) ≤ 100000 ∧ x.all tM = true := by
  unfold f_spec_SenderOk at h
  rw [senderS_loop x hn he false a x.length N 0 (by omega) (by omega) (by omega) (lt_N hn)] at h
  simp only [Int.toNat_zero, List.drop_zero, in_rg, Option.bind_some] at h
  cases hall : x.all tM with
  | false => rw [hall] at h; cases h
  | true =>
    rw [hall] at h
    simp only [cond_true, cs] at h
    cases hr : rg a 0 100000 with
    | false => rw [hr] at h; cases h
    | true =>
      unfold rg at hr
      simp only [Bool.and_eq_true, decide_eq_true_eq] at hr
      by_cases h30 : (x.length : Int) ≤ 30
      · rw [decide_eq_true h30, w64 (by omega) (by omega)] at h
        have e : rg a 0 100000 = true := by unfold rg; rw [decide_eq_true hr.1, decide_eq_true hr.2]; rfl
        rw [e] at h
        simp only [cond_true, Option.some.injEq, decide_eq_true_eq] at h
        exact ⟨hr.1, hr.2, h30, h, rfl⟩
      · rw [decide_eq_false h30] at h
        cases h' : rg a 0 100000 <;> rw [h'] at h <;> cases h
def queueB (a : Int) (x : List MsgL) (b : Bool) (m : MsgL) (ok : Bool) : Int × List MsgL × Bool := if b = true ∧ ok = true ∧ (x.length : Int) ≠ 30 ∧ a + (x.length : Int) ≠ 100000 then (a, x ++ [m], true) else (a, x, false)
theorem same_queue (a : Int) (x : List MsgL) (x2 x3 : Int) (x4 : Bool) (x5 : List Int) (hn : x.length ≤ 1048576) (he : ∀ e ∈ x, e.2.2.2.length ≤ 1048576) (h5 : x5.length ≤ 1048576) :
    ∃ b ok, f_spec_SenderOk a x = some b ∧ f_impl_SenderOk a x = some b ∧ f_spec_MsgOk x2 x3 x4 x5 = some ok ∧ f_impl_MsgOk x2 x3 x4 x5 = some ok ∧ f_spec_Queue a x x2 x3 x4 x5 = some (queueB a x b (x2, x3, x4, x5) ok) ∧ f_impl_Queue a x x2 x3 x4 x5 = some (queueB a x b (x2, x3, x4, x5) ok) := by
  obtain ⟨b, h1, h2⟩ := same_senderOk a x hn he
  obtain ⟨ok, k1, k2⟩ := same_msgOk x2 x3 x4 x5 h5
  have hw : b = true → IntKind.wrap .i64 (a + (x.length : Int)) = a + (x.length : Int) := fun hb => by
    subst hb
    obtain ⟨f0, f1, f2, f3, -⟩ := senderOk_facts a x hn he h1
    exact w64 (by omega) (by omega)
  refine ⟨b, ok, h1, h2, k1, k2, ?_, ?_⟩
  · unfold f_spec_Queue queueB
    simp only [specSenderCopy a x hn he, h1, k1, Option.bind_some]
    cases b with
    | false => rw [if_neg (fun h => by cases h.1)]; rfl
    | true =>
      rw [hw rfl]
      cases ok with
      | false => rw [if_neg (fun h => by cases h.2.1)]; rfl
      | true =>
        by_cases g1 : (x.length : Int) = 30
        · rw [decide_eq_true g1, if_neg (fun h => h.2.2.1 g1)]; rfl
        · by_cases g2 : a + (x.length : Int) = 100000
          · rw [decide_eq_false g1, decide_eq_true g2, if_neg (fun h => h.2.2.2 g2)]; rfl
          · rw [decide_eq_false g1, decide_eq_false g2, if_pos ⟨rfl, rfl, g1, g2⟩]
            simp only [Bool.not_true, cond_false, f_spec_l1Msg, List.length_nil, Nat.zero_add, (blt_iff _ _).2 (show x5.length < 17592186044416 by omega), cond_true, List.nil_append, Option.bind_some, List.length_singleton, (blt_iff _ _).2 (show x.length + 1 < 2932031007402 by omega)]
  · unfold f_impl_Queue queueB
    simp only [implSenderCopy a x hn he, h2, k2, Option.bind_some]
    cases b with
    | false => rw [if_neg (fun h => by cases h.1)]; rfl
    | true =>
      rw [hw rfl]
      cases ok with
      | false => rw [if_neg (fun h => by cases h.2.1)]; rfl
      | true =>
        by_cases g1 : (x.length : Int) = 30
        · rw [decide_eq_true g1, if_neg (fun h => h.2.2.1 g1)]; rfl
        · by_cases g2 : a + (x.length : Int) = 100000
          · rw [decide_eq_false g1, decide_eq_true g2, if_neg (fun h => h.2.2.2 g2)]; rfl
          · rw [decide_eq_false g1, decide_eq_false g2, if_pos ⟨rfl, rfl, g1, g2⟩]
            simp only [Bool.not_true, cond_false, f_impl_copyMsg, f_slices_Clone_int_int, Nat.zero_add, (blt_iff _ _).2 (show x5.length < 17592186044416 by omega), cond_true, Option.bind_some, List.length_singleton, (blt_iff _ _).2 (show x.length + 1 < 2932031007402 by omega)]
theorem queueB_ok (a : Int) (x : List MsgL) (b : Bool) (m : MsgL) (ok : Bool) (hn : x.length ≤ 1048575) (he : ∀ e ∈ x, e.2.2.2.length ≤ 1048576) (hm : m.2.2.2.length ≤ 1048576) : (queueB a x b m ok).2.1.length ≤ 1048576 ∧ ∀ e ∈ (queueB a x b m ok).2.1, e.2.2.2.length ≤ 1048576 := by
  unfold queueB
  split
  · refine ⟨by simp only [List.length_append, List.length_singleton]; omega, fun e h => ?_⟩
    rcases List.mem_append.1 h with h | h
    · exact he e h
    · rw [List.mem_singleton.1 h]; exact hm
  · exact ⟨by show x.length ≤ 1048576; omega, he⟩
theorem sumW_le {α : Type} {W : α → Int} {M : Int} : ∀ x : List α, (∀ e ∈ x, W e ≤ M) → sumW W x ≤ M * x.length
  | [], _ => by simp [sumW]
  | a :: x, h => by
    have h1 := h a (.head _)
    have h2 := sumW_le x (fun e he => h e (.tail _ he))
    simp only [sumW, List.length_cons, Int.natCast_add, Int.mul_add]
    omega
theorem sumW_set {α : Type} {W : α → Int} (hW : ∀ e, 0 ≤ W e) : ∀ (x : List α) (i : Nat) (e : α), sumW W (x.set i e) ≤ sumW W x + W e
  | [], i, e => by have := hW e; simp only [List.set_nil, sumW]; omega
  | a :: x, 0, e => by have := hW a; simp only [List.set_cons_zero, sumW]; omega
  | a :: x, i + 1, e => by have := sumW_set hW x i e; simp only [List.set_cons_succ, sumW]; omega
theorem mem_set {α : Type} : ∀ {x : List α} {i : Nat} {e a : α}, a ∈ x.set i e → a = e ∨ a ∈ x
  | [], i, e, a, h => by cases h
  | b :: x, 0, e, a, h => by
    rw [List.set_cons_zero] at h
    rcases List.mem_cons.1 h with h | h
    · exact .inl h
    · exact .inr (.tail _ h)
  | b :: x, i + 1, e, a, h => by
    rw [List.set_cons_succ] at h
    rcases List.mem_cons.1 h with h | h
    · exact .inr (h ▸ .head _)
    · exact (mem_set h).elim .inl fun h => .inr (.tail _ h)
theorem specNodeCopy (x0 : Int) (x1 : List FrameT) (x2 : List HomeT) (x3 : List SenderT) (x4 : List Int) (h : NodeK x1 x2 x3 x4) : f_spec_l5Copy x0 x1 x2 x3 x4 = some (x0, x1, x2, x3, x4) := by
  unfold f_spec_l5Copy
  have hl4 := h.l4
  have c1 := cp_gen (d := ((0 : Int), ([] : List Int), false)) (F := fun n i y => f_spec_l5Copy.l0 n i x0 x1 x2 x3 x4 0 x0 [] [] [] [] y [] [] x4) (R := fun y => (x0, x1, x2, x3, x4, (0 : Int), x0, ([] : List FrameT), ([] : List HomeT), ([] : List SenderT), ([] : List Int), y, ([] : List HomeT), ([] : List SenderT), x4)) x1 h.l1 (fun n i y hi => by simp only [f_spec_l5Copy.l0, decide_eq_false hi, cond_false])
    (fun n i y a0 a1 hm hy => by
      have hl := h.l1
      have hk : (x1.getD i.toNat (0, [], false)).2.1.length ≤ 1048576 := h.e1 _ hm
      simp only [f_spec_l5Copy.l0, f_spec_l3Copy, decide_eq_true a0, decide_eq_true a1, cond_true, Bool.and_self, List.length_nil, Nat.zero_add, (blt_iff _ _).2 (show (x1.getD i.toNat (0, [], false)).2.1.length < 17592186044416 by omega), List.nil_append, Option.bind_some, List.length_singleton, (blt_iff _ _).2 (show y.length + 1 < 3518437208883 by omega), w64 (show -9223372036854775808 ≤ i + 1 by omega) (by omega)])
  have c2 := cp_gen (d := (([] : List Int), (0 : Int), ([] : List Bool), false, (0 : Int), false, (0 : Int), ([] : List (Int × Bool)))) (F := fun n i y => f_spec_l5Copy.l1 n i x0 x1 x2 x3 x4 0 x0 [] [] [] [] x1 y [] x4) (R := fun y => (x0, x1, x2, x3, x4, (0 : Int), x0, ([] : List FrameT), ([] : List HomeT), ([] : List SenderT), ([] : List Int), x1, y, ([] : List SenderT), x4)) x2 h.l2 (fun n i y hi => by simp only [f_spec_l5Copy.l1, decide_eq_false hi, cond_false])
    (fun n i y a0 a1 hm hy => by
      have hl := h.l2
      have hk : okHome (x2.getD i.toNat ([], 0, [], false, 0, false, 0, [])) := h.e2 _ hm
      have k0 := hk.g0
      have k2 := hk.g2
      have k7 := hk.g7
      simp only [f_spec_l5Copy.l1, f_spec_l4Copy, decide_eq_true a0, decide_eq_true a1, cond_true, Bool.and_self, List.length_nil, Nat.zero_add, (blt_iff _ _).2 (show (x2.getD i.toNat ([], 0, [], false, 0, false, 0, [])).1.length < 17592186044416 by omega), (blt_iff _ _).2 (show (x2.getD i.toNat ([], 0, [], false, 0, false, 0, [])).2.2.1.length < 140737488355328 by omega), (blt_iff _ _).2 (show (x2.getD i.toNat ([], 0, [], false, 0, false, 0, [])).2.2.2.2.2.2.2.length < 8796093022208 by omega), List.nil_append, Option.bind_some, List.length_singleton, (blt_iff _ _).2 (show y.length + 1 < 1256584717458 by omega), w64 (show -9223372036854775808 ≤ i + 1 by omega) (by omega)])
  have c3 := cp_gen (d := ((0 : Int), ([] : List MsgL))) (F := fun n i y => f_spec_l5Copy.l2 n i x0 x1 x2 x3 x4 0 x0 [] [] [] [] x1 x2 y x4) (R := fun y => ((0 : Int), x0, ([] : List FrameT), ([] : List HomeT), ([] : List SenderT), ([] : List Int), x1, x2, y, x4)) x3 h.l3 (fun n i y hi => by simp only [f_spec_l5Copy.l2, decide_eq_false hi, cond_false])
    (fun n i y a0 a1 hm hy => by
      have hl := h.l3
      have hk : okSender (x3.getD i.toNat (0, [])) := h.e3 _ hm
      simp only [f_spec_l5Copy.l2, specSenderCopy _ _ hk.1 hk.2, decide_eq_true a0, decide_eq_true a1, cond_true, Bool.and_self, Option.bind_some, List.length_singleton, (blt_iff _ _).2 (show y.length + 1 < 4398046511104 by omega), w64 (show -9223372036854775808 ≤ i + 1 by omega) (by omega)])
  simp only [List.length_nil, Nat.zero_add, (blt_iff _ _).2 (show x4.length < 17592186044416 by omega), cond_true, List.nil_append, Option.bind_some, c1, c2, c3]
theorem implNodeCopy (x0 : Int) (x1 : List FrameT) (x2 : List HomeT) (x3 : List SenderT) (x4 : List Int) (h : NodeK x1 x2 x3 x4) : f_impl_copyNode x0 x1 x2 x3 x4 = some (x0, x1, x2, x3, x4) := by
  unfold f_impl_copyNode
  have hl4 := h.l4
  have c1 := cp_gen (d := ((0 : Int), ([] : List Int), false)) (F := fun n i y => f_impl_copyNode.l0 n x1 (x1.length : Int) i x0 x1 x2 x3 x4 0 x0 [] [] [] [] y [] [] x4) (R := fun y => (x0, x1, x2, x3, x4, (0 : Int), x0, ([] : List FrameT), ([] : List HomeT), ([] : List SenderT), ([] : List Int), y, ([] : List HomeT), ([] : List SenderT), x4)) x1 h.l1 (fun n i y hi => by simp only [f_impl_copyNode.l0, decide_eq_false hi, cond_false])
    (fun n i y a0 a1 hm hy => by
      have hl := h.l1
      have hk : (x1.getD i.toNat (0, [], false)).2.1.length ≤ 1048576 := h.e1 _ hm
      simp only [f_impl_copyNode.l0, f_impl_copyFrame, f_slices_Clone_int_int, decide_eq_true a0, decide_eq_true a1, cond_true, Bool.and_self, Nat.zero_add, (blt_iff _ _).2 (show (x1.getD i.toNat (0, [], false)).2.1.length < 17592186044416 by omega), Option.bind_some, List.length_singleton, (blt_iff _ _).2 (show y.length + 1 < 3518437208883 by omega), w64 (show -9223372036854775808 ≤ i + 1 by omega) (by omega)])
  have c2 := cp_gen (d := (([] : List Int), (0 : Int), ([] : List Bool), false, (0 : Int), false, (0 : Int), ([] : List (Int × Bool)))) (F := fun n i y => f_impl_copyNode.l1 n x2 (x2.length : Int) i x0 x1 x2 x3 x4 0 x0 [] [] [] [] x1 y [] x4) (R := fun y => (x0, x1, x2, x3, x4, (0 : Int), x0, ([] : List FrameT), ([] : List HomeT), ([] : List SenderT), ([] : List Int), x1, y, ([] : List SenderT), x4)) x2 h.l2 (fun n i y hi => by simp only [f_impl_copyNode.l1, decide_eq_false hi, cond_false])
    (fun n i y a0 a1 hm hy => by
      have hl := h.l2
      have hk : okHome (x2.getD i.toNat ([], 0, [], false, 0, false, 0, [])) := h.e2 _ hm
      have k0 := hk.g0
      have k2 := hk.g2
      have k7 := hk.g7
      simp only [f_impl_copyNode.l1, f_impl_copyHome, f_slices_Clone_int_int, f_slices_Clone_bool_bool, f_slices_Clone_impl_Wait_impl_Wait, decide_eq_true a0, decide_eq_true a1, cond_true, Bool.and_self, Nat.zero_add, (blt_iff _ _).2 (show (x2.getD i.toNat ([], 0, [], false, 0, false, 0, [])).1.length < 17592186044416 by omega), (blt_iff _ _).2 (show (x2.getD i.toNat ([], 0, [], false, 0, false, 0, [])).2.2.1.length < 140737488355328 by omega), (blt_iff _ _).2 (show (x2.getD i.toNat ([], 0, [], false, 0, false, 0, [])).2.2.2.2.2.2.2.length < 8796093022208 by omega), Option.bind_some, List.length_singleton, (blt_iff _ _).2 (show y.length + 1 < 1256584717458 by omega), w64 (show -9223372036854775808 ≤ i + 1 by omega) (by omega)])
  have c3 := cp_gen (d := ((0 : Int), ([] : List MsgL))) (F := fun n i y => f_impl_copyNode.l2 n x3 (x3.length : Int) i 0 x0 [] [] [] [] x1 x2 y x4) (R := fun y => ((0 : Int), x0, ([] : List FrameT), ([] : List HomeT), ([] : List SenderT), ([] : List Int), x1, x2, y, x4)) x3 h.l3 (fun n i y hi => by simp only [f_impl_copyNode.l2, decide_eq_false hi, cond_false])
    (fun n i y a0 a1 hm hy => by
      have hl := h.l3
      have hk : okSender (x3.getD i.toNat (0, [])) := h.e3 _ hm
      simp only [f_impl_copyNode.l2, implSenderCopy _ _ hk.1 hk.2, decide_eq_true a0, decide_eq_true a1, cond_true, Bool.and_self, Option.bind_some, List.length_singleton, (blt_iff _ _).2 (show y.length + 1 < 4398046511104 by omega), w64 (show -9223372036854775808 ≤ i + 1 by omega) (by omega)])
  simp only [f_slices_Clone_impl_Receiver_impl_Receiver, Nat.zero_add, (blt_iff _ _).2 (show x4.length < 17592186044416 by omega), cond_true, Option.bind_some, c1, c2, c3]
def lessB (st : Int) (w : Bool) : Bool := decide (st = 0) || (w && decide (st = 1))
theorem specLess (st : Int) (a : List Int) (b w : Bool) : f_spec_l5Less st a b w = some (lessB st w) := by
  unfold f_spec_l5Less lessB
  by_cases h : st = 0
  · simp only [decide_eq_true h, cond_true, Bool.true_or]
  · cases w <;> simp only [decide_eq_false h, cond_false, cond_true, Bool.false_or, Bool.true_and, Bool.false_and]
theorem implLess (st : Int) (a : List Int) (b w : Bool) (h0 : 0 ≤ st) (h2 : st ≤ 2) : f_impl_lacks st a b w = some (lessB st w) := by
  unfold f_impl_lacks lessB
  by_cases h : st = 0
  · simp only [decide_eq_true h, cond_true, Bool.true_or]
  · by_cases h1 : st = 1
    · cases w <;> simp only [decide_eq_false h, decide_eq_true h1, decide_eq_false (show ¬ st = 2 by omega), cond_false, cond_true, Bool.false_or, Bool.true_and, Bool.false_and, Bool.not_false]
    · cases w <;> simp only [decide_eq_false h, decide_eq_false h1, decide_eq_true (show st = 2 by omega), cond_false, cond_true, Bool.false_or, Bool.true_and, Bool.false_and, Bool.not_true]
theorem want_node {x1 : List FrameT} {x2 : List HomeT} {x3 : List SenderT} {x4 : List Int} (h : NodeK x1 x2 x3 x4) (i j : Int) (i0 : 0 ≤ i) (i1 : i < (x1.length : Int)) (f : Bool) (s : SenderT) (hs : okSender s) :
    NodeK (x1.set i.toNat ((x1.getD i.toNat (0, [], false)).1, (x1.getD i.toNat (0, [], false)).2.1, f)) x2 (x3.set j.toNat s) x4 ∧
    wNode (x1.set i.toNat ((x1.getD i.toNat (0, [], false)).1, (x1.getD i.toNat (0, [], false)).2.1, f)) x2 (x3.set j.toNat s) x4 ≤ wNode x1 x2 x3 x4 + 1099516870656 := by
  have k := h.e1 _ (mem_getD x1 (0, [], false) i i0 i1)
  have k' : (x1.getD i.toNat (0, [], false)).2.1.length ≤ 1048576 := k
  refine ⟨⟨by rw [List.length_set]; exact h.l1, h.l2, by rw [List.length_set]; exact h.l3, h.l4, fun e he => ?_, h.e2, fun e he => ?_⟩, ?_⟩
  · rcases mem_set he with rfl | he
    · exact k
    · exact h.e1 e he
  · rcases mem_set he with rfl | he
    · exact hs
    · exact h.e3 e he
  · have a1 := sumW_set wFrame0 x1 i.toNat ((x1.getD i.toNat (0, [], false)).1, (x1.getD i.toNat (0, [], false)).2.1, f)
    have a2 := sumW_set wSender0 x3 j.toNat s
    have a3 : wFrame ((x1.getD i.toNat (0, [], false)).1, (x1.getD i.toNat (0, [], false)).2.1, f) ≤ 1048578 := by unfold wFrame; show 2 + ((x1.getD i.toNat (0, [], false)).2.1.length : Int) ≤ _; omega
    have a4 : wSender s ≤ 1 + 1048579 * s.2.length := by
      have := sumW_le (W := wMsg) (M := 1048579) s.2 (fun e he => by have := hs.2 e he; unfold wMsg; omega)
      unfold wSender; omega
    have := hs.1
    unfold wNode
    omega
theorem same_want (x0 : Int) (x1 : List FrameT) (x2 : List HomeT) (x3 : List SenderT) (x4 : List Int) (k p : Int) (w : Bool) (h : NodeK x1 x2 x3 x4) : ∃ r, f_spec_Want x0 x1 x2 x3 x4 k p w = some r ∧ f_impl_Want x0 x1 x2 x3 x4 k p w = some r ∧ NodeK r.2.1 r.2.2.1 r.2.2.2.1 r.2.2.2.2.1 ∧ wNode r.2.1 r.2.2.1 r.2.2.2.1 r.2.2.2.2.1 ≤ wNode x1 x2 x3 x4 + 1099516870656 := by
  unfold f_spec_Want f_impl_Want f_impl_isPage
  simp only [specNodeCopy x0 x1 x2 x3 x4 h, implNodeCopy x0 x1 x2 x3 x4 h, specNodeOk x0 x1 x2 x3 x4 k h, implNodeOk x0 x1 x2 x3 x4 k h, in_rng, from_rng, Option.bind_some]
  have same : ∃ r : Int × List FrameT × List HomeT × List SenderT × List Int × Bool, some (x0, x1, x2, x3, x4, false) = some r ∧ some (x0, x1, x2, x3, x4, false) = some r ∧ NodeK r.2.1 r.2.2.1 r.2.2.2.1 r.2.2.2.2.1 ∧ wNode r.2.1 r.2.2.1 r.2.2.2.1 r.2.2.2.2.1 ≤ wNode x1 x2 x3 x4 + 1099516870656 := ⟨_, rfl, rfl, h, by show wNode x1 x2 x3 x4 ≤ _; omega⟩
  cases hn : nodeOkB x0 x1 x2 x3 x4 k with
  | false => exact same
  | true =>
    obtain ⟨hk, -, f⟩ := nodeFacts x0 x1 x2 x3 x4 k hn
    have l1 : x1.length = 6 := f.l1
    have l3 : (x3.length : Int) = k := f.l3
    cases hp : rng p 5 with
    | false => exact same
    | true =>
      unfold rng at hp
      simp only [Bool.and_eq_true, decide_eq_true_eq] at hp
      have hf := tF_state _ (f.f _ (mem_getD x1 (0, [], false) p hp.1 (by omega)))
      have t0 : 0 ≤ Int.tmod p k := Int.tmod_nonneg k hp.1
      have t1 : Int.tmod p k < k := Int.tmod_lt_of_pos p (by omega)
      have ts := f.s _ (mem_getD x3 (0, []) (Int.tmod p k) t0 (by omega))
      have ks := h.e3 _ (mem_getD x3 (0, []) (Int.tmod p k) t0 (by omega))
      have so := (tS_eq _ ks).1
      rw [ts] at so
      obtain ⟨s0, s1, s2, s3, -⟩ := senderOk_facts _ _ ks.1 ks.2 so
      simp only [Bool.not_true, cond_false, decide_eq_true hp.1, decide_eq_true (show p < (x1.length : Int) by omega), Bool.and_self, cond_true, specLess, implLess _ _ _ w hf.1 hf.2, Option.bind_some, decide_eq_false (show ¬ k = 0 by omega), decide_eq_true t0, decide_eq_true (show Int.tmod p k < (x3.length : Int) by omega)]
      cases (x1.getD p.toNat (0, [], false)).2.2 with
      | true => exact same
      | false =>
        cases lessB (x1.getD p.toNat (0, [], false)).1 w with
        | false => exact same
        | true =>
          cases w with
          | true =>
            obtain ⟨b, ok, -, -, -, -, q1, q2⟩ := same_queue (x3.getD (Int.tmod p k).toNat (0, [])).1 (x3.getD (Int.tmod p k).toNat (0, [])).2 2 p false [] ks.1 ks.2 (by simp)
            have qo := queueB_ok (x3.getD (Int.tmod p k).toNat (0, [])).1 (x3.getD (Int.tmod p k).toNat (0, [])).2 b (2, p, false, []) ok (by omega) ks.2 (by simp)
            simp only [Bool.not_true, cond_false, cond_true, q1, q2, Option.bind_some]
            generalize queueB (x3.getD (Int.tmod p k).toNat (0, [])).1 (x3.getD (Int.tmod p k).toNat (0, [])).2 b (2, p, false, []) ok = r at qo
            cases r.2.2 with
            | false => exact same
            | true => exact ⟨_, rfl, rfl, want_node h p (Int.tmod p k) hp.1 (by omega) true (r.1, r.2.1) qo⟩
          | false =>
            obtain ⟨b, ok, -, -, -, -, q1, q2⟩ := same_queue (x3.getD (Int.tmod p k).toNat (0, [])).1 (x3.getD (Int.tmod p k).toNat (0, [])).2 1 p false [] ks.1 ks.2 (by simp)
            have qo := queueB_ok (x3.getD (Int.tmod p k).toNat (0, [])).1 (x3.getD (Int.tmod p k).toNat (0, [])).2 b (1, p, false, []) ok (by omega) ks.2 (by simp)
            simp only [Bool.not_true, cond_false, cond_true, q1, q2, Option.bind_some]
            generalize queueB (x3.getD (Int.tmod p k).toNat (0, [])).1 (x3.getD (Int.tmod p k).toNat (0, [])).2 b (1, p, false, []) ok = r at qo
            cases r.2.2 with
            | false => exact same
            | true => exact ⟨_, rfl, rfl, want_node h p (Int.tmod p k) hp.1 (by omega) true (r.1, r.2.1) qo⟩
theorem want (x0 : Int) (x1 : List FrameT) (x2 : List HomeT) (x3 : List SenderT) (x4 : List Int) (x5 x6 : Int) (x7 : Bool) (h : NodeB x1 x2 x3 x4) : f_laws_FnExactWant x0 x1 x2 x3 x4 x5 x6 x7 = some true := by
  unfold f_laws_FnExactWant
  rcases szNodeKW x0 x1 x2 x3 x4 h with e | ⟨l, e, l0, l1, k, hW⟩
  · rw [e]; rfl
  · obtain ⟨r, r1, r2, r3, r4⟩ := same_want x0 x1 x2 x3 x4 x5 x6 x7 k
    obtain ⟨y1, y2, y3, y4, c, a1, a2, a3, a4⟩ := markNodeW x0 x1 x2 x3 x4 k 1 (by omega) (by omega)
    obtain ⟨z1, z2, z3, z4, c', b1, b2, b3, b4⟩ := markNodeW r.1 r.2.1 r.2.2.1 r.2.2.2.1 r.2.2.2.2.1 r3 1 (by omega) (by omega)
    simp only [e, Option.bind_some, decide_eq_false (show ¬ l < 0 by omega), cond_false, toNode_self _ _ _ _ _ k, r1, r2, eqNode_self _ _ _ _ _ r3, eqNode_self _ _ _ _ _ k, beq_self_eq_true, Bool.not_true, a1, decide_eq_false (show ¬ c < 0 by omega), b1, b4, decide_eq_false (show ¬ c' < 0 by omega), decide_true]
theorem plain : Pure := fun x h => want x.1 x.2.1 x.2.2.1 x.2.2.2.1 x.2.2.2.2.1 x.2.2.2.2.2.1 x.2.2.2.2.2.2.1 x.2.2.2.2.2.2.2
  (bigOf h.2.1.1 h.2.2.1.1 h.2.2.2.1.1 h.2.2.2.2.1.1 (fun i hi => (h.2.1.2 i hi).2.1.1) (fun i hi => ⟨(h.2.2.1.2 i hi).1.1, (h.2.2.1.2 i hi).2.2.1.1, (h.2.2.1.2 i hi).2.2.2.2.2.2.2.1⟩)
    (fun i hi => ⟨(h.2.2.2.1.2 i hi).2.1, all_getD (d := (0, 0, false, [])) fun j hj => ((h.2.2.2.1.2 i hi).2.2 j hj).2.2.2.1⟩))
end Go.Abs
