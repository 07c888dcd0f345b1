/- The law FnExactSane returns true for every world: the program's Sane answers as the reference's, and turns nothing that it was handed. A world of more than 2^20 things is not asked for. -/
import Derived.Test.YtdhjooflkiagaaaGreatMFnExactSane
import Derived.Laws.BitsLemmas
namespace Go.Abs
open Go.RowKit
set_option linter.unusedVariables false
set_option linter.unusedSimpArgs false

theorem w64 {n : Int} (h0 : -9223372036854775808 ≤ n) (h1 : n ≤ 9223372036854775807) : IntKind.wrap .i64 n = n := by
  rw [IntKind.wrap_i64]
  omega
theorem succ_fuel {n d : Nat} (h : d < n) : ∃ m, n = m + 1 := ⟨n - 1, by omega⟩
theorem big : (1048577 : Nat) < N := by decide
theorem mem_getD {α : Type} (x : List α) (d : α) (i : Int) (h0 : 0 ≤ i) (h1 : i < x.length) : x.getD i.toNat d ∈ x := by
  have hlt : i.toNat < x.length := by omega
  rw [List.getD_eq_getElem?_getD, List.getElem?_eq_getElem hlt]
  exact List.getElem_mem hlt
theorem drop_getD {α : Type} (x : List α) (d : α) (i : Int) (h0 : 0 ≤ i) (h1 : i < x.length) : x.drop i.toNat = x.getD i.toNat d :: x.drop (i + 1).toNat := by
  have hlt : i.toNat < x.length := by omega
  have e : (i + 1).toNat = i.toNat + 1 := by omega
  rw [e, List.drop_eq_getElem_cons hlt, List.getD_eq_getElem?_getD, List.getElem?_eq_getElem hlt]
  rfl
theorem to_gen {α : Type} {d : α} {F : Nat → List α → Int → List α → Option (List α)} {g : α → Option α}
    (hs : ∀ n x i y, F (n + 1) x i y = bif decide (i < (x.length : Int)) then (bif (decide ((0 : Int) ≤ i) && decide (i < (x.length : Int))) then (g (x.getD i.toNat d)).bind fun e => (bif (decide ((0 : Int) ≤ i) && decide (i < (y.length : Int))) then F n x (IntKind.wrap .i64 (i + 1)) (y.set i.toNat e) else none) else none) else some y)
    (x : List α) (hn : x.length ≤ 1048576) (hg : ∀ e ∈ x, g e = some e) (k : Nat) : ∀ (n : Nat) (y : List α) (i : Int), 0 ≤ i → i ≤ x.length → (x.length : Int) - i = k → k < n → y.length = x.length → y.take i.toNat = x.take i.toNat → F n x i y = some x := by
  induction k with
  | zero =>
    intro n y i h0 h1 hd hk hl ht
    obtain ⟨n, rfl⟩ := succ_fuel hk
    rw [hs, decide_eq_false (by omega), cond_false]
    rw [List.take_of_length_le (by omega), List.take_of_length_le (by omega)] at ht
    rw [ht]
  | succ k ih =>
    intro n y i h0 h1 hd hk hl ht
    obtain ⟨n, rfl⟩ := succ_fuel hk
    have hw : IntKind.wrap .i64 (i + 1) = i + 1 := w64 (by omega) (by omega)
    have hlt : i.toNat < x.length := by omega
    rw [hs, decide_eq_true (show i < (x.length : Int) by omega), decide_eq_true h0, decide_eq_true (show i < (y.length : Int) by omega), hw, hg _ (mem_getD x d i h0 (by omega))]
    simp only [cond_true, Bool.and_self, Option.bind_some]
    refine ih n _ (i + 1) (by omega) (by omega) (by omega) (by omega) (by rw [List.length_set]; exact hl) ?_
    have e : (i + 1).toNat = i.toNat + 1 := by omega
    rw [e, List.take_add_one, List.take_add_one, List.take_set, List.getElem?_set_self (by omega), List.getElem?_eq_getElem hlt]
    have : x.getD i.toNat d = x[i.toNat] := by rw [List.getD_eq_getElem?_getD, List.getElem?_eq_getElem hlt]; rfl
    rw [this, List.set_eq_of_length_le (by rw [List.length_take]; omega), ht]
theorem eq_gen {α : Type} {d : α} {F : Nat → List α → List α → Bool → Int → Option (Bool ⊕ Bool)} {q : α → α → Option Bool}
    (hs : ∀ n x y b i, F (n + 1) x y b i = bif decide (i < (x.length : Int)) then (bif (decide ((0 : Int) ≤ i) && decide (i < (x.length : Int))) then (bif (decide ((0 : Int) ≤ i) && decide (i < (y.length : Int))) then (q (x.getD i.toNat d) (y.getD i.toNat d)).bind fun r => (bif (!r) then some (.inl false) else F n x y b (IntKind.wrap .i64 (i + 1))) else none) else none) else some (.inr b))
    (x : List α) (hn : x.length ≤ 1048576) (hq : ∀ e ∈ x, q e e = some true) (b : Bool) (k : Nat) : ∀ (n : Nat) (i : Int), 0 ≤ i → i ≤ x.length → (x.length : Int) - i = k → k < n → F n x x b i = some (.inr b) := by
  induction k with
  | zero =>
    intro n i h0 h1 hd hk
    obtain ⟨n, rfl⟩ := succ_fuel hk
    rw [hs, decide_eq_false (by omega), cond_false]
  | succ k ih =>
    intro n i h0 h1 hd hk
    obtain ⟨n, rfl⟩ := succ_fuel hk
    have hw : IntKind.wrap .i64 (i + 1) = i + 1 := w64 (by omega) (by omega)
    rw [hs, decide_eq_true (show i < (x.length : Int) by omega), decide_eq_true h0, hw, hq _ (mem_getD x d i h0 (by omega))]
    simp only [cond_true, Bool.and_self, Option.bind_some, Bool.not_true, cond_false]
    exact ih n (i + 1) (by omega) (by omega) (by omega) (by omega)
theorem sz_gen {α : Type} {d : α} {F : Nat → List α → Int → Int → Int → Option (Int ⊕ (Int × Int))} {s : α → Int → Option Int} {Ok : α → Prop}
    (hs : ∀ n x l q i, F (n + 1) x l q i = bif decide (i < (x.length : Int)) then (bif (decide ((0 : Int) ≤ i) && decide (i < (x.length : Int))) then (s (x.getD i.toNat d) l).bind fun r => (bif decide (r < 0) then some (.inl (-1)) else F n x r q (IntKind.wrap .i64 (i + 1))) else none) else some (.inr (l, q)))
    (x : List α) (hn : x.length ≤ 1048576) (he : ∀ e ∈ x, ∀ l, 0 ≤ l → l ≤ 1048576 → s e l = some (-1) ∨ ∃ l', s e l = some l' ∧ 0 ≤ l' ∧ l' ≤ l ∧ Ok e) (q : Int) (k : Nat) :
    ∀ (n : Nat) (l i : Int), 0 ≤ l → l ≤ 1048576 → 0 ≤ i → i ≤ x.length → (x.length : Int) - i = k → k < n → F n x l q i = some (.inl (-1)) ∨ ∃ l', F n x l q i = some (.inr (l', q)) ∧ 0 ≤ l' ∧ l' ≤ l ∧ ∀ e ∈ x.drop i.toNat, Ok e := by
  induction k with
  | zero =>
    intro n l i hl0 hl1 h0 h1 hd hk
    obtain ⟨n, rfl⟩ := succ_fuel hk
    rw [hs, decide_eq_false (show ¬ i < (x.length : Int) by omega), cond_false, List.drop_eq_nil_of_le (by omega)]
    exact .inr ⟨l, rfl, hl0, Int.le_refl _, fun e h => by cases h⟩
  | succ k ih =>
    intro n l i hl0 hl1 h0 h1 hd hk
    obtain ⟨n, rfl⟩ := succ_fuel hk
    have hw : IntKind.wrap .i64 (i + 1) = i + 1 := w64 (by omega) (by omega)
    rw [hs, decide_eq_true (show i < (x.length : Int) by omega), decide_eq_true h0, hw]
    simp only [cond_true, Bool.and_self]
    rcases he _ (mem_getD x d i h0 (by omega)) l hl0 hl1 with h | ⟨l', h, a0, a1, a2⟩
    · rw [h]; exact .inl rfl
    · rw [h, Option.bind_some, decide_eq_false (show ¬ l' < 0 by omega), cond_false]
      rcases ih n l' (i + 1) a0 (by omega) (by omega) (by omega) (by omega) (by omega) with h2 | ⟨l2, h2, b0, b1, b2⟩
      · exact .inl h2
      · refine .inr ⟨l2, h2, b0, by omega, fun e hm => ?_⟩
        rw [drop_getD x d i h0 (by omega)] at hm
        rcases List.mem_cons.1 hm with rfl | hm
        · exact a2
        · exact b2 e hm
theorem lt_N {x : Nat} (h : x ≤ 1048576) : x < N := Nat.lt_of_le_of_lt h (Nat.lt_trans (by omega) big)
theorem all_getD {α : Type} {x : List α} {d : α} {Pr : α → Prop} (h : ∀ i, i < x.length → Pr (x.getD i d)) : ∀ e ∈ x, Pr e := by
  intro e he
  obtain ⟨i, hi, rfl⟩ := List.getElem_of_mem he
  have := h i hi
  rw [List.getD_eq_getElem?_getD, List.getElem?_eq_getElem hi] at this
  exact this
theorem szIntS (x : List Int) (left : Int) (h0 : 0 ≤ left) (h1 : left ≤ 1048576) (hx : x.length ≤ 9223372036854775807) :
    (f_laws_szIntS x left = some (-1)) ∨ (f_laws_szIntS x left = some (left - x.length) ∧ (x.length : Int) ≤ left) := by
  unfold f_laws_szIntS
  rw [w64 (by omega) (by omega)]
  by_cases h : left - (x.length : Int) < 0
  · rw [decide_eq_true h]; exact .inl rfl
  · rw [decide_eq_false h]; exact .inr ⟨rfl, by omega⟩
def rng (x m : Int) : Bool := decide ((0 : Int) ≤ x) && decide (x ≤ m)
theorem in_rng (x m : Int) : f_spec_l1In x 0 m = some (rng x m) := by
  unfold f_spec_l1In rng
  cases decide ((0 : Int) ≤ x) <;> rfl
theorem from_rng (x m : Int) : f_impl_from x 0 m = some (rng x m) := by
  unfold f_impl_from rng
  cases decide ((0 : Int) ≤ x) <;> rfl
def rg (x a b : Int) : Bool := decide (a ≤ x) && decide (x ≤ b)
theorem in_rg (x a b : Int) : f_spec_l1In x a b = some (rg x a b) := by
  unfold f_spec_l1In rg
  cases decide (a ≤ x) <;> rfl
theorem from_rg (x a b : Int) : f_impl_from x a b = some (rg x a b) := by
  unfold f_impl_from rg
  cases decide (a ≤ x) <;> rfl
theorem toIntS_loop (x : List Int) (hn : x.length ≤ 1048576) (d : Nat) : ∀ (n : Nat) (y : List Int) (i : Int), 0 ≤ i → i ≤ x.length → (x.length : Int) - i = d → d < n → y.length = x.length → y.take i.toNat = x.take i.toNat → f_laws_toIntS.l0 n x i y = some x := by
  induction d with
  | zero =>
    intro n y i h0 h1 hd hk hl ht
    obtain ⟨n, rfl⟩ := succ_fuel hk
    simp only [f_laws_toIntS.l0]
    rw [decide_eq_false (by omega), cond_false]
    rw [List.take_of_length_le (by omega), List.take_of_length_le (by omega)] at ht
    rw [ht]
  | succ d ih =>
    intro n y i h0 h1 hd hk hl ht
    obtain ⟨n, rfl⟩ := succ_fuel hk
    have hw : IntKind.wrap .i64 (i + 1) = i + 1 := w64 (by omega) (by omega)
    have hlt : i.toNat < x.length := by omega
    simp only [f_laws_toIntS.l0]
    rw [decide_eq_true (show i < (x.length : Int) by omega), decide_eq_true h0, decide_eq_true (show i < (y.length : Int) by omega), hw]
    simp only [cond_true, Bool.and_self, Option.bind_some]
    refine ih n _ (i + 1) (by omega) (by omega) (by omega) (by omega) (by rw [List.length_set]; exact hl) ?_
    have e : (i + 1).toNat = i.toNat + 1 := by omega
    rw [e, List.take_add_one, List.take_add_one, List.take_set, List.getElem?_set_self (by omega), List.getElem?_eq_getElem hlt]
    have : x.getD i.toNat 0 = x[i.toNat] := by rw [List.getD_eq_getElem?_getD, List.getElem?_eq_getElem hlt]; rfl
    rw [this, List.set_eq_of_length_le (by rw [List.length_take]; omega), ht]
theorem toIntS (x : List Int) (hn : x.length ≤ 1048576) : f_laws_toIntS x = some x := by
  unfold f_laws_toIntS
  rw [decide_eq_true (by omega), show Nat.ble ((x.length : Int).toNat) 17592186044416 = true from Nat.ble_eq_true_of_le (by omega)]
  simp only [Bool.and_self, cond_true]
  rw [toIntS_loop x hn x.length N _ 0 (by omega) (by omega) (by omega) (Nat.lt_of_le_of_lt (by omega) big) (by simp) (by simp)]
  rfl
theorem eqIntS_loop (x : List Int) (hn : x.length ≤ 1048576) (b : Bool) (d : Nat) : ∀ (n : Nat) (i : Int), 0 ≤ i → i ≤ x.length → (x.length : Int) - i = d → d < n → f_laws_eqIntS.l0 n x x b i = some (.inr b) := by
  induction d with
  | zero =>
    intro n i h0 h1 hd hk
    obtain ⟨n, rfl⟩ := succ_fuel hk
    simp only [f_laws_eqIntS.l0]
    rw [decide_eq_false (by omega), cond_false]
  | succ d ih =>
    intro n i h0 h1 hd hk
    obtain ⟨n, rfl⟩ := succ_fuel hk
    have hw : IntKind.wrap .i64 (i + 1) = i + 1 := w64 (by omega) (by omega)
    simp only [f_laws_eqIntS.l0]
    rw [decide_eq_true (show i < (x.length : Int) by omega), decide_eq_true h0, hw]
    simp only [cond_true, Bool.and_self, decide_true, Bool.not_true, cond_false]
    exact ih n (i + 1) (by omega) (by omega) (by omega) (by omega)
theorem eqIntS (x : List Int) (hn : x.length ≤ 1048576) : f_laws_eqIntS x x = some true := by
  unfold f_laws_eqIntS
  simp only [decide_true, Bool.not_true, cond_false]
  rw [eqIntS_loop x hn false x.length N 0 (by omega) (by omega) (by omega) (Nat.lt_of_le_of_lt (by omega) big)]
  rfl
def allW (x : List Int) : Bool := x.all fun w => rng w 65535
theorem drop_step (x : List Int) (i : Int) (h0 : 0 ≤ i) (h1 : i < x.length) : x.drop i.toNat = x.getD i.toNat 0 :: x.drop (i + 1).toNat := by
  have hlt : i.toNat < x.length := by omega
  have e : (i + 1).toNat = i.toNat + 1 := by omega
  rw [e, List.drop_eq_getElem_cons hlt, List.getD_eq_getElem?_getD, List.getElem?_eq_getElem hlt]
  rfl
theorem specWords_loop (x : List Int) (hn : x.length ≤ 1048576) (k : Int) (b : Bool) (d : Nat) : ∀ (n : Nat) (i : Int), 0 ≤ i → i ≤ x.length → (x.length : Int) - i = d → d < n →
    f_spec_l1Words.l0 n x k b i = some (bif allW (x.drop i.toNat) then .inr (x, k, b) else .inl false) := by
  induction d with
  | zero =>
    intro n i h0 h1 hd hk
    obtain ⟨n, rfl⟩ := succ_fuel hk
    simp only [f_spec_l1Words.l0]
    rw [decide_eq_false (by omega), cond_false, List.drop_eq_nil_of_le (by omega)]
    rfl
  | succ d ih =>
    intro n i h0 h1 hd hk
    obtain ⟨n, rfl⟩ := succ_fuel hk
    have hw : IntKind.wrap .i64 (i + 1) = i + 1 := w64 (by omega) (by omega)
    simp only [f_spec_l1Words.l0]
    rw [decide_eq_true (show i < (x.length : Int) by omega), decide_eq_true h0, hw, in_rng, drop_step x i h0 (by omega)]
    simp only [cond_true, Bool.and_self, Option.bind_some]
    unfold allW
    rw [List.all_cons]
    cases hr : rng (x.getD i.toNat 0) 65535 with
    | false => rfl
    | true =>
      simp only [Bool.not_true, cond_false, Bool.true_and]
      exact ih n (i + 1) (by omega) (by omega) (by omega) (by omega)
theorem specWords (x : List Int) (hn : x.length ≤ 1048576) (k : Int) : f_spec_l1Words x k = some (allW x && decide ((x.length : Int) = k)) := by
  unfold f_spec_l1Words
  rw [specWords_loop x hn k false x.length N 0 (by omega) (by omega) (by omega) (Nat.lt_of_le_of_lt (by omega) big)]
  simp only [Int.toNat_zero, List.drop_zero, Option.bind_some]
  cases allW x <;> rfl
theorem implWords_loop (x : List Int) (hn : x.length ≤ 1048576) (q : Int) (d : Nat) : ∀ (n : Nat) (i : Int), 0 ≤ i → i ≤ x.length → (x.length : Int) - i = d → d < n →
    (allW (x.drop i.toNat) = true ∧ f_impl_wordsOk.l0 n x q (x.length : Int) i = some (.inr q)) ∨ (allW (x.drop i.toNat) = false ∧ ∃ j : Int, 0 ≤ j ∧ f_impl_wordsOk.l0 n x q (x.length : Int) i = some (.inl j)) := by
  induction d with
  | zero =>
    intro n i h0 h1 hd hk
    obtain ⟨n, rfl⟩ := succ_fuel hk
    simp only [f_impl_wordsOk.l0]
    rw [decide_eq_false (show ¬ i < (x.length : Int) by omega), cond_false, List.drop_eq_nil_of_le (by omega)]
    exact .inl ⟨rfl, rfl⟩
  | succ d ih =>
    intro n i h0 h1 hd hk
    obtain ⟨n, rfl⟩ := succ_fuel hk
    have hw : IntKind.wrap .i64 (i + 1) = i + 1 := w64 (by omega) (by omega)
    have ih2 := ih n (i + 1) (by omega) (by omega) (by omega) (by omega)
    simp only [f_impl_wordsOk.l0]
    rw [decide_eq_true (show i < (x.length : Int) by omega), decide_eq_true h0, hw, drop_step x i h0 (by omega)]
    unfold f_impl_wordsOk_1 f_impl_isWord
    simp only [cond_true, Bool.and_self, from_rng, Option.bind_some]
    unfold allW at ih2 ⊢
    rw [List.all_cons]
    cases hr : rng (x.getD i.toNat 0) 65535 with
    | false => exact .inr ⟨rfl, i, h0, rfl⟩
    | true =>
      simp only [Bool.not_true, cond_false, Bool.true_and]
      exact ih2
theorem implWords (x : List Int) (hn : x.length ≤ 1048576) (k : Int) : f_impl_wordsOk x k = some (allW x && decide ((x.length : Int) = k)) := by
  unfold f_impl_wordsOk
  have h := implWords_loop x hn 0 x.length N 0 (by omega) (by omega) (by omega) (Nat.lt_of_le_of_lt (by omega) big)
  simp only [Int.toNat_zero, List.drop_zero] at h
  cases decide ((x.length : Int) = k) with
  | false => simp
  | true =>
    rcases h with ⟨h1, h2⟩ | ⟨h1, j, h3, h2⟩
    · simp only [cond_true, h2, Option.bind_some, h1, Bool.and_true]; rfl
    · simp only [cond_true, h2, Option.bind_some, h1, Bool.and_true]
      show some (!(decide ((0 : Int) ≤ j))) = some false
      rw [decide_eq_true h3]; rfl
theorem same_frameOk (x0 : Int) (x1 : List Int) (x2 : Bool) (hn : x1.length ≤ 1048576) : ∃ b, f_spec_FrameOk x0 x1 x2 = some b ∧ f_impl_FrameOk x0 x1 x2 = some b := by
  unfold f_spec_FrameOk f_impl_FrameOk
  simp only [specWords x1 hn, implWords x1 hn, in_rng, Option.bind_some]
  by_cases h0 : x0 = 0
  · rw [decide_eq_true h0]; exact ⟨_, rfl, rfl⟩
  · rw [decide_eq_false h0]
    by_cases h1 : x0 = 1
    · subst h1; exact ⟨_, rfl, rfl⟩
    · by_cases h2 : x0 = 2
      · subst h2; exact ⟨_, rfl, rfl⟩
      · have hr : rng x0 2 = false := by
          unfold rng
          by_cases h3 : 0 ≤ x0
          · rw [decide_eq_true h3, decide_eq_false (by omega)]; rfl
          · rw [decide_eq_false h3]; rfl
        rw [hr, decide_eq_false h1, decide_eq_false h2]
        exact ⟨_, rfl, rfl⟩
theorem toFrame_self (a : Int) (x : List Int) (c : Bool) (hn : x.length ≤ 1048576) : f_laws_toFrame a x c = some (a, x, c) := by
  unfold f_laws_toFrame
  simp only [toIntS x hn, Option.bind_some]
theorem eqFrame_self (a : Int) (x : List Int) (c : Bool) (hn : x.length ≤ 1048576) : f_laws_eqFrame a x c a x c = some true := by
  unfold f_laws_eqFrame
  simp only [decide_true, Bool.not_true, cond_false, beq_self_eq_true, eqIntS x hn, Option.bind_some]
theorem szFrame (a : Int) (x : List Int) (b : Bool) (left : Int) (h0 : 0 ≤ left) (h1 : left ≤ 1048576) (hx : x.length ≤ 9223372036854775807) :
    (f_laws_szFrame a x b left = some (-1)) ∨ (f_laws_szFrame a x b left = some (left - x.length) ∧ (x.length : Int) ≤ left) := by
  unfold f_laws_szFrame
  rcases szIntS x left h0 h1 hx with h | ⟨h, hl⟩
  · simp only [h, Option.bind_some]; exact .inl rfl
  · simp only [h, Option.bind_some]
    rw [decide_eq_false (by omega)]
    exact .inr ⟨rfl, hl⟩
theorem allW_nil (x : List Int) : (allW x && decide ((x.length : Int) = 0)) = decide ((x.length : Int) = 0) := by
  cases x with
  | nil => rfl
  | cons a x =>
    rw [decide_eq_false (by simp; omega), Bool.and_false]
theorem same_msgOk (x0 x1 : Int) (x2 : Bool) (x3 : List Int) (hn : x3.length ≤ 1048576) : ∃ b, f_spec_MsgOk x0 x1 x2 x3 = some b ∧ f_impl_MsgOk x0 x1 x2 x3 = some b := by
  unfold f_spec_MsgOk f_impl_MsgOk f_impl_isPage
  simp only [specWords x3 hn, implWords x3 hn, in_rg, from_rg, Option.bind_some, allW_nil]
  by_cases h3 : x0 = 3
  · subst h3
    rw [show rg 3 1 7 = true from rfl]
    cases rg x1 0 5 <;> cases x2 <;> exact ⟨_, rfl, rfl⟩
  · by_cases h7 : x0 = 7
    · subst h7
      rw [show rg 7 1 7 = true from rfl]
      cases rg x1 0 5 <;> cases x2 <;> exact ⟨_, rfl, rfl⟩
    · by_cases h6 : x0 = 6
      · subst h6
        rw [show rg 6 1 7 = true from rfl]
        cases rg x1 0 5 <;> cases x2 <;> exact ⟨_, rfl, rfl⟩
      · rw [decide_eq_false h3, decide_eq_false h7, decide_eq_false h6]
        cases rg x0 1 7 <;> cases rg x1 0 5 <;> cases x2 <;> exact ⟨_, rfl, rfl⟩
theorem eqMsg_self (a b : Int) (c : Bool) (x : List Int) (hn : x.length ≤ 1048576) : f_laws_eqMsg a b c x a b c x = some true := by
  unfold f_laws_eqMsg
  simp only [decide_true, Bool.not_true, cond_false, beq_self_eq_true, eqIntS x hn, Option.bind_some]
theorem toMsg_self (a b : Int) (c : Bool) (x : List Int) (hn : x.length ≤ 1048576) : f_laws_toMsg a b c x = some (a, b, c, x) := by
  unfold f_laws_toMsg
  simp only [toIntS x hn, Option.bind_some]
theorem szMsg (a b : Int) (c : Bool) (x : List Int) (left : Int) (h0 : 0 ≤ left) (h1 : left ≤ 1048576) (hx : x.length ≤ 9223372036854775807) :
    (f_laws_szMsg a b c x left = some (-1)) ∨ (f_laws_szMsg a b c x left = some (left - x.length) ∧ (x.length : Int) ≤ left) := by
  unfold f_laws_szMsg
  rcases szIntS x left h0 h1 hx with h | ⟨h, hl⟩
  · simp only [h, Option.bind_some]; exact .inl rfl
  · simp only [h, Option.bind_some]
    rw [decide_eq_false (by omega)]
    exact .inr ⟨rfl, hl⟩
abbrev MsgL := Int × Int × Bool × List Int
theorem szMsgS (x : List MsgL) (left : Int) (h0 : 0 ≤ left) (h1 : left ≤ 1048576) (hx : x.length ≤ 9223372036854775807) (he : ∀ e ∈ x, e.2.2.2.length ≤ 9223372036854775807) :
    f_laws_szMsgS x left = some (-1) ∨ ∃ l, f_laws_szMsgS x left = some l ∧ 0 ≤ l ∧ l ≤ left ∧ x.length ≤ 1048576 ∧ ∀ e ∈ x, e.2.2.2.length ≤ 1048576 := by
  unfold f_laws_szMsgS
  rw [w64 (by omega) (by omega)]
  by_cases h : left - (x.length : Int) < 0
  · rw [decide_eq_true h]; exact .inl rfl
  · rw [decide_eq_false h, cond_false]
    have hn : x.length ≤ 1048576 := by omega
    rcases sz_gen (F := f_laws_szMsgS.l0) (s := fun e l => f_laws_szMsg e.1 e.2.1 e.2.2.1 e.2.2.2 l) (Ok := fun e : MsgL => e.2.2.2.length ≤ 1048576) (d := (0, 0, false, [])) (fun n x l q i => rfl) x hn (fun e hm l a0 a1 => by
        rcases szMsg e.1 e.2.1 e.2.2.1 e.2.2.2 l a0 a1 (he e hm) with h2 | ⟨h2, h3⟩
        · exact .inl h2
        · exact .inr ⟨_, h2, by omega, by omega, by omega⟩) 0 x.length N (left - (x.length : Int)) 0 (by omega) (by omega) (by omega) (by omega) (by omega) (lt_N hn) with h2 | ⟨l, h2, b0, b1, b2⟩
    · rw [h2]; exact .inl rfl
    · rw [h2]
      exact .inr ⟨l, rfl, b0, by omega, hn, fun e hm => b2 e (by simpa using hm)⟩
theorem toMsgS (x : List MsgL) (hn : x.length ≤ 1048576) (he : ∀ e ∈ x, e.2.2.2.length ≤ 1048576) : f_laws_toMsgS x = some x := by
  unfold f_laws_toMsgS
  rw [decide_eq_true (by omega), show Nat.ble ((x.length : Int).toNat) 2932031007402 = true from Nat.ble_eq_true_of_le (by omega)]
  simp only [Bool.and_self, cond_true]
  rw [to_gen (F := f_laws_toMsgS.l0) (g := fun e => f_laws_toMsg e.1 e.2.1 e.2.2.1 e.2.2.2) (d := (0, 0, false, [])) (fun n x i y => rfl) x hn (fun e hm => toMsg_self _ _ _ _ (he e hm)) x.length N _ 0 (by omega) (by omega) (by omega) (lt_N hn) (by simp) (by simp)]
  rfl
theorem eqMsgS (x : List MsgL) (hn : x.length ≤ 1048576) (he : ∀ e ∈ x, e.2.2.2.length ≤ 1048576) : f_laws_eqMsgS x x = some true := by
  unfold f_laws_eqMsgS
  simp only [decide_true, Bool.not_true, cond_false]
  rw [eq_gen (F := f_laws_eqMsgS.l0) (q := fun e f => f_laws_eqMsg e.1 e.2.1 e.2.2.1 e.2.2.2 f.1 f.2.1 f.2.2.1 f.2.2.2) (d := (0, 0, false, [])) (fun n x y b i => rfl) x hn (fun e hm => eqMsg_self _ _ _ _ (he e hm)) false x.length N 0 (by omega) (by omega) (by omega) (lt_N hn)]
  rfl
noncomputable def tM (e : MsgL) : Bool := (f_spec_MsgOk e.1 e.2.1 e.2.2.1 e.2.2.2).getD false
theorem tM_eq (e : MsgL) (h : e.2.2.2.length ≤ 1048576) : f_spec_MsgOk e.1 e.2.1 e.2.2.1 e.2.2.2 = some (tM e) ∧ f_impl_MsgOk e.1 e.2.1 e.2.2.1 e.2.2.2 = some (tM e) := by
  obtain ⟨b, h1, h2⟩ := same_msgOk e.1 e.2.1 e.2.2.1 e.2.2.2 h
  unfold tM
  rw [h1, h2]
  exact ⟨rfl, rfl⟩
theorem senderS_loop (x : List MsgL) (hn : x.length ≤ 1048576) (he : ∀ e ∈ x, e.2.2.2.length ≤ 1048576) (c : Bool) (a : Int) (k : Nat) : ∀ (n : Nat) (i : Int), 0 ≤ i → i ≤ x.length → (x.length : Int) - i = k → k < n →
    f_spec_SenderOk.l0 n c i a x = some (bif (x.drop i.toNat).all tM then .inr (c, a, x) else .inl false) := by
  induction k with
  | zero =>
    intro n i h0 h1 hd hk
    obtain ⟨n, rfl⟩ := succ_fuel hk
    simp only [f_spec_SenderOk.l0]
    rw [decide_eq_false (show ¬ i < (x.length : Int) by omega), cond_false, List.drop_eq_nil_of_le (by omega)]
    rfl
  | succ k ih =>
    intro n i h0 h1 hd hk
    obtain ⟨n, rfl⟩ := succ_fuel hk
    have hw : IntKind.wrap .i64 (i + 1) = i + 1 := w64 (by omega) (by omega)
    simp only [f_spec_SenderOk.l0]
    rw [decide_eq_true (show i < (x.length : Int) by omega), decide_eq_true h0, hw, (tM_eq _ (he _ (mem_getD x (0, 0, false, []) i h0 (by omega)))).1, drop_getD x (0, 0, false, []) i h0 (by omega)]
    simp only [cond_true, Bool.and_self, Option.bind_some, List.all_cons]
    cases tM (x.getD i.toNat (0, 0, false, [])) with
    | false => rfl
    | true =>
      simp only [Bool.not_true, cond_false, Bool.true_and]
      exact ih n (i + 1) (by omega) (by omega) (by omega) (by omega)
theorem senderI_loop (x : List MsgL) (hn : x.length ≤ 1048576) (he : ∀ e ∈ x, e.2.2.2.length ≤ 1048576) (q a : Int) (k : Nat) : ∀ (n : Nat) (i : Int), 0 ≤ i → i ≤ x.length → (x.length : Int) - i = k → k < n →
    ((x.drop i.toNat).all tM = true ∧ f_impl_SenderOk.l0 n x q (x.length : Int) i a x = some (.inr (q, a, x))) ∨ ((x.drop i.toNat).all tM = false ∧ ∃ j : Int, 0 ≤ j ∧ f_impl_SenderOk.l0 n x q (x.length : Int) i a x = some (.inl (j, a, x))) := by
  induction k with
  | zero =>
    intro n i h0 h1 hd hk
    obtain ⟨n, rfl⟩ := succ_fuel hk
    simp only [f_impl_SenderOk.l0]
    rw [decide_eq_false (show ¬ i < (x.length : Int) by omega), cond_false, List.drop_eq_nil_of_le (by omega)]
    exact .inl ⟨rfl, rfl⟩
  | succ k ih =>
    intro n i h0 h1 hd hk
    obtain ⟨n, rfl⟩ := succ_fuel hk
    have hw : IntKind.wrap .i64 (i + 1) = i + 1 := w64 (by omega) (by omega)
    have ih2 := ih n (i + 1) (by omega) (by omega) (by omega) (by omega)
    simp only [f_impl_SenderOk.l0, f_impl_SenderOk_1]
    rw [decide_eq_true (show i < (x.length : Int) by omega), decide_eq_true h0, hw, (tM_eq _ (he _ (mem_getD x (0, 0, false, []) i h0 (by omega)))).2, drop_getD x (0, 0, false, []) i h0 (by omega)]
    simp only [cond_true, Bool.and_self, Option.bind_some, List.all_cons]
    cases tM (x.getD i.toNat (0, 0, false, [])) with
    | false => exact .inr ⟨rfl, i, h0, rfl⟩
    | true =>
      simp only [Bool.not_true, cond_false, Bool.true_and]
      exact ih2
theorem same_senderOk (a : Int) (x : List MsgL) (hn : x.length ≤ 1048576) (he : ∀ e ∈ x, e.2.2.2.length ≤ 1048576) : ∃ b, f_spec_SenderOk a x = some b ∧ f_impl_SenderOk a x = some b := by
  unfold f_spec_SenderOk f_impl_SenderOk f_impl_isSeq
  rw [senderS_loop x hn he false a x.length N 0 (by omega) (by omega) (by omega) (lt_N hn)]
  have hi := senderI_loop x hn he 0 a x.length N 0 (by omega) (by omega) (by omega) (lt_N hn)
  simp only [Int.toNat_zero, List.drop_zero, in_rg, from_rg, Option.bind_some] at hi ⊢
  rcases hi with ⟨h1, h2⟩ | ⟨h1, j, h3, h2⟩
  · rw [h1, h2]
    simp only [cond_true, cs, Option.bind_some]
    cases rg a 0 100000 <;> cases decide ((x.length : Int) ≤ 30) <;> cases decide (IntKind.wrap .i64 (a + (x.length : Int)) ≤ 100000) <;> exact ⟨_, rfl, rfl⟩
  · rw [h1, h2]
    simp only [cond_false, cs, Option.bind_some, decide_eq_true h3]
    cases rg a 0 100000 <;> cases decide ((x.length : Int) ≤ 30) <;> cases decide (IntKind.wrap .i64 (a + (x.length : Int)) ≤ 100000) <;> exact ⟨_, rfl, rfl⟩
theorem szSender (a : Int) (x : List MsgL) (left : Int) (h0 : 0 ≤ left) (h1 : left ≤ 1048576) (hx : x.length ≤ 9223372036854775807) (he : ∀ e ∈ x, e.2.2.2.length ≤ 9223372036854775807) :
    f_laws_szSender a x left = some (-1) ∨ ∃ l, f_laws_szSender a x left = some l ∧ 0 ≤ l ∧ l ≤ left ∧ x.length ≤ 1048576 ∧ ∀ e ∈ x, e.2.2.2.length ≤ 1048576 := by
  unfold f_laws_szSender
  rcases szMsgS x left h0 h1 hx he with h | ⟨l, h, l0, l1, hn, hb⟩
  · simp only [h, Option.bind_some]; exact .inl rfl
  · simp only [h, Option.bind_some]
    rw [decide_eq_false (by omega)]
    exact .inr ⟨l, rfl, l0, l1, hn, hb⟩
theorem toSender_self (a : Int) (x : List MsgL) (hn : x.length ≤ 1048576) (he : ∀ e ∈ x, e.2.2.2.length ≤ 1048576) : f_laws_toSender a x = some (a, x) := by
  unfold f_laws_toSender
  rw [toMsgS x hn he]; rfl
theorem eqSender_self (a : Int) (x : List MsgL) (hn : x.length ≤ 1048576) (he : ∀ e ∈ x, e.2.2.2.length ≤ 1048576) : f_laws_eqSender a x a x = some true := by
  unfold f_laws_eqSender
  simp only [decide_true, Bool.not_true, cond_false, eqMsgS x hn he, Option.bind_some]
theorem szBoolS (x : List Bool) (left : Int) (h0 : 0 ≤ left) (h1 : left ≤ 1048576) (hx : x.length ≤ 9223372036854775807) : (f_laws_szBoolS x left = some (-1)) ∨ (f_laws_szBoolS x left = some (left - x.length) ∧ (x.length : Int) ≤ left) := by
  unfold f_laws_szBoolS
  rw [w64 (by omega) (by omega)]
  by_cases h : left - (x.length : Int) < 0
  · rw [decide_eq_true h]; exact .inl rfl
  · rw [decide_eq_false h]; exact .inr ⟨rfl, by omega⟩
theorem szWaitS (x : List (Int × Bool)) (left : Int) (h0 : 0 ≤ left) (h1 : left ≤ 1048576) (hx : x.length ≤ 9223372036854775807) : (f_laws_szWaitS x left = some (-1)) ∨ (f_laws_szWaitS x left = some (left - x.length) ∧ (x.length : Int) ≤ left) := by
  unfold f_laws_szWaitS
  rw [w64 (by omega) (by omega)]
  by_cases h : left - (x.length : Int) < 0
  · rw [decide_eq_true h]; exact .inl rfl
  · rw [decide_eq_false h]; exact .inr ⟨rfl, by omega⟩
structure HomeS (x0 : List Int) (x2 : List Bool) (x7 : List (Int × Bool)) : Prop where
  g0 : x0.length ≤ 1048576
  g2 : x2.length ≤ 1048576
  g7 : x7.length ≤ 1048576
theorem szHome (x0 : List Int) (x1 : Int) (x2 : List Bool) (x3 : Bool) (x4 : Int) (x5 : Bool) (x6 : Int) (x7 : List (Int × Bool)) (left : Int) (h0 : 0 ≤ left) (h1 : left ≤ 1048576) (b0 : x0.length ≤ 9223372036854775807) (b2 : x2.length ≤ 9223372036854775807) (b7 : x7.length ≤ 9223372036854775807) :
    f_laws_szHome x0 x1 x2 x3 x4 x5 x6 x7 left = some (-1) ∨ ∃ l, f_laws_szHome x0 x1 x2 x3 x4 x5 x6 x7 left = some l ∧ 0 ≤ l ∧ l ≤ left ∧ HomeS x0 x2 x7 := by
  unfold f_laws_szHome
  rcases szIntS x0 left h0 h1 b0 with h | ⟨h, k⟩
  · rw [h]; exact .inl rfl
  · rw [h, Option.bind_some, decide_eq_false (by omega), cond_false]
    rcases szBoolS x2 (left - x0.length) (by omega) (by omega) b2 with h' | ⟨h', k'⟩
    · rw [h']; exact .inl rfl
    · rw [h', Option.bind_some, decide_eq_false (by omega), cond_false]
      rcases szWaitS x7 (left - x0.length - x2.length) (by omega) (by omega) b7 with h2 | ⟨h2, k2⟩
      · rw [h2]; exact .inl rfl
      · rw [h2, Option.bind_some, decide_eq_false (by omega), cond_false]
        exact .inr ⟨_, rfl, by omega, by omega, by omega, by omega, by omega⟩
theorem toBoolS (x : List Bool) (hn : x.length ≤ 1048576) : f_laws_toBoolS x = some x := by
  unfold f_laws_toBoolS
  rw [decide_eq_true (by omega), show Nat.ble ((x.length : Int).toNat) 140737488355328 = true from Nat.ble_eq_true_of_le (by omega)]
  simp only [Bool.and_self, cond_true]
  rw [to_gen (d := false) (F := f_laws_toBoolS.l0) (g := some) (fun n x i y => rfl) x hn (fun _ _ => rfl) x.length N _ 0 (by omega) (by omega) (by omega) (lt_N hn) (by simp) (by simp)]
  rfl
theorem toWaitS (x : List (Int × Bool)) (hn : x.length ≤ 1048576) : f_laws_toWaitS x = some x := by
  unfold f_laws_toWaitS
  rw [decide_eq_true (by omega), show Nat.ble ((x.length : Int).toNat) 8796093022208 = true from Nat.ble_eq_true_of_le (by omega)]
  simp only [Bool.and_self, cond_true]
  rw [to_gen (d := ((0 : Int), false)) (F := f_laws_toWaitS.l0) (g := fun e => (f_laws_toWait e.1 e.2).bind fun y => some (y.1, y.2)) (fun n x i y => rfl) x hn (fun _ _ => rfl) x.length N _ 0 (by omega) (by omega) (by omega) (lt_N hn) (by simp) (by simp)]
  rfl
theorem toHome_self (x0 : List Int) (x1 : Int) (x2 : List Bool) (x3 : Bool) (x4 : Int) (x5 : Bool) (x6 : Int) (x7 : List (Int × Bool)) (h : HomeS x0 x2 x7) : f_laws_toHome x0 x1 x2 x3 x4 x5 x6 x7 = some (x0, x1, x2, x3, x4, x5, x6, x7) := by
  unfold f_laws_toHome f_laws_toWait
  simp only [toIntS x0 h.g0, toBoolS x2 h.g2, toWaitS x7 h.g7, Option.bind_some]
theorem eqBoolS (x : List Bool) (hn : x.length ≤ 1048576) : f_laws_eqBoolS x x = some true := by
  unfold f_laws_eqBoolS
  simp only [decide_true, Bool.not_true, cond_false]
  rw [eq_gen (d := false) (F := f_laws_eqBoolS.l0) (q := fun a b => some (a == b)) (fun n x y b i => rfl) x hn (fun e _ => by simp) false x.length N 0 (by omega) (by omega) (by omega) (lt_N hn)]
  rfl
theorem eqWait_self (a : Int) (b : Bool) : f_laws_eqWait a b a b = some true := by
  unfold f_laws_eqWait
  simp
theorem eqWaitS (x : List (Int × Bool)) (hn : x.length ≤ 1048576) : f_laws_eqWaitS x x = some true := by
  unfold f_laws_eqWaitS
  simp only [decide_true, Bool.not_true, cond_false]
  rw [eq_gen (d := ((0 : Int), false)) (F := f_laws_eqWaitS.l0) (q := fun a b => f_laws_eqWait a.1 a.2 b.1 b.2) (fun n x y b i => rfl) x hn (fun e _ => eqWait_self _ _) false x.length N 0 (by omega) (by omega) (by omega) (lt_N hn)]
  rfl
theorem eqHome_self (x0 : List Int) (x1 : Int) (x2 : List Bool) (x3 : Bool) (x4 : Int) (x5 : Bool) (x6 : Int) (x7 : List (Int × Bool)) (g0 : x0.length ≤ 1048576) (g2 : x2.length ≤ 1048576) (g7 : x7.length ≤ 1048576) : f_laws_eqHome x0 x1 x2 x3 x4 x5 x6 x7 x0 x1 x2 x3 x4 x5 x6 x7 = some true := by
  unfold f_laws_eqHome
  simp only [eqIntS x0 g0, eqBoolS x2 g2, eqWaitS x7 g7, eqWait_self, decide_true, beq_self_eq_true, Bool.not_true, cond_false, Option.bind_some]
theorem all_loop {α β : Type} {d : α} {F : Nat → Int → Option (Bool ⊕ β)} {q : α → Bool} {b : β} (x : List α) (hx : x.length ≤ 1048576) (h0 : ∀ n i, ¬ i < (x.length : Int) → F (n + 1) i = some (.inr b))
    (h1 : ∀ n i, 0 ≤ i → i < (x.length : Int) → x.getD i.toNat d ∈ x → F (n + 1) i = bif q (x.getD i.toNat d) then F n (i + 1) else some (.inl false)) : F N 0 = some (bif x.all q then .inr b else .inl false) := by
  have step : ∀ (k n : Nat) (i : Int), 0 ≤ i → i ≤ x.length → (x.length : Int) - i = k → k < n → F n i = some (bif (x.drop i.toNat).all q then .inr b else .inl false) := by
    intro k
    induction k with
    | zero =>
      intro n i a0 a1 hd hn
      obtain ⟨n, rfl⟩ := succ_fuel hn
      rw [h0 n i (by omega), List.drop_eq_nil_of_le (by omega)]
      rfl
    | succ k ih =>
      intro n i a0 a1 hd hn
      obtain ⟨n, rfl⟩ := succ_fuel hn
      rw [h1 n i a0 (by omega) (mem_getD x d i a0 (by omega)), drop_getD x d i a0 (by omega), List.all_cons]
      cases q (x.getD i.toNat d) with
      | false => rfl
      | true => simp only [cond_true, Bool.true_and]; exact ih n (i + 1) (by omega) (by omega) (by omega) (by omega)
  have := step x.length N 0 (by omega) (by omega) (by omega) (Nat.lt_of_le_of_lt hx (Nat.lt_trans (by omega) big))
  simpa using this
theorem any_loop {α β γ : Type} {d : α} {F : Nat → Int → Option (β ⊕ γ)} {q : α → Bool} {g : Int → β} {e : γ} (x : List α) (hx : x.length ≤ 1048576) (h0 : ∀ n i, ¬ i < (x.length : Int) → F (n + 1) i = some (.inr e))
    (h1 : ∀ n i, 0 ≤ i → i < (x.length : Int) → x.getD i.toNat d ∈ x → F (n + 1) i = bif q (x.getD i.toNat d) then F n (i + 1) else some (.inl (g i))) : (x.all q = true ∧ F N 0 = some (.inr e)) ∨ (x.all q = false ∧ ∃ j : Int, 0 ≤ j ∧ j < x.length ∧ F N 0 = some (.inl (g j))) := by
  have step : ∀ (k n : Nat) (i : Int), 0 ≤ i → i ≤ x.length → (x.length : Int) - i = k → k < n → ((x.drop i.toNat).all q = true ∧ F n i = some (.inr e)) ∨ ((x.drop i.toNat).all q = false ∧ ∃ j : Int, 0 ≤ j ∧ j < x.length ∧ F n i = some (.inl (g j))) := by
    intro k
    induction k with
    | zero =>
      intro n i a0 a1 hd hn
      obtain ⟨n, rfl⟩ := succ_fuel hn
      rw [h0 n i (by omega), List.drop_eq_nil_of_le (by omega)]
      exact .inl ⟨rfl, rfl⟩
    | succ k ih =>
      intro n i a0 a1 hd hn
      obtain ⟨n, rfl⟩ := succ_fuel hn
      rw [h1 n i a0 (by omega) (mem_getD x d i a0 (by omega)), drop_getD x d i a0 (by omega), List.all_cons]
      cases q (x.getD i.toNat d) with
      | false => exact .inr ⟨rfl, i, a0, by omega, rfl⟩
      | true => simp only [cond_true, Bool.true_and]; exact ih n (i + 1) (by omega) (by omega) (by omega) (by omega)
  have := step x.length N 0 (by omega) (by omega) (by omega) (Nat.lt_of_le_of_lt hx (Nat.lt_trans (by omega) big))
  simpa using this
def rng2 (a x m : Int) : Bool := decide (a ≤ x) && decide (x ≤ m)
theorem in_rng2 (a x m : Int) : f_spec_l1In x a m = some (rng2 a x m) := by
  unfold f_spec_l1In rng2
  cases decide (a ≤ x) <;> rfl
theorem from_rng2 (a x m : Int) : f_impl_from x a m = some (rng2 a x m) := by
  unfold f_impl_from rng2
  cases decide (a ≤ x) <;> rfl
def homeOkB (x0 : List Int) (x1 : Int) (x2 : List Bool) (x4 x6 : Int) (x7 : List (Int × Bool)) (x8 : Int) : Bool :=
  rng2 1 x8 4 && (allW x0 && decide ((x0.length : Int) = 4)) && rng2 (-1) x1 (x8 - 1) && decide ((x2.length : Int) = x8) && rng2 0 x4 (x8 - 1) && rng2 0 x6 x8 && decide ((x7.length : Int) ≤ 12) && x7.all fun e => rng2 0 e.1 (x8 - 1)
theorem isOf_rng (x k : Int) (h0 : 1 ≤ k) (h1 : k ≤ 4) : f_impl_isOf x k = some (rng2 0 x (k - 1)) := by
  unfold f_impl_isOf
  have e : rng2 1 k 4 = true := by unfold rng2; rw [decide_eq_true h0, decide_eq_true h1]; rfl
  simp only [from_rng2, e, cond_true, w64 (show -9223372036854775808 ≤ k - 1 by omega) (by omega), Option.bind_some]
theorem specHomeOk (x0 : List Int) (x1 : Int) (x2 : List Bool) (x3 : Bool) (x4 : Int) (x5 : Bool) (x6 : Int) (x7 : List (Int × Bool)) (x8 : Int) (h : HomeS x0 x2 x7) : f_spec_HomeOk x0 x1 x2 x3 x4 x5 x6 x7 x8 = some (homeOkB x0 x1 x2 x4 x6 x7 x8) := by
  unfold f_spec_HomeOk homeOkB
  rw [in_rng2]
  cases hr : rng2 1 x8 4 with
  | false => rfl
  | true =>
    have hr' := hr
    unfold rng2 at hr'
    simp only [Bool.and_eq_true, decide_eq_true_eq] at hr'
    have hl := all_loop (d := ((0 : Int), false)) (F := fun n i => f_spec_HomeOk.l0 n x8 false i x0 x1 x2 x3 x4 x5 x6 x7) (q := fun e => rng2 0 e.1 (x8 - 1)) (b := false) x7 h.g7
      (fun n i hi => by simp only [f_spec_HomeOk.l0, decide_eq_false hi, cond_false])
      (fun n i h0 h1 _ => by
        have := h.g7
        simp only [f_spec_HomeOk.l0, decide_eq_true h1, decide_eq_true h0, cond_true, Bool.and_self, in_rng2, Option.bind_some, w64 (show -9223372036854775808 ≤ x8 - 1 by omega) (by omega), w64 (show -9223372036854775808 ≤ i + 1 by omega) (by omega)]
        cases rng2 0 ((x7.getD i.toNat (0, false)).1) (x8 - 1) <;> rfl)
    simp only [in_rng2, specWords x0 h.g0, Option.bind_some, w64 (show -9223372036854775808 ≤ x8 - 1 by omega) (by omega), hl]
    cases allW x0 && decide ((x0.length : Int) = 4) <;> cases rng2 (-1) x1 (x8 - 1) <;> cases decide ((x2.length : Int) = x8) <;> cases rng2 0 x4 (x8 - 1) <;> cases rng2 0 x6 x8 <;> try rfl
    by_cases h12 : (x7.length : Int) ≤ 12
    · rw [decide_eq_true h12, decide_eq_false (by omega)]
      cases x7.all fun e => rng2 0 e.1 (x8 - 1) <;> rfl
    · rw [decide_eq_false h12, decide_eq_true (by omega)]; rfl
theorem implHomeOk (x0 : List Int) (x1 : Int) (x2 : List Bool) (x3 : Bool) (x4 : Int) (x5 : Bool) (x6 : Int) (x7 : List (Int × Bool)) (x8 : Int) (h : HomeS x0 x2 x7) : f_impl_HomeOk x0 x1 x2 x3 x4 x5 x6 x7 x8 = some (homeOkB x0 x1 x2 x4 x6 x7 x8) := by
  unfold f_impl_HomeOk homeOkB
  rw [from_rng2]
  cases hr : rng2 1 x8 4 with
  | false => rfl
  | true =>
    have hr' := hr
    unfold rng2 at hr'
    simp only [Bool.and_eq_true, decide_eq_true_eq] at hr'
    have hl := any_loop (d := ((0 : Int), false)) (F := fun n i => f_impl_HomeOk.l0 n x7 0 (x7.length : Int) i x0 x1 x2 x3 x4 x5 x6 x7 x8) (q := fun e => rng2 0 e.1 (x8 - 1)) (g := fun i => (i, x0, x1, x2, x3, x4, x5, x6, x7, x8)) (e := (0, x0, x1, x2, x3, x4, x5, x6, x7, x8)) x7 h.g7
      (fun n i hi => by simp only [f_impl_HomeOk.l0, decide_eq_false hi, cond_false])
      (fun n i h0 h1 _ => by
        have := h.g7
        simp only [f_impl_HomeOk.l0, f_impl_HomeOk_1, decide_eq_true h1, decide_eq_true h0, cond_true, Bool.and_self, isOf_rng _ _ hr'.1 hr'.2, Option.bind_some, w64 (show -9223372036854775808 ≤ i + 1 by omega) (by omega)]
        cases rng2 0 ((x7.getD i.toNat (0, false)).1) (x8 - 1) <;> rfl)
    simp only [from_rng2, implWords x0 h.g0, Option.bind_some, isOf_rng _ _ hr'.1 hr'.2, w64 (show -9223372036854775808 ≤ x8 - 1 by omega) (by omega)]
    cases allW x0 && decide ((x0.length : Int) = 4) <;> cases rng2 (-1) x1 (x8 - 1) <;> cases decide ((x2.length : Int) = x8) <;> cases rng2 0 x4 (x8 - 1) <;> cases rng2 0 x6 x8 <;> try rfl
    cases decide ((x7.length : Int) ≤ 12) with
    | false => rfl
    | true =>
      rcases hl with ⟨e1, e2⟩ | ⟨e1, j, e3, _, e2⟩
      · simp only [e2, e1]; rfl
      · simp only [e2, e1, Option.bind_some]
        show some (!(decide ((0 : Int) ≤ j))) = some false
        rw [decide_eq_true e3]; rfl
theorem all2_loop {α α' β : Type} {d : α} {d' : α'} {F : Nat → Int → Option (Bool ⊕ β)} {q : α → Bool} {r : α' → Bool} {b : β} (x : List α) (y : List α') (hx : x.length ≤ 1048576) (hy : y.length = x.length) (h0 : ∀ n i, ¬ i < (x.length : Int) → F (n + 1) i = some (.inr b))
    (h1 : ∀ n i, 0 ≤ i → i < (x.length : Int) → x.getD i.toNat d ∈ x → y.getD i.toNat d' ∈ y → F (n + 1) i = bif q (x.getD i.toNat d) then (bif r (y.getD i.toNat d') then F n (i + 1) else some (.inl false)) else some (.inl false)) : F N 0 = some (bif x.all q && y.all r then .inr b else .inl false) := by
  have step : ∀ (k n : Nat) (i : Int), 0 ≤ i → i ≤ x.length → (x.length : Int) - i = k → k < n → F n i = some (bif (x.drop i.toNat).all q && (y.drop i.toNat).all r then .inr b else .inl false) := by
    intro k
    induction k with
    | zero =>
      intro n i a0 a1 hd hn
      obtain ⟨n, rfl⟩ := succ_fuel hn
      rw [h0 n i (by omega), List.drop_eq_nil_of_le (by omega), List.drop_eq_nil_of_le (by omega)]
      rfl
    | succ k ih =>
      intro n i a0 a1 hd hn
      obtain ⟨n, rfl⟩ := succ_fuel hn
      rw [h1 n i a0 (by omega) (mem_getD x d i a0 (by omega)) (mem_getD y d' i a0 (by omega)), drop_getD x d i a0 (by omega), drop_getD y d' i a0 (by omega), List.all_cons, List.all_cons]
      cases q (x.getD i.toNat d) with
      | false => rfl
      | true =>
        cases r (y.getD i.toNat d') with
        | false => simp
        | true => simp only [cond_true, Bool.true_and]; exact ih n (i + 1) (by omega) (by omega) (by omega) (by omega)
  have := step x.length N 0 (by omega) (by omega) (by omega) (Nat.lt_of_le_of_lt hx (Nat.lt_trans (by omega) big))
  simpa using this
abbrev FrameT := Int × List Int × Bool
def bigFrame (e : FrameT) : Prop := e.2.1.length ≤ 9223372036854775807
def okFrame (e : FrameT) : Prop := e.2.1.length ≤ 1048576
theorem szFrameS (x : List FrameT) (left : Int) (h0 : 0 ≤ left) (h1 : left ≤ 1048576) (hx : x.length ≤ 9223372036854775807) (he : ∀ e ∈ x, bigFrame e) :
    f_laws_szFrameS x left = some (-1) ∨ ∃ l, f_laws_szFrameS x left = some l ∧ 0 ≤ l ∧ l ≤ left ∧ x.length ≤ 1048576 ∧ ∀ e ∈ x, okFrame e := by
  unfold f_laws_szFrameS
  rw [w64 (by omega) (by omega)]
  by_cases h : left - (x.length : Int) < 0
  · rw [decide_eq_true h]; exact .inl rfl
  · rw [decide_eq_false h, cond_false]
    have hn : x.length ≤ 1048576 := by omega
    rcases sz_gen (F := f_laws_szFrameS.l0) (s := fun e l => f_laws_szFrame e.1 e.2.1 e.2.2 l) (Ok := okFrame) (d := (0, [], false)) (fun n x l q i => rfl) x hn (fun e hm l a0 a1 => by
        rcases szFrame e.1 e.2.1 e.2.2 l a0 a1 (he e hm) with h2 | ⟨h2, h3⟩
        · exact .inl h2
        · exact .inr ⟨_, h2, by omega, by omega, show e.2.1.length ≤ 1048576 by omega⟩) 0 x.length N (left - (x.length : Int)) 0 (by omega) (by omega) (by omega) (by omega) (by omega) (lt_N hn) with h2 | ⟨l, h2, b0, b1, b2⟩
    · rw [h2]; exact .inl rfl
    · rw [h2]
      exact .inr ⟨l, rfl, b0, by omega, hn, fun e hm => b2 e (by simpa using hm)⟩
theorem toFrameS (x : List FrameT) (hn : x.length ≤ 1048576) (he : ∀ e ∈ x, okFrame e) : f_laws_toFrameS x = some x := by
  unfold f_laws_toFrameS
  rw [decide_eq_true (by omega), show Nat.ble ((x.length : Int).toNat) 3518437208883 = true from Nat.ble_eq_true_of_le (by omega)]
  simp only [Bool.and_self, cond_true]
  rw [to_gen (F := f_laws_toFrameS.l0) (g := fun e => f_laws_toFrame e.1 e.2.1 e.2.2) (d := (0, [], false)) (fun n x i y => rfl) x hn (fun e hm => toFrame_self _ _ _ (he e hm)) x.length N _ 0 (by omega) (by omega) (by omega) (lt_N hn) (by simp) (by simp)]
  rfl
theorem eqFrameS (x : List FrameT) (hn : x.length ≤ 1048576) (he : ∀ e ∈ x, okFrame e) : f_laws_eqFrameS x x = some true := by
  unfold f_laws_eqFrameS
  simp only [decide_true, Bool.not_true, cond_false]
  rw [eq_gen (F := f_laws_eqFrameS.l0) (q := fun e f => f_laws_eqFrame e.1 e.2.1 e.2.2 f.1 f.2.1 f.2.2) (d := (0, [], false)) (fun n x y b i => rfl) x hn (fun e hm => eqFrame_self _ _ _ (he e hm)) false x.length N 0 (by omega) (by omega) (by omega) (lt_N hn)]
  rfl
abbrev HomeT := List Int × Int × List Bool × Bool × Int × Bool × Int × List (Int × Bool)
def bigHome (e : HomeT) : Prop := e.1.length ≤ 9223372036854775807 ∧ e.2.2.1.length ≤ 9223372036854775807 ∧ e.2.2.2.2.2.2.2.length ≤ 9223372036854775807
def okHome (e : HomeT) : Prop := HomeS e.1 e.2.2.1 e.2.2.2.2.2.2.2
theorem szHomeS' (x : List HomeT) (left : Int) (h0 : 0 ≤ left) (h1 : left ≤ 1048576) (hx : x.length ≤ 9223372036854775807) (he : ∀ e ∈ x, bigHome e) :
    f_laws_szHomeS x left = some (-1) ∨ ∃ l, f_laws_szHomeS x left = some l ∧ 0 ≤ l ∧ l ≤ left ∧ x.length ≤ 1048576 ∧ ∀ e ∈ x, okHome e := by
  unfold f_laws_szHomeS
  rw [w64 (by omega) (by omega)]
  by_cases h : left - (x.length : Int) < 0
  · rw [decide_eq_true h]; exact .inl rfl
  · rw [decide_eq_false h, cond_false]
    have hn : x.length ≤ 1048576 := by omega
    rcases sz_gen (F := f_laws_szHomeS.l0) (s := fun e l => f_laws_szHome e.1 e.2.1 e.2.2.1 e.2.2.2.1 e.2.2.2.2.1 e.2.2.2.2.2.1 e.2.2.2.2.2.2.1 e.2.2.2.2.2.2.2 l) (Ok := okHome) (d := ([], 0, [], false, 0, false, 0, [])) (fun n x l q i => rfl) x hn (fun e hm l a0 a1 => by
        rcases szHome e.1 e.2.1 e.2.2.1 e.2.2.2.1 e.2.2.2.2.1 e.2.2.2.2.2.1 e.2.2.2.2.2.2.1 e.2.2.2.2.2.2.2 l a0 a1 (he e hm).1 (he e hm).2.1 (he e hm).2.2 with h2 | ⟨l', h2, h3, h4, h5⟩
        · exact .inl h2
        · exact .inr ⟨l', h2, h3, h4, h5⟩) 0 x.length N (left - (x.length : Int)) 0 (by omega) (by omega) (by omega) (by omega) (by omega) (lt_N hn) with h2 | ⟨l, h2, b0, b1, b2⟩
    · rw [h2]; exact .inl rfl
    · rw [h2]
      exact .inr ⟨l, rfl, b0, by omega, hn, fun e hm => b2 e (by simpa using hm)⟩
theorem toHomeS' (x : List HomeT) (hn : x.length ≤ 1048576) (he : ∀ e ∈ x, okHome e) : f_laws_toHomeS x = some x := by
  unfold f_laws_toHomeS
  rw [decide_eq_true (by omega), show Nat.ble ((x.length : Int).toNat) 1256584717458 = true from Nat.ble_eq_true_of_le (by omega)]
  simp only [Bool.and_self, cond_true]
  rw [to_gen (F := f_laws_toHomeS.l0) (g := fun e => f_laws_toHome e.1 e.2.1 e.2.2.1 e.2.2.2.1 e.2.2.2.2.1 e.2.2.2.2.2.1 e.2.2.2.2.2.2.1 e.2.2.2.2.2.2.2) (d := ([], 0, [], false, 0, false, 0, [])) (fun n x i y => rfl) x hn (fun e hm => toHome_self _ _ _ _ _ _ _ _ (he e hm)) x.length N _ 0 (by omega) (by omega) (by omega) (lt_N hn) (by simp) (by simp)]
  rfl
theorem eqHomeS' (x : List HomeT) (hn : x.length ≤ 1048576) (he : ∀ e ∈ x, okHome e) : f_laws_eqHomeS x x = some true := by
  unfold f_laws_eqHomeS
  simp only [decide_true, Bool.not_true, cond_false]
  rw [eq_gen (F := f_laws_eqHomeS.l0) (q := fun e f => f_laws_eqHome e.1 e.2.1 e.2.2.1 e.2.2.2.1 e.2.2.2.2.1 e.2.2.2.2.2.1 e.2.2.2.2.2.2.1 e.2.2.2.2.2.2.2 f.1 f.2.1 f.2.2.1 f.2.2.2.1 f.2.2.2.2.1 f.2.2.2.2.2.1 f.2.2.2.2.2.2.1 f.2.2.2.2.2.2.2) (d := ([], 0, [], false, 0, false, 0, [])) (fun n x y b i => rfl) x hn (fun e hm => eqHome_self _ _ _ _ _ _ _ _ (he e hm).g0 (he e hm).g2 (he e hm).g7) false x.length N 0 (by omega) (by omega) (by omega) (lt_N hn)]
  rfl
abbrev SenderT := Int × List MsgL
def bigSender (e : SenderT) : Prop := e.2.length ≤ 9223372036854775807 ∧ ∀ f ∈ e.2, f.2.2.2.length ≤ 9223372036854775807
def okSender (e : SenderT) : Prop := e.2.length ≤ 1048576 ∧ ∀ f ∈ e.2, f.2.2.2.length ≤ 1048576
theorem szSenderS (x : List SenderT) (left : Int) (h0 : 0 ≤ left) (h1 : left ≤ 1048576) (hx : x.length ≤ 9223372036854775807) (he : ∀ e ∈ x, bigSender e) :
    f_laws_szSenderS x left = some (-1) ∨ ∃ l, f_laws_szSenderS x left = some l ∧ 0 ≤ l ∧ l ≤ left ∧ x.length ≤ 1048576 ∧ ∀ e ∈ x, okSender e := by
  unfold f_laws_szSenderS
  rw [w64 (by omega) (by omega)]
  by_cases h : left - (x.length : Int) < 0
  · rw [decide_eq_true h]; exact .inl rfl
  · rw [decide_eq_false h, cond_false]
    have hn : x.length ≤ 1048576 := by omega
    rcases sz_gen (F := f_laws_szSenderS.l0) (s := fun e l => f_laws_szSender e.1 e.2 l) (Ok := okSender) (d := (0, [])) (fun n x l q i => rfl) x hn (fun e hm l a0 a1 => by
        rcases szSender e.1 e.2 l a0 a1 (he e hm).1 (he e hm).2 with h2 | ⟨l', h2, h3, h4, h5⟩
        · exact .inl h2
        · exact .inr ⟨l', h2, h3, h4, h5⟩) 0 x.length N (left - (x.length : Int)) 0 (by omega) (by omega) (by omega) (by omega) (by omega) (lt_N hn) with h2 | ⟨l, h2, b0, b1, b2⟩
    · rw [h2]; exact .inl rfl
    · rw [h2]
      exact .inr ⟨l, rfl, b0, by omega, hn, fun e hm => b2 e (by simpa using hm)⟩
theorem toSenderS (x : List SenderT) (hn : x.length ≤ 1048576) (he : ∀ e ∈ x, okSender e) : f_laws_toSenderS x = some x := by
  unfold f_laws_toSenderS
  rw [decide_eq_true (by omega), show Nat.ble ((x.length : Int).toNat) 4398046511104 = true from Nat.ble_eq_true_of_le (by omega)]
  simp only [Bool.and_self, cond_true]
  rw [to_gen (F := f_laws_toSenderS.l0) (g := fun e => f_laws_toSender e.1 e.2) (d := (0, [])) (fun n x i y => rfl) x hn (fun e hm => toSender_self _ _ (he e hm).1 (he e hm).2) x.length N _ 0 (by omega) (by omega) (by omega) (lt_N hn) (by simp) (by simp)]
  rfl
theorem eqSenderS (x : List SenderT) (hn : x.length ≤ 1048576) (he : ∀ e ∈ x, okSender e) : f_laws_eqSenderS x x = some true := by
  unfold f_laws_eqSenderS
  simp only [decide_true, Bool.not_true, cond_false]
  rw [eq_gen (F := f_laws_eqSenderS.l0) (q := fun e f => f_laws_eqSender e.1 e.2 f.1 f.2) (d := (0, [])) (fun n x y b i => rfl) x hn (fun e hm => eqSender_self _ _ (he e hm).1 (he e hm).2) false x.length N 0 (by omega) (by omega) (by omega) (lt_N hn)]
  rfl
theorem szReceiverS (x : List Int) (left : Int) (h0 : 0 ≤ left) (h1 : left ≤ 1048576) (hx : x.length ≤ 9223372036854775807) : (f_laws_szReceiverS x left = some (-1)) ∨ (f_laws_szReceiverS x left = some (left - x.length) ∧ (x.length : Int) ≤ left) := by
  unfold f_laws_szReceiverS
  rw [w64 (by omega) (by omega)]
  by_cases h : left - (x.length : Int) < 0
  · rw [decide_eq_true h]; exact .inl rfl
  · rw [decide_eq_false h]; exact .inr ⟨rfl, by omega⟩
theorem toReceiverS (x : List Int) (hn : x.length ≤ 1048576) : f_laws_toReceiverS x = some x := by
  unfold f_laws_toReceiverS
  rw [decide_eq_true (by omega), show Nat.ble ((x.length : Int).toNat) 17592186044416 = true from Nat.ble_eq_true_of_le (by omega)]
  simp only [Bool.and_self, cond_true]
  rw [to_gen (d := (0 : Int)) (F := f_laws_toReceiverS.l0) (g := f_laws_toReceiver) (fun n x i y => rfl) x hn (fun _ _ => rfl) x.length N _ 0 (by omega) (by omega) (by omega) (lt_N hn) (by simp) (by simp)]
  rfl
theorem eqReceiverS (x : List Int) (hn : x.length ≤ 1048576) : f_laws_eqReceiverS x x = some true := by
  unfold f_laws_eqReceiverS
  simp only [decide_true, Bool.not_true, cond_false]
  rw [eq_gen (d := (0 : Int)) (F := f_laws_eqReceiverS.l0) (q := f_laws_eqReceiver) (fun n x y b i => rfl) x hn (fun e _ => by unfold f_laws_eqReceiver; simp) false x.length N 0 (by omega) (by omega) (by omega) (lt_N hn)]
  rfl
structure NodeB (x1 : List FrameT) (x2 : List HomeT) (x3 : List SenderT) (x4 : List Int) : Prop where
  l1 : x1.length ≤ 9223372036854775807
  l2 : x2.length ≤ 9223372036854775807
  l3 : x3.length ≤ 9223372036854775807
  l4 : x4.length ≤ 9223372036854775807
  e1 : ∀ e ∈ x1, bigFrame e
  e2 : ∀ e ∈ x2, bigHome e
  e3 : ∀ e ∈ x3, bigSender e
structure NodeK (x1 : List FrameT) (x2 : List HomeT) (x3 : List SenderT) (x4 : List Int) : Prop where
  l1 : x1.length ≤ 1048576
  l2 : x2.length ≤ 1048576
  l3 : x3.length ≤ 1048576
  l4 : x4.length ≤ 1048576
  e1 : ∀ e ∈ x1, okFrame e
  e2 : ∀ e ∈ x2, okHome e
  e3 : ∀ e ∈ x3, okSender e
theorem szNode (x0 : Int) (x1 : List FrameT) (x2 : List HomeT) (x3 : List SenderT) (x4 : List Int) (left : Int) (h0 : 0 ≤ left) (h1 : left ≤ 1048576) (h : NodeB x1 x2 x3 x4) : f_laws_szNode x0 x1 x2 x3 x4 left = some (-1) ∨ ∃ l, f_laws_szNode x0 x1 x2 x3 x4 left = some l ∧ 0 ≤ l ∧ l ≤ left ∧ NodeK x1 x2 x3 x4 := by
  unfold f_laws_szNode
  rcases szFrameS x1 left h0 h1 h.l1 h.e1 with e | ⟨a, e, a0, a1, k1, k1'⟩
  · rw [e]; exact .inl rfl
  rw [e, Option.bind_some, decide_eq_false (show ¬ a < 0 by omega), cond_false]
  rcases szHomeS' x2 a a0 (by omega) h.l2 h.e2 with e | ⟨b, e, b0, b1, k2, k2'⟩
  · rw [e]; exact .inl rfl
  rw [e, Option.bind_some, decide_eq_false (show ¬ b < 0 by omega), cond_false]
  rcases szSenderS x3 b b0 (by omega) h.l3 h.e3 with e | ⟨c, e, c0, c1, k3, k3'⟩
  · rw [e]; exact .inl rfl
  rw [e, Option.bind_some, decide_eq_false (show ¬ c < 0 by omega), cond_false]
  rcases szReceiverS x4 c c0 (by omega) h.l4 with e | ⟨e, k4⟩
  · rw [e]; exact .inl rfl
  rw [e, Option.bind_some, decide_eq_false (by omega), cond_false]
  exact .inr ⟨_, rfl, by omega, by omega, k1, k2, k3, by omega, k1', k2', k3'⟩
theorem toNode_self (x0 : Int) (x1 : List FrameT) (x2 : List HomeT) (x3 : List SenderT) (x4 : List Int) (h : NodeK x1 x2 x3 x4) : f_laws_toNode x0 x1 x2 x3 x4 = some (x0, x1, x2, x3, x4) := by
  unfold f_laws_toNode
  simp only [toFrameS x1 h.l1 h.e1, toHomeS' x2 h.l2 h.e2, toSenderS x3 h.l3 h.e3, toReceiverS x4 h.l4, Option.bind_some]
theorem eqNode_self (x0 : Int) (x1 : List FrameT) (x2 : List HomeT) (x3 : List SenderT) (x4 : List Int) (h : NodeK x1 x2 x3 x4) : f_laws_eqNode x0 x1 x2 x3 x4 x0 x1 x2 x3 x4 = some true := by
  unfold f_laws_eqNode
  simp only [decide_true, eqFrameS x1 h.l1 h.e1, eqHomeS' x2 h.l2 h.e2, eqSenderS x3 h.l3 h.e3, eqReceiverS x4 h.l4, Option.bind_some, Bool.not_true, cond_false]
theorem bigOf {x1 : List FrameT} {x2 : List HomeT} {x3 : List SenderT} {x4 : List Int} (l1 : x1.length ≤ 9223372036854775807) (l2 : x2.length ≤ 9223372036854775807) (l3 : x3.length ≤ 9223372036854775807) (l4 : x4.length ≤ 9223372036854775807)
    (e1 : ∀ i, i < x1.length → bigFrame (x1.getD i (0, [], false))) (e2 : ∀ i, i < x2.length → bigHome (x2.getD i ([], 0, [], false, 0, false, 0, []))) (e3 : ∀ i, i < x3.length → bigSender (x3.getD i (0, []))) : NodeB x1 x2 x3 x4 :=
  ⟨l1, l2, l3, l4, all_getD e1, all_getD e2, all_getD e3⟩
noncomputable def tF (e : FrameT) : Bool := (f_spec_FrameOk e.1 e.2.1 e.2.2).getD false
theorem tF_eq (e : FrameT) (h : okFrame e) : f_spec_FrameOk e.1 e.2.1 e.2.2 = some (tF e) ∧ f_impl_FrameOk e.1 e.2.1 e.2.2 = some (tF e) := by
  obtain ⟨b, h1, h2⟩ := same_frameOk e.1 e.2.1 e.2.2 h
  unfold tF
  rw [h1, h2]
  exact ⟨rfl, rfl⟩
noncomputable def tS (e : SenderT) : Bool := (f_spec_SenderOk e.1 e.2).getD false
theorem tS_eq (e : SenderT) (h : okSender e) : f_spec_SenderOk e.1 e.2 = some (tS e) ∧ f_impl_SenderOk e.1 e.2 = some (tS e) := by
  obtain ⟨b, h1, h2⟩ := same_senderOk e.1 e.2 h.1 h.2
  unfold tS
  rw [h1, h2]
  exact ⟨rfl, rfl⟩
def tH (k : Int) (e : HomeT) : Bool := homeOkB e.1 e.2.1 e.2.2.1 e.2.2.2.2.1 e.2.2.2.2.2.2.1 e.2.2.2.2.2.2.2 k
theorem tH_eq (k : Int) (e : HomeT) (h : okHome e) : f_spec_HomeOk e.1 e.2.1 e.2.2.1 e.2.2.2.1 e.2.2.2.2.1 e.2.2.2.2.2.1 e.2.2.2.2.2.2.1 e.2.2.2.2.2.2.2 k = some (tH k e) ∧ f_impl_HomeOk e.1 e.2.1 e.2.2.1 e.2.2.2.1 e.2.2.2.2.1 e.2.2.2.2.2.1 e.2.2.2.2.2.2.1 e.2.2.2.2.2.2.2 k = some (tH k e) :=
  ⟨specHomeOk _ _ _ _ _ _ _ _ _ h, implHomeOk _ _ _ _ _ _ _ _ _ h⟩
noncomputable def nodeOkB (x0 : Int) (x1 : List FrameT) (x2 : List HomeT) (x3 : List SenderT) (x4 : List Int) (k : Int) : Bool :=
  rng2 1 k 4 && (rng2 0 x0 (k - 1) && (decide ((x1.length : Int) = 6) && (decide ((x2.length : Int) = 6) && (decide ((x3.length : Int) = k) && (decide ((x4.length : Int) = k) && ((x1.all tF && x2.all (tH k)) && (x3.all tS && x4.all fun e => rng2 0 e 100000)))))))
theorem specNodeOk (x0 : Int) (x1 : List FrameT) (x2 : List HomeT) (x3 : List SenderT) (x4 : List Int) (k : Int) (h : NodeK x1 x2 x3 x4) : f_spec_NodeOk x0 x1 x2 x3 x4 k = some (nodeOkB x0 x1 x2 x3 x4 k) := by
  unfold f_spec_NodeOk nodeOkB
  rw [in_rng2]
  cases hr : rng2 1 k 4 with
  | false => rfl
  | true =>
    have hr' := hr
    unfold rng2 at hr'
    simp only [Bool.and_eq_true, decide_eq_true_eq] at hr'
    simp only [in_rng2, Option.bind_some, w64 (show -9223372036854775808 ≤ k - 1 by omega) (by omega)]
    cases rng2 0 x0 (k - 1) with
    | false => rfl
    | true =>
      by_cases h1 : (x1.length : Int) = 6
      · rw [decide_eq_true h1]
        by_cases h2 : (x2.length : Int) = 6
        · rw [decide_eq_true h2]
          by_cases h3 : (x3.length : Int) = k
          · rw [decide_eq_true h3]
            by_cases h4 : (x4.length : Int) = k
            · rw [decide_eq_true h4]
              have e0 := all2_loop (d := ((0 : Int), ([] : List Int), false)) (d' := (([] : List Int), (0 : Int), ([] : List Bool), false, (0 : Int), false, (0 : Int), ([] : List (Int × Bool)))) (F := fun n i => f_spec_NodeOk.l0 n k false i x0 x1 x2 x3 x4) (q := tF) (r := tH k) (b := (k, false, x0, x1, x2, x3, x4)) x1 x2 h.l1 (by omega)
                (fun n i hi => by simp only [f_spec_NodeOk.l0, decide_eq_false (show ¬ i < 6 by omega), cond_false])
                (fun n i a0 a1 m1 m2 => by
                  simp only [f_spec_NodeOk.l0, decide_eq_true (show i < 6 by omega), decide_eq_true a0, decide_eq_true a1, decide_eq_true (show i < (x2.length : Int) by omega), cond_true, Bool.and_self, (tF_eq _ (h.e1 _ m1)).1, (tH_eq k _ (h.e2 _ m2)).1, Option.bind_some, w64 (show -9223372036854775808 ≤ i + 1 by omega) (by omega)]
                  cases tF (x1.getD i.toNat (0, [], false)) <;> cases tH k (x2.getD i.toNat ([], 0, [], false, 0, false, 0, [])) <;> rfl)
              have e1 := all2_loop (d := ((0 : Int), ([] : List MsgL))) (d' := (0 : Int)) (F := fun n i => f_spec_NodeOk.l1 n k false i x0 x1 x2 x3 x4) (q := tS) (r := fun e => rng2 0 e 100000) (b := false) x3 x4 h.l3 (by omega)
                (fun n i hi => by simp only [f_spec_NodeOk.l1, decide_eq_false (show ¬ i < k by omega), cond_false])
                (fun n i a0 a1 m1 m2 => by
                  simp only [f_spec_NodeOk.l1, decide_eq_true (show i < k by omega), decide_eq_true a0, decide_eq_true a1, decide_eq_true (show i < (x4.length : Int) by omega), cond_true, Bool.and_self, (tS_eq _ (h.e3 _ m1)).1, in_rng2, Option.bind_some, w64 (show -9223372036854775808 ≤ i + 1 by omega) (by omega)]
                  cases tS (x3.getD i.toNat (0, [])) <;> cases rng2 0 (x4.getD i.toNat 0) 100000 <;> rfl)
              simp only [Bool.not_true, cond_false, e0, Option.bind_some, Bool.true_and]
              cases x1.all tF && x2.all (tH k) with
              | false => rfl
              | true =>
                simp only [cond_true, cs, e1, Option.bind_some, Bool.true_and]
                cases x3.all tS && x4.all fun e => rng2 0 e 100000 <;> rfl
            · rw [decide_eq_false h4]; rfl
          · rw [decide_eq_false h3]; rfl
        · rw [decide_eq_false h2]; rfl
      · rw [decide_eq_false h1]; rfl
theorem implNodeOk (x0 : Int) (x1 : List FrameT) (x2 : List HomeT) (x3 : List SenderT) (x4 : List Int) (k : Int) (h : NodeK x1 x2 x3 x4) : f_impl_NodeOk x0 x1 x2 x3 x4 k = some (nodeOkB x0 x1 x2 x3 x4 k) := by
  unfold f_impl_NodeOk nodeOkB f_impl_isOf
  rw [from_rng2]
  cases hr : rng2 1 k 4 with
  | false => rfl
  | true =>
    have hr' := hr
    unfold rng2 at hr'
    simp only [Bool.and_eq_true, decide_eq_true_eq] at hr'
    simp only [from_rng2, cond_true, Option.bind_some, w64 (show -9223372036854775808 ≤ k - 1 by omega) (by omega), Bool.true_and]
    have f0 := any_loop (d := ((0 : Int), ([] : List Int), false)) (F := fun n i => f_impl_NodeOk.l0 n x1 0 (x1.length : Int) i x0 x1 x2 x3 x4 k) (q := tF) (g := fun i => (i, x0, x1, x2, x3, x4, k)) (e := (0, x0, x1, x2, x3, x4, k)) x1 h.l1
      (fun n i hi => by simp only [f_impl_NodeOk.l0, decide_eq_false hi, cond_false])
      (fun n i a0 a1 m => by
        have := h.l1
        simp only [f_impl_NodeOk.l0, f_impl_NodeOk_1, decide_eq_true a1, decide_eq_true a0, cond_true, Bool.and_self, (tF_eq _ (h.e1 _ m)).2, Option.bind_some, w64 (show -9223372036854775808 ≤ i + 1 by omega) (by omega)]
        cases tF (x1.getD i.toNat (0, [], false)) <;> rfl)
    have f7 := any_loop (d := (([] : List Int), (0 : Int), ([] : List Bool), false, (0 : Int), false, (0 : Int), ([] : List (Int × Bool)))) (F := fun n i => f_impl_NodeOk.l7 n x2 0 (x2.length : Int) i x0 x1 x2 x3 x4 k) (q := tH k) (g := fun i => (i, x0, x1, x2, x3, x4, k)) (e := (0, x0, x1, x2, x3, x4, k)) x2 h.l2
      (fun n i hi => by simp only [f_impl_NodeOk.l7, decide_eq_false hi, cond_false])
      (fun n i a0 a1 m => by
        have := h.l2
        simp only [f_impl_NodeOk.l7, f_impl_NodeOk_2, decide_eq_true a1, decide_eq_true a0, cond_true, Bool.and_self, (tH_eq k _ (h.e2 _ m)).2, Option.bind_some, w64 (show -9223372036854775808 ≤ i + 1 by omega) (by omega)]
        cases tH k (x2.getD i.toNat ([], 0, [], false, 0, false, 0, [])) <;> rfl)
    have f8 := any_loop (d := ((0 : Int), ([] : List MsgL))) (F := fun n i => f_impl_NodeOk.l8 n x3 0 (x3.length : Int) i x0 x1 x2 x3 x4 k) (q := tS) (g := fun i => (i, x0, x1, x2, x3, x4, k)) (e := (0, x0, x1, x2, x3, x4, k)) x3 h.l3
      (fun n i hi => by simp only [f_impl_NodeOk.l8, decide_eq_false hi, cond_false])
      (fun n i a0 a1 m => by
        have := h.l3
        simp only [f_impl_NodeOk.l8, f_impl_NodeOk_3, decide_eq_true a1, decide_eq_true a0, cond_true, Bool.and_self, (tS_eq _ (h.e3 _ m)).2, Option.bind_some, w64 (show -9223372036854775808 ≤ i + 1 by omega) (by omega)]
        cases tS (x3.getD i.toNat (0, [])) <;> rfl)
    have f9 := any_loop (d := (0 : Int)) (F := fun n i => f_impl_NodeOk.l9 n x4 0 (x4.length : Int) i x0 x1 x2 x3 x4 k) (q := fun e => rng2 0 e 100000) (g := fun i => (i, x0, x1, x2, x3, x4, k)) (e := (0, x0, x1, x2, x3, x4, k)) x4 h.l4
      (fun n i hi => by simp only [f_impl_NodeOk.l9, decide_eq_false hi, cond_false])
      (fun n i a0 a1 m => by
        have := h.l4
        simp only [f_impl_NodeOk.l9, f_impl_NodeOk_4, f_impl_isSeq, decide_eq_true a1, decide_eq_true a0, cond_true, Bool.and_self, from_rng2, Option.bind_some, w64 (show -9223372036854775808 ≤ i + 1 by omega) (by omega)]
        cases rng2 0 (x4.getD i.toNat 0) 100000 <;> rfl)
    cases rng2 0 x0 (k - 1) <;> cases decide ((x1.length : Int) = 6) <;> cases decide ((x2.length : Int) = 6) <;> cases decide ((x3.length : Int) = k) <;> cases decide ((x4.length : Int) = k) <;> try rfl
    rcases f0 with ⟨q0, e0⟩ | ⟨q0, j, j0, -, e0⟩
    · rcases f7 with ⟨q7, e7⟩ | ⟨q7, j, j0, -, e7⟩
      · rcases f8 with ⟨q8, e8⟩ | ⟨q8, j, j0, -, e8⟩
        · rcases f9 with ⟨q9, e9⟩ | ⟨q9, j, j0, -, e9⟩
          · simp only [cond_true, e0, e7, e8, e9, q0, q7, q8, q9, Option.bind_some, cs, Bool.and_self]
          · simp only [cond_true, e0, e7, e8, e9, q0, q7, q8, q9, Option.bind_some, cs, Bool.and_self, Bool.and_false, decide_eq_true j0, Bool.not_true]
        · simp only [cond_true, e0, e7, e8, q0, q7, q8, Option.bind_some, cs, Bool.and_self, Bool.and_false, Bool.false_and, decide_eq_true j0, Bool.not_true, cond_false]
      · simp only [cond_true, e0, e7, q0, q7, Option.bind_some, cs, Bool.and_false, Bool.false_and, decide_eq_true j0, Bool.not_true, cond_false]
    · simp only [cond_true, e0, q0, Option.bind_some, cs, Bool.and_false, Bool.false_and, decide_eq_true j0, Bool.not_true, cond_false]
theorem same_packetOk (x0 x1 : Int) (x2 : Bool) (x3 x4 x5 : Int) (x6 : Bool) (x7 : List Int) (x8 : Int) (hn : x7.length ≤ 1048576) : ∃ b, f_spec_PacketOk x0 x1 x2 x3 x4 x5 x6 x7 x8 = some b ∧ f_impl_PacketOk x0 x1 x2 x3 x4 x5 x6 x7 x8 = some b := by
  obtain ⟨b, h1, h2⟩ := same_msgOk x4 x5 x6 x7 hn
  unfold f_spec_PacketOk f_impl_PacketOk f_impl_isOf f_impl_isSeq
  simp only [in_rg, from_rg, Option.bind_some, h1, h2]
  cases rg x8 1 4 with
  | false => exact ⟨_, rfl, rfl⟩
  | true =>
    cases rg x0 0 (IntKind.wrap .i64 (x8 - 1)) with
    | false => exact ⟨_, rfl, rfl⟩
    | true =>
      cases rg x1 0 (IntKind.wrap .i64 (x8 - 1)) with
      | false => exact ⟨_, rfl, rfl⟩
      | true =>
        cases rg x3 0 100000 with
        | false => exact ⟨_, rfl, rfl⟩
        | true => cases x2 <;> cases decide (x4 = 0) <;> cases decide (x5 = 0) <;> cases x6 <;> exact ⟨_, rfl, rfl⟩
theorem eqPacket_self (x0 x1 : Int) (x2 : Bool) (x3 x4 x5 : Int) (x6 : Bool) (x7 : List Int) (hn : x7.length ≤ 1048576) : f_laws_eqPacket x0 x1 x2 x3 x4 x5 x6 x7 x0 x1 x2 x3 x4 x5 x6 x7 = some true := by
  unfold f_laws_eqPacket
  simp only [decide_true, Bool.not_true, cond_false, beq_self_eq_true, eqMsg_self _ _ _ _ hn, Option.bind_some]
theorem toPacket_self (x0 x1 : Int) (x2 : Bool) (x3 x4 x5 : Int) (x6 : Bool) (x7 : List Int) (hn : x7.length ≤ 1048576) : f_laws_toPacket x0 x1 x2 x3 x4 x5 x6 x7 = some (x0, x1, x2, x3, x4, x5, x6, x7) := by
  unfold f_laws_toPacket
  simp only [toMsg_self _ _ _ _ hn, Option.bind_some]
theorem szPacket (x0 x1 : Int) (x2 : Bool) (x3 x4 x5 : Int) (x6 : Bool) (x7 : List Int) (left : Int) (h0 : 0 ≤ left) (h1 : left ≤ 1048576) (hx : x7.length ≤ 9223372036854775807) :
    (f_laws_szPacket x0 x1 x2 x3 x4 x5 x6 x7 left = some (-1)) ∨ (f_laws_szPacket x0 x1 x2 x3 x4 x5 x6 x7 left = some (left - x7.length) ∧ (x7.length : Int) ≤ left) := by
  unfold f_laws_szPacket
  rcases szMsg x4 x5 x6 x7 left h0 h1 hx with h | ⟨h, hl⟩
  · simp only [h, Option.bind_some]; exact .inl rfl
  · simp only [h, Option.bind_some]
    rw [decide_eq_false (by omega)]
    exact .inr ⟨rfl, hl⟩
abbrev NodeT := Int × List FrameT × List HomeT × List SenderT × List Int
def bigNode (e : NodeT) : Prop := NodeB e.2.1 e.2.2.1 e.2.2.2.1 e.2.2.2.2
def okNode (e : NodeT) : Prop := NodeK e.2.1 e.2.2.1 e.2.2.2.1 e.2.2.2.2
theorem szNodeS (x : List NodeT) (left : Int) (h0 : 0 ≤ left) (h1 : left ≤ 1048576) (hx : x.length ≤ 9223372036854775807) (he : ∀ e ∈ x, bigNode e) :
    f_laws_szNodeS x left = some (-1) ∨ ∃ l, f_laws_szNodeS x left = some l ∧ 0 ≤ l ∧ l ≤ left ∧ x.length ≤ 1048576 ∧ ∀ e ∈ x, okNode e := by
  unfold f_laws_szNodeS
  rw [w64 (by omega) (by omega)]
  by_cases h : left - (x.length : Int) < 0
  · rw [decide_eq_true h]; exact .inl rfl
  · rw [decide_eq_false h, cond_false]
    have hn : x.length ≤ 1048576 := by omega
    rcases sz_gen (F := f_laws_szNodeS.l0) (s := fun e l => f_laws_szNode e.1 e.2.1 e.2.2.1 e.2.2.2.1 e.2.2.2.2 l) (Ok := okNode) (d := (0, [], [], [], [])) (fun n x l q i => rfl) x hn (fun e hm l a0 a1 => by
        rcases szNode e.1 e.2.1 e.2.2.1 e.2.2.2.1 e.2.2.2.2 l a0 a1 (he e hm) with h2 | ⟨l', h2, h3, h4, h5⟩
        · exact .inl h2
        · exact .inr ⟨l', h2, h3, h4, h5⟩) 0 x.length N (left - (x.length : Int)) 0 (by omega) (by omega) (by omega) (by omega) (by omega) (lt_N hn) with h2 | ⟨l, h2, b0, b1, b2⟩
    · rw [h2]; exact .inl rfl
    · rw [h2]
      exact .inr ⟨l, rfl, b0, by omega, hn, fun e hm => b2 e (by simpa using hm)⟩
theorem toNodeS (x : List NodeT) (hn : x.length ≤ 1048576) (he : ∀ e ∈ x, okNode e) : f_laws_toNodeS x = some x := by
  unfold f_laws_toNodeS
  rw [decide_eq_true (by omega), show Nat.ble ((x.length : Int).toNat) 1353245080339 = true from Nat.ble_eq_true_of_le (by omega)]
  simp only [Bool.and_self, cond_true]
  rw [to_gen (F := f_laws_toNodeS.l0) (g := fun e => f_laws_toNode e.1 e.2.1 e.2.2.1 e.2.2.2.1 e.2.2.2.2) (d := (0, [], [], [], [])) (fun n x i y => rfl) x hn (fun e hm => toNode_self _ _ _ _ _ (he e hm)) x.length N _ 0 (by omega) (by omega) (by omega) (lt_N hn) (by simp) (by simp)]
  rfl
theorem eqNodeS (x : List NodeT) (hn : x.length ≤ 1048576) (he : ∀ e ∈ x, okNode e) : f_laws_eqNodeS x x = some true := by
  unfold f_laws_eqNodeS
  simp only [decide_true, Bool.not_true, cond_false]
  rw [eq_gen (F := f_laws_eqNodeS.l0) (q := fun e f => f_laws_eqNode e.1 e.2.1 e.2.2.1 e.2.2.2.1 e.2.2.2.2 f.1 f.2.1 f.2.2.1 f.2.2.2.1 f.2.2.2.2) (d := (0, [], [], [], [])) (fun n x y b i => rfl) x hn (fun e hm => eqNode_self _ _ _ _ _ (he e hm)) false x.length N 0 (by omega) (by omega) (by omega) (lt_N hn)]
  rfl
abbrev PacketT := Int × Int × Bool × Int × Int × Int × Bool × List Int
def bigPacket (e : PacketT) : Prop := e.2.2.2.2.2.2.2.length ≤ 9223372036854775807
def okPacket (e : PacketT) : Prop := e.2.2.2.2.2.2.2.length ≤ 1048576
theorem szPacketS (x : List PacketT) (left : Int) (h0 : 0 ≤ left) (h1 : left ≤ 1048576) (hx : x.length ≤ 9223372036854775807) (he : ∀ e ∈ x, bigPacket e) :
    f_laws_szPacketS x left = some (-1) ∨ ∃ l, f_laws_szPacketS x left = some l ∧ 0 ≤ l ∧ l ≤ left ∧ x.length ≤ 1048576 ∧ ∀ e ∈ x, okPacket e := by
  unfold f_laws_szPacketS
  rw [w64 (by omega) (by omega)]
  by_cases h : left - (x.length : Int) < 0
  · rw [decide_eq_true h]; exact .inl rfl
  · rw [decide_eq_false h, cond_false]
    have hn : x.length ≤ 1048576 := by omega
    rcases sz_gen (F := f_laws_szPacketS.l0) (s := fun e l => f_laws_szPacket e.1 e.2.1 e.2.2.1 e.2.2.2.1 e.2.2.2.2.1 e.2.2.2.2.2.1 e.2.2.2.2.2.2.1 e.2.2.2.2.2.2.2 l) (Ok := okPacket) (d := (0, 0, false, 0, 0, 0, false, [])) (fun n x l q i => rfl) x hn (fun e hm l a0 a1 => by
        rcases szPacket e.1 e.2.1 e.2.2.1 e.2.2.2.1 e.2.2.2.2.1 e.2.2.2.2.2.1 e.2.2.2.2.2.2.1 e.2.2.2.2.2.2.2 l a0 a1 (he e hm) with h2 | ⟨h2, h3⟩
        · exact .inl h2
        · exact .inr ⟨_, h2, by omega, by omega, show e.2.2.2.2.2.2.2.length ≤ 1048576 by omega⟩) 0 x.length N (left - (x.length : Int)) 0 (by omega) (by omega) (by omega) (by omega) (by omega) (lt_N hn) with h2 | ⟨l, h2, b0, b1, b2⟩
    · rw [h2]; exact .inl rfl
    · rw [h2]
      exact .inr ⟨l, rfl, b0, by omega, hn, fun e hm => b2 e (by simpa using hm)⟩
theorem toPacketS (x : List PacketT) (hn : x.length ≤ 1048576) (he : ∀ e ∈ x, okPacket e) : f_laws_toPacketS x = some x := by
  unfold f_laws_toPacketS
  rw [decide_eq_true (by omega), show Nat.ble ((x.length : Int).toNat) 1759218604441 = true from Nat.ble_eq_true_of_le (by omega)]
  simp only [Bool.and_self, cond_true]
  rw [to_gen (F := f_laws_toPacketS.l0) (g := fun e => f_laws_toPacket e.1 e.2.1 e.2.2.1 e.2.2.2.1 e.2.2.2.2.1 e.2.2.2.2.2.1 e.2.2.2.2.2.2.1 e.2.2.2.2.2.2.2) (d := (0, 0, false, 0, 0, 0, false, [])) (fun n x i y => rfl) x hn (fun e hm => toPacket_self _ _ _ _ _ _ _ _ (he e hm)) x.length N _ 0 (by omega) (by omega) (by omega) (lt_N hn) (by simp) (by simp)]
  rfl
theorem eqPacketS (x : List PacketT) (hn : x.length ≤ 1048576) (he : ∀ e ∈ x, okPacket e) : f_laws_eqPacketS x x = some true := by
  unfold f_laws_eqPacketS
  simp only [decide_true, Bool.not_true, cond_false]
  rw [eq_gen (F := f_laws_eqPacketS.l0) (q := fun e f => f_laws_eqPacket e.1 e.2.1 e.2.2.1 e.2.2.2.1 e.2.2.2.2.1 e.2.2.2.2.2.1 e.2.2.2.2.2.2.1 e.2.2.2.2.2.2.2 f.1 f.2.1 f.2.2.1 f.2.2.2.1 f.2.2.2.2.1 f.2.2.2.2.2.1 f.2.2.2.2.2.2.1 f.2.2.2.2.2.2.2) (d := (0, 0, false, 0, 0, 0, false, [])) (fun n x y b i => rfl) x hn (fun e hm => eqPacket_self _ _ _ _ _ _ _ _ (he e hm)) false x.length N 0 (by omega) (by omega) (by omega) (lt_N hn)]
  rfl
def allF {α : Type} (q : Int → α → Bool) : Int → List α → Bool
  | _, [] => true
  | i, a :: x => q i a && allF q (i + 1) x
theorem alli_loop {α β : Type} {d : α} {F : Nat → Int → Option (Bool ⊕ β)} {q : Int → α → Bool} {b : β} (x : List α) (hx : x.length ≤ 1048576) (h0 : ∀ n i, ¬ i < (x.length : Int) → F (n + 1) i = some (.inr b))
    (h1 : ∀ n i, 0 ≤ i → i < (x.length : Int) → x.getD i.toNat d ∈ x → F (n + 1) i = bif q i (x.getD i.toNat d) then F n (i + 1) else some (.inl false)) : F N 0 = some (bif allF q 0 x then .inr b else .inl false) := by
  have step : ∀ (k n : Nat) (i : Int), 0 ≤ i → i ≤ x.length → (x.length : Int) - i = k → k < n → F n i = some (bif allF q i (x.drop i.toNat) then .inr b else .inl false) := by
    intro k
    induction k with
    | zero =>
      intro n i a0 a1 hd hn
      obtain ⟨n, rfl⟩ := succ_fuel hn
      rw [h0 n i (by omega), List.drop_eq_nil_of_le (by omega)]
      rfl
    | succ k ih =>
      intro n i a0 a1 hd hn
      obtain ⟨n, rfl⟩ := succ_fuel hn
      rw [h1 n i a0 (by omega) (mem_getD x d i a0 (by omega)), drop_getD x d i a0 (by omega)]
      unfold allF
      cases q i (x.getD i.toNat d) with
      | false => rfl
      | true => simp only [cond_true, Bool.true_and]; exact ih n (i + 1) (by omega) (by omega) (by omega) (by omega)
  have := step x.length N 0 (by omega) (by omega) (by omega) (Nat.lt_of_le_of_lt hx (Nat.lt_trans (by omega) big))
  simpa using this
structure WorldB (x1 : List NodeT) (x2 : List PacketT) : Prop where
  l1 : x1.length ≤ 9223372036854775807
  l2 : x2.length ≤ 9223372036854775807
  e1 : ∀ e ∈ x1, bigNode e
  e2 : ∀ e ∈ x2, bigPacket e
structure WorldK (x1 : List NodeT) (x2 : List PacketT) : Prop where
  l1 : x1.length ≤ 1048576
  l2 : x2.length ≤ 1048576
  e1 : ∀ e ∈ x1, okNode e
  e2 : ∀ e ∈ x2, okPacket e
theorem szWorld (x0 : Int) (x1 : List NodeT) (x2 : List PacketT) (left : Int) (h0 : 0 ≤ left) (h1 : left ≤ 1048576) (h : WorldB x1 x2) : f_laws_szWorld x0 x1 x2 left = some (-1) ∨ ∃ l, f_laws_szWorld x0 x1 x2 left = some l ∧ 0 ≤ l ∧ l ≤ left ∧ WorldK x1 x2 := by
  unfold f_laws_szWorld
  rcases szNodeS x1 left h0 h1 h.l1 h.e1 with e | ⟨a, e, a0, a1, k1, k1'⟩
  · rw [e]; exact .inl rfl
  rw [e, Option.bind_some, decide_eq_false (show ¬ a < 0 by omega), cond_false]
  rcases szPacketS x2 a a0 (by omega) h.l2 h.e2 with e | ⟨b, e, b0, b1, k2, k2'⟩
  · rw [e]; exact .inl rfl
  rw [e, Option.bind_some, decide_eq_false (show ¬ b < 0 by omega), cond_false]
  exact .inr ⟨_, rfl, by omega, by omega, k1, k2, k1', k2'⟩
theorem toWorld_self (x0 : Int) (x1 : List NodeT) (x2 : List PacketT) (h : WorldK x1 x2) : f_laws_toWorld x0 x1 x2 = some (x0, x1, x2) := by
  unfold f_laws_toWorld
  simp only [toNodeS x1 h.l1 h.e1, toPacketS x2 h.l2 h.e2, Option.bind_some]
theorem eqWorld_self (x0 : Int) (x1 : List NodeT) (x2 : List PacketT) (h : WorldK x1 x2) : f_laws_eqWorld x0 x1 x2 x0 x1 x2 = some true := by
  unfold f_laws_eqWorld
  simp only [decide_true, eqNodeS x1 h.l1 h.e1, eqPacketS x2 h.l2 h.e2, Option.bind_some, Bool.not_true, cond_false]
noncomputable def tP (k : Int) (e : PacketT) : Bool := (f_spec_PacketOk e.1 e.2.1 e.2.2.1 e.2.2.2.1 e.2.2.2.2.1 e.2.2.2.2.2.1 e.2.2.2.2.2.2.1 e.2.2.2.2.2.2.2 k).getD false
theorem tP_eq (k : Int) (e : PacketT) (h : okPacket e) : f_spec_PacketOk e.1 e.2.1 e.2.2.1 e.2.2.2.1 e.2.2.2.2.1 e.2.2.2.2.2.1 e.2.2.2.2.2.2.1 e.2.2.2.2.2.2.2 k = some (tP k e) ∧ f_impl_PacketOk e.1 e.2.1 e.2.2.1 e.2.2.2.1 e.2.2.2.2.1 e.2.2.2.2.2.1 e.2.2.2.2.2.2.1 e.2.2.2.2.2.2.2 k = some (tP k e) := by
  obtain ⟨b, h1, h2⟩ := same_packetOk e.1 e.2.1 e.2.2.1 e.2.2.2.1 e.2.2.2.2.1 e.2.2.2.2.2.1 e.2.2.2.2.2.2.1 e.2.2.2.2.2.2.2 k h
  unfold tP
  rw [h1, h2]
  exact ⟨rfl, rfl⟩
noncomputable def tN (k i : Int) (e : NodeT) : Bool := nodeOkB e.1 e.2.1 e.2.2.1 e.2.2.2.1 e.2.2.2.2 k && decide (e.1 = i)
noncomputable def worldOkB (x0 : Int) (x1 : List NodeT) (x2 : List PacketT) : Bool := rng2 1 x0 4 && (decide ((x1.length : Int) = x0) && (!(decide ((40 : Int) < (x2.length : Int))) && (allF (tN x0) 0 x1 && x2.all (tP x0))))
theorem specWorldOk (x0 : Int) (x1 : List NodeT) (x2 : List PacketT) (h : WorldK x1 x2) : f_spec_WorldOk x0 x1 x2 = some (worldOkB x0 x1 x2) := by
  unfold f_spec_WorldOk worldOkB
  rw [in_rng2]
  cases hr : rng2 1 x0 4 with
  | false => rfl
  | true =>
    simp only [Option.bind_some, Bool.not_true, cond_false, Bool.true_and]
    by_cases h1 : (x1.length : Int) = x0
    · rw [decide_eq_true h1]
      cases decide ((40 : Int) < (x2.length : Int)) with
      | true => rfl
      | false =>
        have e0 := alli_loop (d := ((0 : Int), ([] : List FrameT), ([] : List HomeT), ([] : List SenderT), ([] : List Int))) (F := fun n i => f_spec_WorldOk.l0 n false i x0 x1 x2) (q := tN x0) (b := (false, x0, x1, x2)) x1 h.l1
          (fun n i hi => by simp only [f_spec_WorldOk.l0, decide_eq_false (show ¬ i < x0 by omega), cond_false])
          (fun n i a0 a1 m => by
            have := h.l1
            simp only [f_spec_WorldOk.l0, decide_eq_true (show i < x0 by omega), decide_eq_true a0, decide_eq_true a1, cond_true, Bool.and_self, specNodeOk _ _ _ _ _ _ (h.e1 _ m), Option.bind_some, w64 (show -9223372036854775808 ≤ i + 1 by omega) (by omega)]
            unfold tN
            cases nodeOkB (x1.getD i.toNat (0, [], [], [], [])).1 (x1.getD i.toNat (0, [], [], [], [])).2.1 (x1.getD i.toNat (0, [], [], [], [])).2.2.1 (x1.getD i.toNat (0, [], [], [], [])).2.2.2.1 (x1.getD i.toNat (0, [], [], [], [])).2.2.2.2 x0 <;> cases decide ((x1.getD i.toNat (0, [], [], [], [])).1 = i) <;> rfl)
        have e1 := all_loop (d := ((0 : Int), (0 : Int), false, (0 : Int), (0 : Int), (0 : Int), false, ([] : List Int))) (F := fun n i => f_spec_WorldOk.l1 n false i x0 x1 x2) (q := tP x0) (b := false) x2 h.l2
          (fun n i hi => by simp only [f_spec_WorldOk.l1, decide_eq_false hi, cond_false])
          (fun n i a0 a1 m => by
            have := h.l2
            simp only [f_spec_WorldOk.l1, decide_eq_true a0, decide_eq_true a1, cond_true, Bool.and_self, (tP_eq x0 _ (h.e2 _ m)).1, Option.bind_some, w64 (show -9223372036854775808 ≤ i + 1 by omega) (by omega)]
            cases tP x0 (x2.getD i.toNat (0, 0, false, 0, 0, 0, false, [])) <;> rfl)
        simp only [Bool.not_true, cond_false, e0, Option.bind_some]
        cases allF (tN x0) 0 x1 with
        | false => rfl
        | true =>
          simp only [cond_true, cs, e1, Option.bind_some]
          cases x2.all (tP x0) <;> rfl
    · rw [decide_eq_false h1]; rfl
theorem implWorldOk (x0 : Int) (x1 : List NodeT) (x2 : List PacketT) (h : WorldK x1 x2) : f_impl_WorldOk x0 x1 x2 = some (worldOkB x0 x1 x2) := by
  unfold f_impl_WorldOk worldOkB
  rw [from_rng2]
  cases hr : rng2 1 x0 4 with
  | false => rfl
  | true =>
    simp only [Option.bind_some, Bool.not_true, cond_false, Bool.true_and]
    by_cases h1 : (x1.length : Int) = x0
    · rw [decide_eq_true h1]
      cases decide ((40 : Int) < (x2.length : Int)) with
      | true => rfl
      | false =>
        have e0 := alli_loop (d := ((0 : Int), ([] : List FrameT), ([] : List HomeT), ([] : List SenderT), ([] : List Int))) (F := fun n i => f_impl_WorldOk.l0 n false x1 (x1.length : Int) i x0 x1 x2) (q := tN x0) (b := (false, x0, x1, x2)) x1 h.l1
          (fun n i hi => by simp only [f_impl_WorldOk.l0, decide_eq_false hi, cond_false])
          (fun n i a0 a1 m => by
            have := h.l1
            simp only [f_impl_WorldOk.l0, decide_eq_true a0, decide_eq_true a1, cond_true, Bool.and_self, implNodeOk _ _ _ _ _ _ (h.e1 _ m), Option.bind_some, w64 (show -9223372036854775808 ≤ i + 1 by omega) (by omega)]
            unfold tN
            cases nodeOkB (x1.getD i.toNat (0, [], [], [], [])).1 (x1.getD i.toNat (0, [], [], [], [])).2.1 (x1.getD i.toNat (0, [], [], [], [])).2.2.1 (x1.getD i.toNat (0, [], [], [], [])).2.2.2.1 (x1.getD i.toNat (0, [], [], [], [])).2.2.2.2 x0 <;> cases decide ((x1.getD i.toNat (0, [], [], [], [])).1 = i) <;> rfl)
        have f1 := any_loop (d := ((0 : Int), (0 : Int), false, (0 : Int), (0 : Int), (0 : Int), false, ([] : List Int))) (F := fun n i => f_impl_WorldOk.l1 n x2 0 (x2.length : Int) i x0 x1 x2) (q := tP x0) (g := fun i => (i, x0, x1, x2)) (e := (0, x0, x1, x2)) x2 h.l2
          (fun n i hi => by simp only [f_impl_WorldOk.l1, decide_eq_false hi, cond_false])
          (fun n i a0 a1 m => by
            have := h.l2
            simp only [f_impl_WorldOk.l1, f_impl_WorldOk_1, decide_eq_true a0, decide_eq_true a1, cond_true, Bool.and_self, (tP_eq x0 _ (h.e2 _ m)).2, Option.bind_some, w64 (show -9223372036854775808 ≤ i + 1 by omega) (by omega)]
            cases tP x0 (x2.getD i.toNat (0, 0, false, 0, 0, 0, false, [])) <;> rfl)
        simp only [Bool.not_true, cond_false, e0, Option.bind_some]
        cases allF (tN x0) 0 x1 with
        | false => rfl
        | true =>
          rcases f1 with ⟨q1, e1⟩ | ⟨q1, j, j0, -, e1⟩
          · simp only [cond_true, cs, e1, q1, Option.bind_some, Bool.not_false, Bool.and_self]
          · simp only [cond_true, cs, e1, q1, Option.bind_some, decide_eq_true j0, Bool.not_true, Bool.not_false, Bool.and_false]
    · rw [decide_eq_false h1]; rfl
theorem worldBig {x1 : List NodeT} {x2 : List PacketT} (h1 : WfC (.sl (.cons (.int .i64) (.cons (.sl (.cons (.int .i64) (.cons (.sl (.one (.int .i64))) (.one .bool)))) (.cons (.sl (.cons (.sl (.one (.int .i64))) (.cons (.int .i64) (.cons (.sl (.one .bool)) (.cons .bool (.cons (.int .i64) (.cons .bool (.cons (.int .i64) (.one (.sl (.cons (.int .i64) (.one .bool)))))))))))) (.cons (.sl (.cons (.int .i64) (.one (.sl (.cons (.int .i64) (.cons (.int .i64) (.cons .bool (.one (.sl (.one (.int .i64)))))))))))  (.one (.sl (.one (.int .i64))))))))) x1)
    (h2 : WfC (.sl (.cons (.int .i64) (.cons (.int .i64) (.cons .bool (.cons (.int .i64) (.cons (.int .i64) (.cons (.int .i64) (.cons .bool (.one (.sl (.one (.int .i64)))))))))))) x2) : WorldB x1 x2 :=
  ⟨h1.1, h2.1, all_getD (d := (0, [], [], [], [])) fun i hi => bigOf (h1.2 i hi).2.1.1 (h1.2 i hi).2.2.1.1 (h1.2 i hi).2.2.2.1.1 (h1.2 i hi).2.2.2.2.1 (fun j hj => ((h1.2 i hi).2.1.2 j hj).2.1.1) (fun j hj => ⟨((h1.2 i hi).2.2.1.2 j hj).1.1, ((h1.2 i hi).2.2.1.2 j hj).2.2.1.1, ((h1.2 i hi).2.2.1.2 j hj).2.2.2.2.2.2.2.1⟩)
    (fun j hj => ⟨((h1.2 i hi).2.2.2.1.2 j hj).2.1, all_getD (d := (0, 0, false, [])) fun k hk => (((h1.2 i hi).2.2.2.1.2 j hj).2.2 k hk).2.2.2.1⟩), all_getD (d := (0, 0, false, 0, 0, 0, false, [])) fun i hi => (h2.2 i hi).2.2.2.2.2.2.2.1⟩
def sumW {α : Type} (W : α → Int) : List α → Int
  | [] => 0
  | a :: x => W a + sumW W x
theorem tF_state (e : FrameT) (h : tF e = true) : 0 ≤ e.1 ∧ e.1 ≤ 2 := by
  unfold tF f_spec_FrameOk at h
  by_cases h0 : e.1 = 0
  · omega
  · simp only [decide_eq_false h0, cond_false, in_rng, Option.bind_some] at h
    by_cases h1 : rng e.1 2 = true
    · simpa only [rng, Bool.and_eq_true, decide_eq_true_eq] using h1
    · rw [Bool.not_eq_true] at h1
      rw [h1] at h
      cases h
theorem allF_mem {α : Type} {q : Int → α → Bool} : ∀ (x : List α) (i : Int), allF q i x = true → ∀ j (hj : j < x.length), q (i + j) x[j] = true
  | [], _, _, j, hj => by cases hj
  | a :: x, i, h, 0, hj => by
    unfold allF at h
    rw [Bool.and_eq_true] at h
    simpa using h.1
  | a :: x, i, h, j + 1, hj => by
    unfold allF at h
    rw [Bool.and_eq_true] at h
    have := allF_mem x (i + 1) h.2 j (by simpa using hj)
    rw [show i + ((j + 1 : Nat) : Int) = i + 1 + (j : Int) by omega]
    simpa using this
structure NodeFacts (e : NodeT) (k i : Int) : Prop where
  a : e.1 = i
  l1 : e.2.1.length = 6
  l2 : e.2.2.1.length = 6
  l3 : (e.2.2.2.1.length : Int) = k
  l4 : (e.2.2.2.2.length : Int) = k
  f : ∀ g ∈ e.2.1, tF g = true
  h : ∀ g ∈ e.2.2.1, tH k g = true
  s : ∀ g ∈ e.2.2.2.1, tS g = true
  r : ∀ g ∈ e.2.2.2.2, 0 ≤ g ∧ g ≤ 100000
theorem nodeFacts (x0 : Int) (x1 : List FrameT) (x2 : List HomeT) (x3 : List SenderT) (x4 : List Int) (k : Int) (h : nodeOkB x0 x1 x2 x3 x4 k = true) : (1 ≤ k ∧ k ≤ 4) ∧ (0 ≤ x0 ∧ x0 ≤ k - 1) ∧ NodeFacts (x0, x1, x2, x3, x4) k x0 := by
  unfold nodeOkB rng2 at h
  simp only [Bool.and_eq_true, decide_eq_true_eq, List.all_eq_true] at h
  obtain ⟨h1, h2, h3, h4, h5, h6, ⟨h7, h8⟩, h9, h10⟩ := h
  exact ⟨h1, h2, rfl, show x1.length = 6 by omega, show x2.length = 6 by omega, h5, h6, h7, h8, h9, h10⟩
structure WorldFacts (x0 : Int) (x1 : List NodeT) (x2 : List PacketT) : Prop where
  k : 1 ≤ x0 ∧ x0 ≤ 4
  l1 : (x1.length : Int) = x0
  l2 : x2.length ≤ 40
  n : ∀ j (hj : j < x1.length), NodeFacts x1[j] x0 (j : Int)
  p : ∀ e ∈ x2, tP x0 e = true
theorem worldFacts (x0 : Int) (x1 : List NodeT) (x2 : List PacketT) (h : worldOkB x0 x1 x2 = true) : WorldFacts x0 x1 x2 := by
  unfold worldOkB rng2 at h
  simp only [Bool.and_eq_true, decide_eq_true_eq, List.all_eq_true, Bool.not_eq_true', decide_eq_false_iff_not] at h
  obtain ⟨h1, h2, h3, h4, h5⟩ := h
  refine ⟨h1, h2, by omega, fun j hj => ?_, h5⟩
  have := allF_mem x1 0 h4 j hj
  unfold tN at this
  rw [Bool.and_eq_true, decide_eq_true_eq] at this
  obtain ⟨-, -, q⟩ := nodeFacts _ _ _ _ _ _ this.1
  exact ⟨by omega, q.l1, q.l2, q.l3, q.l4, q.f, q.h, q.s, q.r⟩
theorem worldAt {x0 : Int} {x1 : List NodeT} {x2 : List PacketT} (w : WorldFacts x0 x1 x2) (i : Int) (h0 : 0 ≤ i) (h1 : i < (x1.length : Int)) : NodeFacts (x1.getD i.toNat (0, [], [], [], [])) x0 i := by
  have hj : i.toNat < x1.length := by omega
  have := w.n i.toNat hj
  rw [List.getD_eq_getElem?_getD, List.getElem?_eq_getElem hj]
  rw [show ((i.toNat : Nat) : Int) = i by omega] at this
  exact this
/-- What a right sender's numbers are. -/
theorem senderOk_facts (a : Int) (x : List MsgL) (hn : x.length ≤ 1048576) (he : ∀ e ∈ x, e.2.2.2.length ≤ 1048576) (h : f_spec_SenderOk a x = some true) : 0 ≤ a ∧ a ≤ 100000 ∧ (x.length : Int) ≤ 30 ∧ a + (x.length : Int) ≤ 100000 ∧ x.all tM = true := by
  unfold f_spec_SenderOk at h
  rw [senderS_loop x hn he false a x.length N 0 (by omega) (by omega) (by omega) (lt_N hn)] at h
  simp only [Int.toNat_zero, List.drop_zero, in_rg, Option.bind_some] at h
  cases hall : x.all tM with
  | false => rw [hall] at h; cases h
  | true =>
    rw [hall] at h
    simp only [cond_true, cs] at h
    cases hr : rg a 0 100000 with
    | false => rw [hr] at h; cases h
    | true =>
      unfold rg at hr
      simp only [Bool.and_eq_true, decide_eq_true_eq] at hr
      by_cases h30 : (x.length : Int) ≤ 30
      · rw [decide_eq_true h30, w64 (by omega) (by omega)] at h
        have e : rg a 0 100000 = true := by unfold rg; rw [decide_eq_true hr.1, decide_eq_true hr.2]; rfl
        rw [e] at h
        simp only [cond_true, Option.some.injEq, decide_eq_true_eq] at h
        exact ⟨hr.1, hr.2, h30, h, rfl⟩
      · rw [decide_eq_false h30] at h
        cases h' : rg a 0 100000 <;> rw [h'] at h <;> cases h
theorem msgOk_facts (k p : Int) (c : Bool) (w : List Int) (hn : w.length ≤ 1048576) (h : f_spec_MsgOk k p c w = some true) : 1 ≤ k ∧ k ≤ 7 ∧ 0 ≤ p ∧ p ≤ 5 ∧ allW w = true ∧ w.length = (if k = 3 ∨ k = 7 then 4 else 0) := by
  unfold f_spec_MsgOk at h
  simp only [specWords w hn, in_rg, Option.bind_some] at h
  have key : rg k 1 7 = true ∧ rg p 0 5 = true ∧ allW w = true ∧ (w.length : Int) = (if k = 3 ∨ k = 7 then 4 else 0) := by
    by_cases h3 : k = 3
    · subst h3
      rw [show rg 3 1 7 = true from rfl] at h ⊢
      cases hp : rg p 0 5 <;> simp [hp] at h ⊢
      exact ⟨h.1, by omega⟩
    · by_cases h7 : k = 7
      · subst h7
        rw [show rg 7 1 7 = true from rfl] at h ⊢
        cases hp : rg p 0 5 <;> cases c <;> simp [hp] at h ⊢
        exact ⟨h.1, by omega⟩
      · rw [decide_eq_false h3, decide_eq_false h7] at h
        cases hr : rg k 1 7 <;> cases hp : rg p 0 5 <;> cases hk : decide (k = 6) <;> cases c <;> simp [hr, hp, hk, h3, h7] at h ⊢ <;> exact ⟨h.1, h.2⟩
  obtain ⟨k1, k2, k3, k4⟩ := key
  unfold rg at k1 k2
  simp only [Bool.and_eq_true, decide_eq_true_eq] at k1 k2
  refine ⟨k1.1, k1.2, k2.1, k2.2, k3, ?_⟩
  by_cases hk : k = 3 ∨ k = 7
  · rw [if_pos hk] at k4 ⊢; omega
  · rw [if_neg hk] at k4 ⊢; omega
def stAt (p : Int) (e : NodeT) : Int := (e.2.1.getD p.toNat (0, [], false)).1
def cS (p : Int) (e : NodeT) : Int := if stAt p e = 0 then 0 else 1
def cM (p : Int) (e : NodeT) : Int := if stAt p e = 2 then 1 else 0
theorem sumC {α : Type} {W : α → Int} (h : ∀ e, 0 ≤ W e ∧ W e ≤ 1) : ∀ x : List α, 0 ≤ sumW W x ∧ sumW W x ≤ x.length
  | [] => by simp [sumW]
  | a :: x => by have := sumC h x; have := h a; simp only [sumW, List.length_cons]; omega
theorem sumC_le {α : Type} {W V : α → Int} (h : ∀ e, W e ≤ V e) : ∀ x : List α, sumW W x ≤ sumW V x
  | [] => by simp [sumW]
  | a :: x => by have := sumC_le h x; have := h a; simp only [sumW]; omega
theorem cS01 (p : Int) (e : NodeT) : 0 ≤ cS p e ∧ cS p e ≤ 1 := by unfold cS; by_cases h : stAt p e = 0 <;> simp [h]
theorem cM01 (p : Int) (e : NodeT) : 0 ≤ cM p e ∧ cM p e ≤ 1 := by unfold cM; by_cases h : stAt p e = 2 <;> simp [h]
theorem cM_le (p : Int) (e : NodeT) : cM p e ≤ cS p e := by
  unfold cM cS
  by_cases h : stAt p e = 2
  · rw [if_pos h, if_neg (by omega)]; omega
  · rw [if_neg h]; by_cases h : stAt p e = 0 <;> simp [h]
theorem cnt_loop {α : Type} {d : α} {F : Nat → Int → Int → Int → Option (Bool × Int × Int)} {A B : α → Int} (x : List α) (hx : x.length ≤ 1048576) (hA : ∀ e, 0 ≤ A e ∧ A e ≤ 1) (hB : ∀ e, 0 ≤ B e ∧ B e ≤ 1)
    (h0 : ∀ n a b i, ¬ i < (x.length : Int) → F (n + 1) a b i = some (false, a, b))
    (h1 : ∀ n a b i, 0 ≤ i → i < (x.length : Int) → 0 ≤ a → a ≤ i → 0 ≤ b → b ≤ i → F (n + 1) a b i = F n (a + A (x.getD i.toNat d)) (b + B (x.getD i.toNat d)) (i + 1)) : F N 0 0 0 = some (false, sumW A x, sumW B x) := by
  have step : ∀ (k n : Nat) (a b i : Int), 0 ≤ i → i ≤ x.length → (x.length : Int) - i = k → k < n → 0 ≤ a → a ≤ i → 0 ≤ b → b ≤ i → F n a b i = some (false, a + sumW A (x.drop i.toNat), b + sumW B (x.drop i.toNat)) := by
    intro k
    induction k with
    | zero =>
      intro n a b i a0 a1 hd hn _ _ _ _
      obtain ⟨n, rfl⟩ := succ_fuel hn
      rw [h0 n a b i (by omega), List.drop_eq_nil_of_le (by omega)]
      simp [sumW]
    | succ k ih =>
      intro n a b i a0 a1 hd hn c0 c1 d0 d1
      obtain ⟨n, rfl⟩ := succ_fuel hn
      have := hA (x.getD i.toNat d)
      have := hB (x.getD i.toNat d)
      rw [h1 n a b i a0 (by omega) c0 c1 d0 d1, drop_getD x d i a0 (by omega), ih n _ _ (i + 1) (by omega) (by omega) (by omega) (by omega) (by omega) (by omega) (by omega) (by omega)]
      simp only [sumW, Int.add_assoc]
  have := step x.length N 0 0 0 (by omega) (by omega) (by omega) (Nat.lt_of_le_of_lt hx (Nat.lt_trans (by omega) big)) (by omega) (by omega) (by omega) (by omega)
  simpa using this
theorem bit_eq (b : Bool) : f_spec_l1Bit b = some (if b = true then 1 else 0) := by unfold f_spec_l1Bit; cases b <;> rfl
theorem stAt_range {x0 : Int} {x1 : List NodeT} {x2 : List PacketT} (w : WorldFacts x0 x1 x2) (p : Int) (p0 : 0 ≤ p) (p1 : p ≤ 5) (i : Int) (h0 : 0 ≤ i) (h1 : i < (x1.length : Int)) : (0 ≤ stAt p (x1.getD i.toNat (0, [], [], [], [])) ∧ stAt p (x1.getD i.toNat (0, [], [], [], [])) ≤ 2) ∧ p < ((x1.getD i.toNat (0, [], [], [], [])).2.1.length : Int) := by
  have q := worldAt w i h0 h1
  have hl := q.l1
  exact ⟨tF_state _ (q.f _ (mem_getD _ _ p p0 (by omega))), by omega⟩
noncomputable def aloneB (x0 : Int) (x1 : List NodeT) (x2 : List PacketT) (p : Int) : Bool := worldOkB x0 x1 x2 && (rng p 5 && (decide (sumW (cM p) x1 = 0) || decide (sumW (cS p) x1 = 1)))
theorem specAlone (x0 : Int) (x1 : List NodeT) (x2 : List PacketT) (p : Int) (h : WorldK x1 x2) : f_spec_Alone x0 x1 x2 p = some (aloneB x0 x1 x2 p) := by
  unfold f_spec_Alone aloneB
  rw [specWorldOk x0 x1 x2 h, Option.bind_some]
  cases hw : worldOkB x0 x1 x2 with
  | false => rfl
  | true =>
    have w := worldFacts x0 x1 x2 hw
    rw [in_rng]
    cases hp : rng p 5 with
    | false => rfl
    | true =>
      have hp' := hp
      unfold rng at hp'
      simp only [Bool.and_eq_true, decide_eq_true_eq] at hp'
      have e := cnt_loop (d := ((0 : Int), ([] : List FrameT), ([] : List HomeT), ([] : List SenderT), ([] : List Int))) (F := fun n a b i => f_spec_Alone.l0 n p false a b i x0 x1 x2) (A := cS p) (B := cM p) x1 h.l1 (cS01 p) (cM01 p)
        (fun n a b i hi => by have := w.l1; simp only [f_spec_Alone.l0, decide_eq_false (show ¬ i < x0 by omega), cond_false])
        (fun n a b i a0 a1 c0 c1 d0 d1 => by
          have := w.l1
          have := h.l1
          obtain ⟨-, q⟩ := stAt_range w p hp'.1 hp'.2 i a0 a1
          simp only [f_spec_Alone.l0, decide_eq_true (show i < x0 by omega), decide_eq_true a0, decide_eq_true a1, decide_eq_true hp'.1, decide_eq_true q, cond_true, Bool.and_self, bit_eq, Option.bind_some, w64 (show -9223372036854775808 ≤ i + 1 by omega) (by omega)]
          have e1 : (if (!decide (((x1.getD i.toNat (0, [], [], [], [])).2.1.getD p.toNat (0, [], false)).1 = 0)) = true then (1 : Int) else 0) = cS p (x1.getD i.toNat (0, [], [], [], [])) := by
            unfold cS stAt
            by_cases h : ((x1.getD i.toNat (0, [], [], [], [])).2.1.getD p.toNat (0, [], false)).1 = 0 <;> simp [h]
          have e2 : (if decide (((x1.getD i.toNat (0, [], [], [], [])).2.1.getD p.toNat (0, [], false)).1 = 2) = true then (1 : Int) else 0) = cM p (x1.getD i.toNat (0, [], [], [], [])) := by
            unfold cM stAt
            by_cases h : ((x1.getD i.toNat (0, [], [], [], [])).2.1.getD p.toNat (0, [], false)).1 = 2 <;> simp [h]
          rw [e1, e2]
          have := cS01 p (x1.getD i.toNat (0, [], [], [], []))
          have := cM01 p (x1.getD i.toNat (0, [], [], [], []))
          rw [w64 (by omega) (by omega), w64 (by omega) (by omega)])
      simp only [Option.bind_some, Bool.not_true, cond_false, e]
      have h1 := sumC (cM01 p) x1
      have h2 := sumC_le (cM_le p) x1
      by_cases hb : sumW (cM p) x1 = 0
      · simp only [decide_eq_true hb, cond_true, Bool.true_or, Bool.and_self]
      · by_cases hb1 : sumW (cM p) x1 = 1
        · simp only [decide_eq_false hb, decide_eq_true hb1, cond_true, cond_false, Bool.false_or, Bool.true_and]
        · simp only [decide_eq_false hb, decide_eq_false hb1, decide_eq_false (show ¬ sumW (cS p) x1 = 1 by omega), cond_false, Bool.or_self, Bool.and_false]
theorem implAlone_ {x0 : Int} {x1 : List NodeT} {x2 : List PacketT} (h : WorldK x1 x2) (w : WorldFacts x0 x1 x2) (p : Int) (p0 : 0 ≤ p) (p1 : p ≤ 5) : f_impl_alone x0 x1 x2 p = some (decide (sumW (cM p) x1 = 0) || decide (sumW (cS p) x1 = 1)) := by
  unfold f_impl_alone
  have e := cnt_loop (d := ((0 : Int), ([] : List FrameT), ([] : List HomeT), ([] : List SenderT), ([] : List Int))) (F := fun n a b i => f_impl_alone.l0 n p false a b x1 (x1.length : Int) i) (A := cS p) (B := cM p) x1 h.l1 (cS01 p) (cM01 p)
    (fun n a b i hi => by simp only [f_impl_alone.l0, decide_eq_false hi, cond_false])
    (fun n a b i a0 a1 c0 c1 d0 d1 => by
      have := h.l1
      obtain ⟨q0, q⟩ := stAt_range w p p0 p1 i a0 a1
      simp only [f_impl_alone.l0, decide_eq_true a0, decide_eq_true a1, decide_eq_true p0, decide_eq_true q, cond_true, Bool.and_self, Option.bind_some, w64 (show -9223372036854775808 ≤ i + 1 by omega) (by omega), w64 (show -9223372036854775808 ≤ a + 1 by omega) (by omega), w64 (show -9223372036854775808 ≤ b + 1 by omega) (by omega)]
      change 0 ≤ stAt p _ ∧ stAt p _ ≤ 2 at q0
      unfold cS cM
      have hs : ((x1.getD i.toNat (0, [], [], [], [])).2.1.getD p.toNat (0, [], false)).1 = stAt p (x1.getD i.toNat (0, [], [], [], [])) := rfl
      rw [hs]
      by_cases g2 : stAt p (x1.getD i.toNat (0, [], [], [], [])) = 2
      · simp only [decide_eq_true g2, cond_true, if_pos g2, if_neg (show ¬ stAt p (x1.getD i.toNat (0, [], [], [], [])) = 0 by omega)]
      · by_cases g1 : stAt p (x1.getD i.toNat (0, [], [], [], [])) = 1
        · simp only [decide_eq_false g2, decide_eq_true g1, cond_true, cond_false, if_neg g2, if_neg (show ¬ stAt p (x1.getD i.toNat (0, [], [], [], [])) = 0 by omega), Int.add_zero]
        · simp only [decide_eq_false g2, decide_eq_false g1, cond_false, if_neg g2, if_pos (show stAt p (x1.getD i.toNat (0, [], [], [], [])) = 0 by omega), Int.add_zero])
  simp only [e, Option.bind_some]
  by_cases hb : sumW (cM p) x1 = 0
  · simp only [decide_eq_true hb, cond_true, Bool.true_or]
  · simp only [decide_eq_false hb, cond_false, Bool.false_or]
def fltF {α : Type} (q : Int → Bool) : Int → List α → List α
  | _, [] => []
  | i, a :: x => if q i = true then a :: fltF q (i + 1) x else fltF q (i + 1) x
theorem fltF_sub {α : Type} {q : Int → Bool} : ∀ (x : List α) (i : Int), (∀ e ∈ fltF q i x, e ∈ x) ∧ (fltF q i x).length ≤ x.length
  | [], _ => ⟨fun e h => (by cases h), Nat.le_refl _⟩
  | a :: x, i => by
    obtain ⟨h1, h2⟩ := fltF_sub (q := q) x (i + 1)
    unfold fltF
    by_cases h : q i = true
    · rw [if_pos h]
      refine ⟨fun e he => ?_, by simp only [List.length_cons]; omega⟩
      rcases List.mem_cons.1 he with h | h
      · rw [h]; exact .head _
      · exact .tail _ (h1 e h)
    · rw [if_neg h]
      exact ⟨fun e he => .tail _ (h1 e he), by simp only [List.length_cons]; omega⟩
theorem flt_gen {α τ : Type} {d : α} {F : Nat → Int → List α → Option τ} {R : List α → τ} {q : Int → Bool} (x : List α) (hx : x.length ≤ 1048576) (h0 : ∀ n i y, ¬ i < (x.length : Int) → F (n + 1) i y = some (R y))
    (h1 : ∀ n i y, 0 ≤ i → i < (x.length : Int) → x.getD i.toNat d ∈ x → y.length ≤ 1048576 → F (n + 1) i y = bif q i then F n (i + 1) (y ++ [x.getD i.toNat d]) else F n (i + 1) y) : F N 0 [] = some (R (fltF q 0 x)) := by
  have step : ∀ (k n : Nat) (i : Int) (y : List α), 0 ≤ i → i ≤ x.length → (x.length : Int) - i = k → k < n → (y.length : Int) ≤ i → F n i y = some (R (y ++ fltF q i (x.drop i.toNat))) := by
    intro k
    induction k with
    | zero =>
      intro n i y a0 a1 hd hn hy
      obtain ⟨n, rfl⟩ := succ_fuel hn
      rw [h0 n i y (by omega), List.drop_eq_nil_of_le (by omega)]
      simp [fltF]
    | succ k ih =>
      intro n i y a0 a1 hd hn hy
      obtain ⟨n, rfl⟩ := succ_fuel hn
      rw [h1 n i y a0 (by omega) (mem_getD x d i a0 (by omega)) (by omega), drop_getD x d i a0 (by omega)]
      unfold fltF
      by_cases h : q i = true
      · rw [h, cond_true, if_pos rfl, ih n (i + 1) _ (by omega) (by omega) (by omega) (by omega) (by simp only [List.length_append, List.length_singleton]; omega), List.append_assoc]
        rfl
      · rw [Bool.not_eq_true] at h
        rw [h, cond_false, if_neg (by simp), ih n (i + 1) y (by omega) (by omega) (by omega) (by omega) (by omega)]
  have := step x.length N 0 [] (by omega) (by omega) (by omega) (Nat.lt_of_le_of_lt hx (Nat.lt_trans (by omega) big)) (by simp)
  simpa using this
def sndAt (x1 : List NodeT) (i j : Int) : SenderT := (x1.getD i.toNat (0, [], [], [], [])).2.2.2.1.getD j.toNat (0, [])
def rcvAt (x1 : List NodeT) (i j : Int) : Int := (x1.getD i.toNat (0, [], [], [], [])).2.2.2.2.getD j.toNat 0
def comeL (x1 : List NodeT) (i j : Int) : List MsgL := fltF (fun n => decide (rcvAt x1 j i ≤ IntKind.wrap .i64 ((sndAt x1 i j).1 + n))) 0 (sndAt x1 i j).2
theorem sndAt_ok {x0 : Int} {x1 : List NodeT} {x2 : List PacketT} (w : WorldFacts x0 x1 x2) (h : WorldK x1 x2) (i j : Int) (i0 : 0 ≤ i) (i1 : i ≤ x0 - 1) (j0 : 0 ≤ j) (j1 : j ≤ x0 - 1) : okSender (sndAt x1 i j) := by
  have hl := w.l1
  have q := worldAt w i i0 (by omega)
  have hk := h.e1 _ (mem_getD x1 (0, [], [], [], []) i i0 (by omega))
  have l3 := q.l3
  exact NodeK.e3 hk _ (mem_getD _ _ j j0 (by omega))
theorem comeL_ok {x0 : Int} {x1 : List NodeT} {x2 : List PacketT} (w : WorldFacts x0 x1 x2) (h : WorldK x1 x2) (i j : Int) (i0 : 0 ≤ i) (i1 : i ≤ x0 - 1) (j0 : 0 ≤ j) (j1 : j ≤ x0 - 1) : (comeL x1 i j).length ≤ 1048576 ∧ ∀ e ∈ comeL x1 i j, e.2.2.2.length ≤ 1048576 := by
  obtain ⟨h1, h2⟩ := sndAt_ok w h i j i0 i1 j0 j1
  obtain ⟨k1, k2⟩ := fltF_sub (q := fun n => decide (rcvAt x1 j i ≤ IntKind.wrap .i64 ((sndAt x1 i j).1 + n))) (sndAt x1 i j).2 0
  exact ⟨Nat.le_trans k2 h1, fun e he => h2 e (k1 e he)⟩
theorem specL7 {x0 : Int} {x1 : List NodeT} {x2 : List PacketT} (w : WorldFacts x0 x1 x2) (h : WorldK x1 x2) (i j : Int) (i0 : 0 ≤ i) (i1 : i ≤ x0 - 1) (j0 : 0 ≤ j) (j1 : j ≤ x0 - 1) : f_spec_l7Coming x0 x1 x2 i j = some (comeL x1 i j) := by
  unfold f_spec_l7Coming
  have hl := w.l1
  have qi := worldAt w i i0 (by omega)
  have qj := worldAt w j j0 (by omega)
  have l3 := qi.l3
  have l4 := qj.l4
  obtain ⟨h1, h2⟩ := sndAt_ok w h i j i0 i1 j0 j1
  have e := flt_gen (d := ((0 : Int), (0 : Int), false, ([] : List Int))) (F := fun n k y => f_spec_l7Coming.l0 n (rcvAt x1 j i) k y (sndAt x1 i j).1 (sndAt x1 i j).2) (R := fun y => y) (q := fun n => decide (rcvAt x1 j i ≤ IntKind.wrap .i64 ((sndAt x1 i j).1 + n))) (sndAt x1 i j).2 h1
    (fun n k y hk => by simp only [f_spec_l7Coming.l0, decide_eq_false hk, cond_false])
    (fun n k y a0 a1 m hy => by
      have hm : ((sndAt x1 i j).2.getD k.toNat (0, 0, false, [])).2.2.2.length ≤ 1048576 := h2 _ m
      simp only [f_spec_l7Coming.l0, f_spec_l1Msg, decide_eq_true a0, decide_eq_true a1, cond_true, Bool.and_self, List.length_nil, Nat.zero_add, (blt_iff _ _).2 (show ((sndAt x1 i j).2.getD k.toNat (0, 0, false, [])).2.2.2.length < 17592186044416 by omega), List.nil_append, Option.bind_some, List.length_singleton, (blt_iff _ _).2 (show y.length + 1 < 2932031007402 by omega), w64 (show -9223372036854775808 ≤ k + 1 by omega) (by omega)])
  simp only [decide_eq_true i0, decide_eq_true j0, decide_eq_true (show i < (x1.length : Int) by omega), decide_eq_true (show j < (x1.length : Int) by omega), decide_eq_true (show j < ((x1.getD i.toNat (0, [], [], [], [])).2.2.2.1.length : Int) by omega), decide_eq_true (show i < ((x1.getD j.toNat (0, [], [], [], [])).2.2.2.2.length : Int) by omega), cond_true, Bool.and_self]
  change (f_spec_l7Coming.l0 N (rcvAt x1 j i) 0 [] (sndAt x1 i j).1 (sndAt x1 i j).2).bind _ = _
  rw [e]
  rfl
theorem implL7 {x0 : Int} {x1 : List NodeT} {x2 : List PacketT} (w : WorldFacts x0 x1 x2) (h : WorldK x1 x2) (i j : Int) (i0 : 0 ≤ i) (i1 : i ≤ x0 - 1) (j0 : 0 ≤ j) (j1 : j ≤ x0 - 1) : f_impl_coming x0 x1 x2 i j = some (comeL x1 i j) := by
  unfold f_impl_coming
  have hl := w.l1
  have qi := worldAt w i i0 (by omega)
  have qj := worldAt w j j0 (by omega)
  have l3 := qi.l3
  have l4 := qj.l4
  obtain ⟨h1, h2⟩ := sndAt_ok w h i j i0 i1 j0 j1
  have e := flt_gen (d := ((0 : Int), (0 : Int), false, ([] : List Int))) (F := fun n k y => f_impl_coming.l0 n i j (sndAt x1 i j).2 ((sndAt x1 i j).2.length : Int) k x0 x1 x2 (sndAt x1 i j).1 (sndAt x1 i j).2 y) (R := fun y => y) (q := fun n => decide (rcvAt x1 j i ≤ IntKind.wrap .i64 ((sndAt x1 i j).1 + n))) (sndAt x1 i j).2 h1
    (fun n k y hk => by simp only [f_impl_coming.l0, decide_eq_false hk, cond_false])
    (fun n k y a0 a1 m hy => by
      have hm : ((sndAt x1 i j).2.getD k.toNat (0, 0, false, [])).2.2.2.length ≤ 1048576 := h2 _ m
      have hr : (x1.getD j.toNat (0, [], [], [], [])).2.2.2.2.getD i.toNat 0 = rcvAt x1 j i := rfl
      simp only [f_impl_coming.l0, f_impl_copyMsg, f_slices_Clone_int_int, hr, decide_eq_true i0, decide_eq_true j0, decide_eq_true (show j < (x1.length : Int) by omega), decide_eq_true (show i < ((x1.getD j.toNat (0, [], [], [], [])).2.2.2.2.length : Int) by omega), decide_eq_true a0, decide_eq_true a1, cond_true, Bool.and_self, List.length_nil, Nat.zero_add, (blt_iff _ _).2 (show ((sndAt x1 i j).2.getD k.toNat (0, 0, false, [])).2.2.2.length < 17592186044416 by omega), List.nil_append, Option.bind_some, List.length_singleton, (blt_iff _ _).2 (show y.length + 1 < 2932031007402 by omega), w64 (show -9223372036854775808 ≤ k + 1 by omega) (by omega)])
  simp only [decide_eq_true i0, decide_eq_true j0, decide_eq_true (show i < (x1.length : Int) by omega), decide_eq_true (show j < (x1.length : Int) by omega), decide_eq_true (show j < ((x1.getD i.toNat (0, [], [], [], [])).2.2.2.1.length : Int) by omega), cond_true, Bool.and_self]
  change (f_impl_coming.l0 N i j (sndAt x1 i j).2 ((sndAt x1 i j).2.length : Int) 0 x0 x1 x2 (sndAt x1 i j).1 (sndAt x1 i j).2 []).bind _ = _
  rw [e]
  rfl
theorem find_loop {α β : Type} {d : α} {F : Nat → Int → Option ((Int × List α) ⊕ β)} {q : α → Bool} {b : β} (x : List α) (hx : x.length ≤ 1048576) (h0 : ∀ n i, ¬ i < (x.length : Int) → F (n + 1) i = some (.inr b))
    (h1 : ∀ n i, 0 ≤ i → i < (x.length : Int) → F (n + 1) i = bif q (x.getD i.toNat d) then some (.inl (i, x)) else F n (i + 1)) : (x.find? q = none ∧ F N 0 = some (.inr b)) ∨ ∃ i, x.find? q = some (x.getD i.toNat d) ∧ F N 0 = some (.inl (i, x)) := by
  have step : ∀ (k n : Nat) (i : Int), 0 ≤ i → i ≤ x.length → (x.length : Int) - i = k → k < n → ((x.drop i.toNat).find? q = none ∧ F n i = some (.inr b)) ∨ ∃ j, (x.drop i.toNat).find? q = some (x.getD j.toNat d) ∧ F n i = some (.inl (j, x)) := by
    intro k
    induction k with
    | zero =>
      intro n i a0 a1 hd hn
      obtain ⟨n, rfl⟩ := succ_fuel hn
      exact .inl ⟨by rw [List.drop_eq_nil_of_le (by omega)]; rfl, h0 n i (by omega)⟩
    | succ k ih =>
      intro n i a0 a1 hd hn
      obtain ⟨n, rfl⟩ := succ_fuel hn
      rw [h1 n i a0 (by omega), drop_getD x d i a0 (by omega), List.find?_cons]
      cases q (x.getD i.toNat d) with
      | true => exact .inr ⟨i, rfl, rfl⟩
      | false => exact ih n (i + 1) (by omega) (by omega) (by omega) (by omega)
  have := step x.length N 0 (by omega) (by omega) (by omega) (Nat.lt_of_le_of_lt hx (Nat.lt_trans (by omega) big))
  simpa using this
def qM (k p : Int) (m : MsgL) : Bool := decide (m.1 = k) && (decide (m.2.1 = p) && (m.2.2.1 || decide (k = 7)))
def wordsOf (o : Option MsgL) : List Int := match o with
  | some m => m.2.2.2
  | none => []
def lastW (q : MsgL → Bool) : List MsgL → List Int → List Int
  | [], a => a
  | m :: x, a => lastW q x (if q m = true then m.2.2.2 else a)
theorem lastW_append (q : MsgL → Bool) : ∀ (x y : List MsgL) (a : List Int), lastW q (x ++ y) a = lastW q y (lastW q x a)
  | [], y, a => rfl
  | m :: x, y, a => by simp only [List.cons_append, lastW, lastW_append q x y]
theorem lastW_rev (q : MsgL → Bool) : ∀ x : List MsgL, lastW q x.reverse [] = wordsOf (x.find? q)
  | [] => rfl
  | m :: x => by
    rw [List.reverse_cons, lastW_append, lastW_rev q x, List.find?_cons]
    simp only [lastW]
    cases h : q m with
    | true => simp only [if_true]; rfl
    | false => simp only [Bool.false_eq_true, if_false]
theorem specLast (x : List MsgL) (hx : x.length ≤ 1048576) (he : ∀ e ∈ x, e.2.2.2.length ≤ 1048576) (k p : Int) : f_spec_l7Last x k p = some (wordsOf (x.reverse.find? (qM k p))) := by
  have step : ∀ (r n : Nat) (i : Int) (a : List Int), 0 ≤ i → i ≤ x.length → (x.length : Int) - i = r → r < n → f_spec_l7Last.l0 n x k p i a = some (lastW (qM k p) (x.drop i.toNat) a) := by
    intro r
    induction r with
    | zero =>
      intro n i a a0 a1 hd hn
      obtain ⟨n, rfl⟩ := succ_fuel hn
      simp only [f_spec_l7Last.l0, decide_eq_false (show ¬ i < (x.length : Int) by omega), cond_false, List.drop_eq_nil_of_le (show x.length ≤ i.toNat by omega), lastW]
    | succ r ih =>
      intro n i a a0 a1 hd hn
      obtain ⟨n, rfl⟩ := succ_fuel hn
      have hm : (x.getD i.toNat (0, 0, false, [])).2.2.2.length ≤ 1048576 := he _ (mem_getD x _ i a0 (by omega))
      rw [drop_getD x (0, 0, false, []) i a0 (by omega)]
      simp only [f_spec_l7Last.l0, decide_eq_true (show i < (x.length : Int) by omega), decide_eq_true a0, cond_true, Bool.and_self, List.length_nil, Nat.zero_add, (blt_iff _ _).2 (show (x.getD i.toNat (0, 0, false, [])).2.2.2.length < 17592186044416 by omega), List.nil_append, Option.bind_some, w64 (show -9223372036854775808 ≤ i + 1 by omega) (by omega), ih n (i + 1) _ (by omega) (by omega) (by omega) (by omega), lastW]
      unfold qM
      cases decide ((x.getD i.toNat (0, 0, false, [])).1 = k) with
      | false => simp only [cond_false, Bool.false_and, Bool.false_eq_true, if_false]
      | true =>
        cases decide ((x.getD i.toNat (0, 0, false, [])).2.1 = p) with
        | false => simp only [cond_true, cond_false, Bool.false_and, Bool.and_false, Bool.false_eq_true, if_false]
        | true =>
          cases (x.getD i.toNat (0, 0, false, [])).2.2.1 with
          | true => simp only [cond_true, Bool.true_or, Bool.and_self, if_true]
          | false =>
            cases decide (k = 7) with
            | true => simp only [cond_true, cond_false, Bool.or_true, Bool.and_self, if_true]
            | false => simp only [cond_true, cond_false, Bool.or_self, Bool.and_false, Bool.false_eq_true, if_false]
  unfold f_spec_l7Last
  rw [step x.length N 0 [] (by omega) (by omega) (by omega) (Nat.lt_of_le_of_lt hx (Nat.lt_trans (by omega) big)), Option.bind_some, ← lastW_rev, List.reverse_reverse]
  rfl
def homeAt (x1 : List NodeT) (i p : Int) : HomeT := (x1.getD i.toNat (0, [], [], [], [])).2.2.1.getD p.toNat ([], 0, [], false, 0, false, 0, [])
def frameAt (x1 : List NodeT) (i p : Int) : FrameT := (x1.getD i.toNat (0, [], [], [], [])).2.1.getD p.toNat (0, [], false)
def truthL (x0 : Int) (x1 : List NodeT) (p : Int) : List Int :=
  if (homeAt x1 (Int.tmod p x0) p).2.1 < 0 then (homeAt x1 (Int.tmod p x0) p).1 else
  if (frameAt x1 (homeAt x1 (Int.tmod p x0) p).2.1 p).1 = 2 then (frameAt x1 (homeAt x1 (Int.tmod p x0) p).2.1 p).2.1 else
  match (comeL x1 (Int.tmod p x0) (homeAt x1 (Int.tmod p x0) p).2.1).reverse.find? (qM 3 p) with
  | some m => m.2.2.2
  | none => wordsOf ((comeL x1 (homeAt x1 (Int.tmod p x0) p).2.1 (Int.tmod p x0)).reverse.find? (qM 7 p))
structure TruthFacts (x0 : Int) (x1 : List NodeT) (p : Int) : Prop where
  k : ¬ x0 = 0
  t0 : 0 ≤ Int.tmod p x0
  t1 : Int.tmod p x0 < (x1.length : Int)
  t2 : Int.tmod p x0 ≤ x0 - 1
  hl : p < ((x1.getD (Int.tmod p x0).toNat (0, [], [], [], [])).2.2.1.length : Int)
  o1 : (homeAt x1 (Int.tmod p x0) p).2.1 ≤ x0 - 1
  hb : (homeAt x1 (Int.tmod p x0) p).1.length ≤ 1048576
theorem truthFacts {x0 : Int} {x1 : List NodeT} {x2 : List PacketT} (h : WorldK x1 x2) (w : WorldFacts x0 x1 x2) (p : Int) (p0 : 0 ≤ p) (p1 : p ≤ 5) : TruthFacts x0 x1 p := by
  have hk := w.k
  have hl := w.l1
  have t0 : 0 ≤ Int.tmod p x0 := Int.tmod_nonneg x0 p0
  have t1 : Int.tmod p x0 < x0 := Int.tmod_lt_of_pos p (by omega)
  have q := worldAt w _ t0 (show Int.tmod p x0 < (x1.length : Int) by omega)
  have ql := q.l2
  have m := mem_getD (x1.getD (Int.tmod p x0).toNat (0, [], [], [], [])).2.2.1 ([], 0, [], false, 0, false, 0, []) p p0 (by omega)
  have qh := q.h _ m
  have kh := (h.e1 _ (mem_getD x1 (0, [], [], [], []) _ t0 (by omega))).e2 _ m
  unfold tH homeOkB rng2 at qh
  simp only [Bool.and_eq_true, decide_eq_true_eq] at qh
  exact ⟨by omega, t0, by omega, by omega, by omega, by show _ ≤ _; unfold homeAt; omega, kh.g0⟩
theorem frameAt_ok {x0 : Int} {x1 : List NodeT} {x2 : List PacketT} (h : WorldK x1 x2) (w : WorldFacts x0 x1 x2) (i p : Int) (i0 : 0 ≤ i) (i1 : i < (x1.length : Int)) (p0 : 0 ≤ p) (p1 : p ≤ 5) : p < ((x1.getD i.toNat (0, [], [], [], [])).2.1.length : Int) ∧ okFrame (frameAt x1 i p) ∧ tF (frameAt x1 i p) = true := by
  have q := worldAt w i i0 i1
  have ql := q.l1
  have m := mem_getD (x1.getD i.toNat (0, [], [], [], [])).2.1 (0, [], false) p p0 (by omega)
  exact ⟨by omega, (h.e1 _ (mem_getD x1 (0, [], [], [], []) i i0 i1)).e1 _ m, q.f _ m⟩
theorem come_words {x0 : Int} {x1 : List NodeT} {x2 : List PacketT} (h : WorldK x1 x2) (w : WorldFacts x0 x1 x2) (i j : Int) (i0 : 0 ≤ i) (i1 : i ≤ x0 - 1) (j0 : 0 ≤ j) (j1 : j ≤ x0 - 1) : ∀ m ∈ comeL x1 i j, m.1 = 3 ∨ m.1 = 7 → m.2.2.2.length = 4 := by
  intro m hm h37
  have hl := w.l1
  have hs := sndAt_ok w h i j i0 i1 j0 j1
  have hm' := (fltF_sub (q := fun n => decide (rcvAt x1 j i ≤ IntKind.wrap .i64 ((sndAt x1 i j).1 + n))) (sndAt x1 i j).2 0).1 m hm
  have q := worldAt w i i0 (by omega)
  have ql := q.l3
  have ts := q.s _ (mem_getD (x1.getD i.toNat (0, [], [], [], [])).2.2.2.1 (0, []) j j0 (by omega))
  have so := (tS_eq _ hs).1
  have ts : tS (sndAt x1 i j) = true := ts
  rw [ts] at so
  obtain ⟨-, -, -, -, ha⟩ := senderOk_facts _ _ hs.1 hs.2 so
  have hk := hs.2 m hm'
  have tm := (tM_eq m hk).1
  rw [List.all_eq_true.1 ha m hm'] at tm
  have := (msgOk_facts _ _ _ _ hk tm).2.2.2.2.2
  rw [if_pos h37] at this
  exact this
theorem qM_kind {k p : Int} {m : MsgL} (h : qM k p m = true) : m.1 = k := by
  unfold qM at h
  simp only [Bool.and_eq_true, decide_eq_true_eq] at h
  exact h.1
theorem specTruth_ {x0 : Int} {x1 : List NodeT} {x2 : List PacketT} (h : WorldK x1 x2) (w : WorldFacts x0 x1 x2) (p : Int) (p0 : 0 ≤ p) (p1 : p ≤ 5) : f_spec_l7Truth x0 x1 x2 p = some (truthL x0 x1 p) ∧ (truthL x0 x1 p).length ≤ 1048576 := by
  have f := truthFacts h w p p0 p1
  have hl := w.l1
  have hb := f.hb
  have o1 := f.o1
  unfold f_spec_l7Truth truthL
  simp only [decide_eq_false f.k, cond_false, decide_eq_true f.t0, decide_eq_true f.t1, decide_eq_true p0, decide_eq_true f.hl, Bool.and_self, cond_true]
  have e1 : (x1.getD (Int.tmod p x0).toNat (0, [], [], [], [])).2.2.1.getD p.toNat ([], 0, [], false, 0, false, 0, []) = homeAt x1 (Int.tmod p x0) p := rfl
  rw [e1]
  by_cases h0 : (homeAt x1 (Int.tmod p x0) p).2.1 < 0
  · simp only [decide_eq_true h0, cond_true, if_pos h0, List.length_nil, Nat.zero_add, (blt_iff _ _).2 (show (homeAt x1 (Int.tmod p x0) p).1.length < 17592186044416 by omega), List.nil_append, Option.bind_some]
    exact ⟨trivial, hb⟩
  · have fa := frameAt_ok h w (homeAt x1 (Int.tmod p x0) p).2.1 p (by omega) (by omega) p0 p1
    have e2 : (x1.getD (homeAt x1 (Int.tmod p x0) p).2.1.toNat (0, [], [], [], [])).2.1.getD p.toNat (0, [], false) = frameAt x1 (homeAt x1 (Int.tmod p x0) p).2.1 p := rfl
    have fk : (frameAt x1 (homeAt x1 (Int.tmod p x0) p).2.1 p).2.1.length ≤ 1048576 := fa.2.1
    simp only [decide_eq_false h0, cond_false, if_neg h0, decide_eq_true (show 0 ≤ (homeAt x1 (Int.tmod p x0) p).2.1 by omega), decide_eq_true (show (homeAt x1 (Int.tmod p x0) p).2.1 < (x1.length : Int) by omega), decide_eq_true fa.1, Bool.and_self, cond_true, e2]
    by_cases h2 : (frameAt x1 (homeAt x1 (Int.tmod p x0) p).2.1 p).1 = 2
    · simp only [decide_eq_true h2, cond_true, if_pos h2, List.length_nil, Nat.zero_add, (blt_iff _ _).2 (show (frameAt x1 (homeAt x1 (Int.tmod p x0) p).2.1 p).2.1.length < 17592186044416 by omega), List.nil_append, Option.bind_some]
      exact ⟨trivial, fk⟩
    · have c1 := comeL_ok w h (Int.tmod p x0) (homeAt x1 (Int.tmod p x0) p).2.1 f.t0 f.t2 (by omega) o1
      have c2 := comeL_ok w h (homeAt x1 (Int.tmod p x0) p).2.1 (Int.tmod p x0) (by omega) o1 f.t0 f.t2
      simp only [decide_eq_false h2, cond_false, if_neg h2, specL7 w h (Int.tmod p x0) (homeAt x1 (Int.tmod p x0) p).2.1 f.t0 f.t2 (by omega) o1, specL7 w h (homeAt x1 (Int.tmod p x0) p).2.1 (Int.tmod p x0) (by omega) o1 f.t0 f.t2, Option.bind_some, specLast _ c1.1 c1.2, specLast _ c2.1 c2.2]
      cases hf : (comeL x1 (Int.tmod p x0) (homeAt x1 (Int.tmod p x0) p).2.1).reverse.find? (qM 3 p) with
      | some m =>
        have hm : m ∈ comeL x1 (Int.tmod p x0) (homeAt x1 (Int.tmod p x0) p).2.1 := List.mem_reverse.1 (List.mem_of_find?_eq_some hf)
        have hw := come_words h w _ _ f.t0 f.t2 (by omega) o1 m hm (.inl (qM_kind (List.find?_some hf)))
        simp only [wordsOf, hw, decide_eq_true (show (0 : Int) < ((4 : Nat) : Int) by omega), cond_true]
        exact ⟨trivial, by omega⟩
      | none =>
        simp only [wordsOf, List.length_nil, decide_eq_false (show ¬ (0 : Int) < ((0 : Nat) : Int) by omega), cond_false]
        refine ⟨rfl, ?_⟩
        cases hg : (comeL x1 (homeAt x1 (Int.tmod p x0) p).2.1 (Int.tmod p x0)).reverse.find? (qM 7 p) with
        | some m => exact c2.2 m (List.mem_reverse.1 (List.mem_of_find?_eq_some hg))
        | none => exact Nat.zero_le _
theorem implTruth_ {x0 : Int} {x1 : List NodeT} {x2 : List PacketT} (h : WorldK x1 x2) (w : WorldFacts x0 x1 x2) (p : Int) (p0 : 0 ≤ p) (p1 : p ≤ 5) : f_impl_truth x0 x1 x2 p = some (truthL x0 x1 p) := by
  have f := truthFacts h w p p0 p1
  have hl := w.l1
  have hb := f.hb
  have o1 := f.o1
  unfold f_impl_truth truthL
  simp only [decide_eq_false f.k, cond_false, decide_eq_true f.t0, decide_eq_true f.t1, decide_eq_true p0, decide_eq_true f.hl, Bool.and_self, cond_true]
  have e1 : (x1.getD (Int.tmod p x0).toNat (0, [], [], [], [])).2.2.1.getD p.toNat ([], 0, [], false, 0, false, 0, []) = homeAt x1 (Int.tmod p x0) p := rfl
  rw [e1]
  by_cases h0 : (homeAt x1 (Int.tmod p x0) p).2.1 < 0
  · simp only [decide_eq_true h0, cond_true, if_pos h0, f_slices_Clone_int_int, Nat.zero_add, (blt_iff _ _).2 (show (homeAt x1 (Int.tmod p x0) p).1.length < 17592186044416 by omega), Option.bind_some]
  · have fa := frameAt_ok h w (homeAt x1 (Int.tmod p x0) p).2.1 p (by omega) (by omega) p0 p1
    have e2 : (x1.getD (homeAt x1 (Int.tmod p x0) p).2.1.toNat (0, [], [], [], [])).2.1.getD p.toNat (0, [], false) = frameAt x1 (homeAt x1 (Int.tmod p x0) p).2.1 p := rfl
    have fk : (frameAt x1 (homeAt x1 (Int.tmod p x0) p).2.1 p).2.1.length ≤ 1048576 := fa.2.1
    simp only [decide_eq_false h0, cond_false, if_neg h0, decide_eq_true (show 0 ≤ (homeAt x1 (Int.tmod p x0) p).2.1 by omega), decide_eq_true (show (homeAt x1 (Int.tmod p x0) p).2.1 < (x1.length : Int) by omega), decide_eq_true fa.1, Bool.and_self, cond_true, e2]
    by_cases h2 : (frameAt x1 (homeAt x1 (Int.tmod p x0) p).2.1 p).1 = 2
    · simp only [decide_eq_true h2, cond_true, if_pos h2, f_slices_Clone_int_int, Nat.zero_add, (blt_iff _ _).2 (show (frameAt x1 (homeAt x1 (Int.tmod p x0) p).2.1 p).2.1.length < 17592186044416 by omega), Option.bind_some]
    · have c1 := comeL_ok w h (Int.tmod p x0) (homeAt x1 (Int.tmod p x0) p).2.1 f.t0 f.t2 (by omega) o1
      have c2 := comeL_ok w h (homeAt x1 (Int.tmod p x0) p).2.1 (Int.tmod p x0) (by omega) o1 f.t0 f.t2
      have r1 : f_slices_Reverse_impl_Msg_impl_Msg (comeL x1 (Int.tmod p x0) (homeAt x1 (Int.tmod p x0) p).2.1) = some (comeL x1 (Int.tmod p x0) (homeAt x1 (Int.tmod p x0) p).2.1).reverse := by
        unfold f_slices_Reverse_impl_Msg_impl_Msg; rw [Nat.ble_eq_true_of_le (by omega)]; rfl
      have r2 : f_slices_Reverse_impl_Msg_impl_Msg (comeL x1 (homeAt x1 (Int.tmod p x0) p).2.1 (Int.tmod p x0)) = some (comeL x1 (homeAt x1 (Int.tmod p x0) p).2.1 (Int.tmod p x0)).reverse := by
        unfold f_slices_Reverse_impl_Msg_impl_Msg; rw [Nat.ble_eq_true_of_le (by omega)]; rfl
      simp only [decide_eq_false h2, cond_false, if_neg h2, implL7 w h (Int.tmod p x0) (homeAt x1 (Int.tmod p x0) p).2.1 f.t0 f.t2 (by omega) o1, r1, Option.bind_some]
      have hl1 : (comeL x1 (Int.tmod p x0) (homeAt x1 (Int.tmod p x0) p).2.1).reverse.length ≤ 1048576 := by rw [List.length_reverse]; exact c1.1
      have hl2 : (comeL x1 (homeAt x1 (Int.tmod p x0) p).2.1 (Int.tmod p x0)).reverse.length ≤ 1048576 := by rw [List.length_reverse]; exact c2.1
      rcases find_loop (d := ((0 : Int), (0 : Int), false, ([] : List Int))) (F := fun n i => f_impl_truth.l0 n p (Int.tmod p x0) ((comeL x1 (Int.tmod p x0) (homeAt x1 (Int.tmod p x0) p).2.1).reverse.length : Int) i x0 x1 x2 (homeAt x1 (Int.tmod p x0) p).1 (homeAt x1 (Int.tmod p x0) p).2.1 (homeAt x1 (Int.tmod p x0) p).2.2.1 (homeAt x1 (Int.tmod p x0) p).2.2.2.1 (homeAt x1 (Int.tmod p x0) p).2.2.2.2.1 (homeAt x1 (Int.tmod p x0) p).2.2.2.2.2.1 (homeAt x1 (Int.tmod p x0) p).2.2.2.2.2.2.1 (homeAt x1 (Int.tmod p x0) p).2.2.2.2.2.2.2 (comeL x1 (Int.tmod p x0) (homeAt x1 (Int.tmod p x0) p).2.1).reverse) (q := qM 3 p)
        (b := (p, Int.tmod p x0, x0, x1, x2, (homeAt x1 (Int.tmod p x0) p).1, (homeAt x1 (Int.tmod p x0) p).2.1, (homeAt x1 (Int.tmod p x0) p).2.2.1, (homeAt x1 (Int.tmod p x0) p).2.2.2.1, (homeAt x1 (Int.tmod p x0) p).2.2.2.2.1, (homeAt x1 (Int.tmod p x0) p).2.2.2.2.2.1, (homeAt x1 (Int.tmod p x0) p).2.2.2.2.2.2.1, (homeAt x1 (Int.tmod p x0) p).2.2.2.2.2.2.2)) (comeL x1 (Int.tmod p x0) (homeAt x1 (Int.tmod p x0) p).2.1).reverse hl1
        (fun n i hi => by simp only [f_impl_truth.l0, decide_eq_false hi, cond_false])
        (fun n i a0 a1 => by
          simp only [f_impl_truth.l0, decide_eq_true a0, decide_eq_true a1, cond_true, Bool.and_self, w64 (show -9223372036854775808 ≤ i + 1 by omega) (by omega)]
          unfold qM
          generalize (comeL x1 (Int.tmod p x0) (homeAt x1 (Int.tmod p x0) p).2.1).reverse.getD i.toNat (0, 0, false, []) = m
          cases decide (m.1 = 3) <;> cases decide (m.2.1 = p) <;> cases m.2.2.1 <;> rfl) with ⟨g1, g2⟩ | ⟨i, g1, g2⟩
      · rw [g2, g1]
        simp only [Option.bind_some, cs, implL7 w h (homeAt x1 (Int.tmod p x0) p).2.1 (Int.tmod p x0) (by omega) o1 f.t0 f.t2, r2]
        rcases find_loop (d := ((0 : Int), (0 : Int), false, ([] : List Int))) (F := fun n i => f_impl_truth.l1 n p ((comeL x1 (homeAt x1 (Int.tmod p x0) p).2.1 (Int.tmod p x0)).reverse.length : Int) i (comeL x1 (homeAt x1 (Int.tmod p x0) p).2.1 (Int.tmod p x0)).reverse) (q := qM 7 p) (b := ()) (comeL x1 (homeAt x1 (Int.tmod p x0) p).2.1 (Int.tmod p x0)).reverse hl2
          (fun n i hi => by simp only [f_impl_truth.l1, decide_eq_false hi, cond_false])
          (fun n i a0 a1 => by
            simp only [f_impl_truth.l1, decide_eq_true a0, decide_eq_true a1, cond_true, Bool.and_self, w64 (show -9223372036854775808 ≤ i + 1 by omega) (by omega)]
            unfold qM
            generalize (comeL x1 (homeAt x1 (Int.tmod p x0) p).2.1 (Int.tmod p x0)).reverse.getD i.toNat (0, 0, false, []) = m
            cases decide (m.1 = 7) <;> cases decide (m.2.1 = p) <;> cases m.2.2.1 <;> rfl) with ⟨k1, k2⟩ | ⟨i, k1, k2⟩
        · rw [k2, k1]
          rfl
        · rw [k2, k1]
          rfl
      · rw [g2, g1]
        rfl
theorem ix_loop {β : Type} {F : Nat → Int → Option (Bool ⊕ β)} {q : Int → Bool} {b : β} (m : Nat) (hm : m ≤ 1048576) (h0 : ∀ n, F (n + 1) (m : Int) = some (.inr b))
    (h1 : ∀ n (i : Int), 0 ≤ i → i < (m : Int) → F (n + 1) i = bif q i then F n (i + 1) else some (.inl false)) : F N 0 = some (bif (List.range m).all (fun j => q (j : Int)) then .inr b else .inl false) := by
  have step : ∀ (k n j : Nat), j + k = m → k < n → F n (j : Int) = some (bif (List.range' j k).all (fun j => q (j : Int)) then .inr b else .inl false) := by
    intro k
    induction k with
    | zero =>
      intro n j hj hn
      obtain ⟨n, rfl⟩ := succ_fuel hn
      obtain rfl : j = m := by omega
      rw [h0]; rfl
    | succ k ih =>
      intro n j hj hn
      obtain ⟨n, rfl⟩ := succ_fuel hn
      rw [h1 n j (by omega) (by omega), List.range'_succ, List.all_cons]
      cases q (j : Int) with
      | false => rfl
      | true =>
        rw [cond_true, Bool.true_and, show ((j : Int) + 1) = ((j + 1 : Nat) : Int) by omega]
        exact ih n (j + 1) (by omega) (by omega)
  have := step m N 0 (by omega) (Nat.lt_of_le_of_lt hm (Nat.lt_trans (by omega) big))
  rw [← List.range_eq_range'] at this
  exact this
theorem frame_words (e : FrameT) (hk : okFrame e) (h : tF e = true) (h0 : ¬ e.1 = 0) : e.2.1.length = 4 := by
  have hk' : e.2.1.length ≤ 1048576 := hk
  unfold tF f_spec_FrameOk at h
  simp only [decide_eq_false h0, cond_false, in_rng, Option.bind_some, specWords _ hk'] at h
  cases hr : rng e.1 2 with
  | false => rw [hr] at h; cases h
  | true =>
    rw [hr] at h
    simp only [cond_true, Option.bind_some, Option.getD_some, Bool.and_eq_true, decide_eq_true_eq] at h
    omega
theorem all_eqI (a b : List Int) (h : a.length = b.length) : ((List.range a.length).all fun j => decide (a.getD ((j : Int).toNat) 0 = b.getD ((j : Int).toNat) 0)) = decide (a = b) := by
  have e : ((List.range a.length).all fun j => decide (a.getD ((j : Int).toNat) 0 = b.getD ((j : Int).toNat) 0)) = true ↔ a = b := by
    rw [List.all_eq_true]
    constructor
    · intro hx
      refine List.ext_getElem h fun i h1 h2 => ?_
      have := of_decide_eq_true (hx i (List.mem_range.2 h1))
      rw [Int.toNat_natCast, List.getD_eq_getElem?_getD, List.getD_eq_getElem?_getD, List.getElem?_eq_getElem h1, List.getElem?_eq_getElem h2] at this
      exact this
    · rintro rfl i _
      exact decide_eq_true rfl
  by_cases h : a = b
  · rw [e.2 h, decide_eq_true h]
  · rw [decide_eq_false h, ← Bool.not_eq_true]
    exact fun h' => h (e.1 h')
theorem specInts4 (a b : List Int) (ha : a.length = 4) (hb : b.length = 4) : f_spec_l7Ints a b = some (decide (a = b)) := by
  unfold f_spec_l7Ints
  have e := ix_loop (F := fun n i => f_spec_l7Ints.l0 n a b false i) (q := fun i => decide (a.getD i.toNat 0 = b.getD i.toNat 0)) (b := (a, b, false)) a.length (by omega)
    (fun n => by simp only [f_spec_l7Ints.l0, decide_eq_false (show ¬ (a.length : Int) < (a.length : Int) by omega), cond_false])
    (fun n i a0 a1 => by
      simp only [f_spec_l7Ints.l0, decide_eq_true a0, decide_eq_true a1, decide_eq_true (show i < (b.length : Int) by omega), cond_true, Bool.and_self, w64 (show -9223372036854775808 ≤ i + 1 by omega) (by omega)]
      cases decide (a.getD i.toNat 0 = b.getD i.toNat 0) <;> rfl)
  rw [all_eqI a b (by omega)] at e
  rw [e]
  cases h : decide (a = b) with
  | false => rfl
  | true => simp only [cond_true, Option.bind_some, cs, ha, hb, decide_true]
theorem implInts4 (a b : List Int) (ha : a.length = 4) (hb : b.length = 4) : f_slices_Equal_int_int a b = some (decide (a = b)) := by
  unfold f_slices_Equal_int_int
  rw [decide_eq_true (show (a.length : Int) = (b.length : Int) by omega)]
  have e := ix_loop (F := fun n i => f_slices_Equal_int_int.l0 n a b false (a.length : Int) i) (q := fun i => decide (a.getD i.toNat 0 = b.getD i.toNat 0)) (b := false) a.length (by omega)
    (fun n => by simp only [f_slices_Equal_int_int.l0, decide_eq_false (show ¬ (a.length : Int) < (a.length : Int) by omega), cond_false])
    (fun n i a0 a1 => by
      simp only [f_slices_Equal_int_int.l0, decide_eq_true a0, decide_eq_true a1, decide_eq_true (show i < (b.length : Int) by omega), cond_true, Bool.and_self, w64 (show -9223372036854775808 ≤ i + 1 by omega) (by omega)]
      cases decide (a.getD i.toNat 0 = b.getD i.toNat 0) <;> rfl)
  rw [all_eqI a b (by omega)] at e
  simp only [Bool.not_true, cond_false]
  rw [e]
  cases h : decide (a = b) <;> rfl
def frQ (x1 : List NodeT) (p : Int) (t : List Int) (i : Int) : Bool := decide ((frameAt x1 i p).1 = 0) || decide ((frameAt x1 i p).2.1 = t)
def pairQ (x1 : List NodeT) (i j : Int) : Bool := !decide (IntKind.wrap .i64 ((sndAt x1 j i).1 + ((sndAt x1 j i).2.length : Int)) < rcvAt x1 i j)
def saneL (x0 : Int) (x1 : List NodeT) : Bool :=
  ((List.range 6).all fun p => (decide (sumW (cM (p : Int)) x1 = 0) || decide (sumW (cS (p : Int)) x1 = 1)) && (decide (((truthL x0 x1 (p : Int)).length : Int) = 4) && (List.range x1.length).all fun i => frQ x1 (p : Int) (truthL x0 x1 (p : Int)) (i : Int))) &&
  (List.range x1.length).all fun i => (List.range x1.length).all fun j => pairQ x1 (i : Int) (j : Int)
section
variable {x0 : Int} {x1 : List NodeT} {x2 : List PacketT}
theorem specSane1 (h : WorldK x1 x2) (w : WorldFacts x0 x1 x2) (p : Int) (p0 : 0 ≤ p) (p1 : p ≤ 5) (t : List Int) (ht : t.length = 4) (a : Bool) (b : Int) (c : Bool) (l : Int) (d : Bool) : f_spec_Sane.l1 N a p 0 b c x0 x1 x2 p true false x0 x1 x2 p l d x0 x1 x2 t =
    some (bif (List.range x1.length).all (fun i => frQ x1 p t (i : Int)) then .inr (a, p, (x1.length : Int), b, c, x0, x1, x2, p, true, false, x0, x1, x2, p, l, d, (x1.length : Int), x0, false, x0, x1, x2, t) else .inl false) := by
  have hl := w.l1
  exact ix_loop (F := fun n i => f_spec_Sane.l1 n a p i b c x0 x1 x2 p true false x0 x1 x2 p l d x0 x1 x2 t) (q := frQ x1 p t) x1.length h.l1
    (fun n => by simp only [f_spec_Sane.l1, decide_eq_false (show ¬ (x1.length : Int) < x0 by omega), cond_false])
    (fun n i a0 a1 => by
      have h1 := h.l1
      obtain ⟨f1, f2, f3⟩ := frameAt_ok h w i p a0 a1 p0 p1
      have e1 : (x1.getD i.toNat (0, [], [], [], [])).2.1.getD p.toNat (0, [], false) = frameAt x1 i p := rfl
      simp only [f_spec_Sane.l1, decide_eq_true a0, decide_eq_true a1, decide_eq_true (show i < x0 by omega), decide_eq_true p0, decide_eq_true f1, cond_true, Bool.and_self, w64 (show -9223372036854775808 ≤ i + 1 by omega) (by omega), e1]
      unfold frQ
      by_cases g : (frameAt x1 i p).1 = 0
      · simp only [decide_eq_true g, Bool.not_true, cond_false, Bool.true_or, cond_true]
      · simp only [decide_eq_false g, Bool.not_false, cond_true, specInts4 _ t (frame_words _ f2 f3 g) ht, Option.bind_some, Bool.false_or]
        cases decide ((frameAt x1 i p).2.1 = t) <;> rfl)
theorem implSane1 (h : WorldK x1 x2) (w : WorldFacts x0 x1 x2) (p : Int) (p0 : 0 ≤ p) (p1 : p ≤ 5) (t : List Int) (ht : t.length = 4) (j0 : Bool) (j2 : Int) (j3 : Bool) (j4 j5 : Int) (j6 : List NodeT) (j7 : List PacketT) (j8 j9 : Int) (j10 : List NodeT) (j11 : List PacketT) (j12 : Int) (j13 j14 j15 : Bool) (j16 : Int) (j17 j18 : Bool) :
    f_impl_Sane.l1 N j0 p j2 j3 j4 j5 j6 j7 j8 j9 j10 j11 j12 j13 j14 j15 j16 j17 j18 x1 (x1.length : Int) 0 x0 x1 x2 t =
    some (bif (List.range x1.length).all (fun i => frQ x1 p t (i : Int)) then .inr (j0, p, j2, j3, j4, j5, j6, j7, j8, j9, j10, j11, j12, j13, j14, j15, j16, j17, j18, x1, (x1.length : Int), (x1.length : Int), false, x0, x1, x2, t) else .inl false) := by
  have hl := w.l1
  exact ix_loop (F := fun n i => f_impl_Sane.l1 n j0 p j2 j3 j4 j5 j6 j7 j8 j9 j10 j11 j12 j13 j14 j15 j16 j17 j18 x1 (x1.length : Int) i x0 x1 x2 t) (q := frQ x1 p t) x1.length h.l1
    (fun n => by simp only [f_impl_Sane.l1, decide_eq_false (show ¬ (x1.length : Int) < (x1.length : Int) by omega), cond_false])
    (fun n i a0 a1 => by
      have h1 := h.l1
      obtain ⟨f1, f2, f3⟩ := frameAt_ok h w i p a0 a1 p0 p1
      have e1 : (x1.getD i.toNat (0, [], [], [], [])).2.1.getD p.toNat (0, [], false) = frameAt x1 i p := rfl
      simp only [f_impl_Sane.l1, decide_eq_true a0, decide_eq_true a1, decide_eq_true p0, decide_eq_true f1, cond_true, Bool.and_self, w64 (show -9223372036854775808 ≤ i + 1 by omega) (by omega), e1]
      unfold frQ
      by_cases g : (frameAt x1 i p).1 = 0
      · simp only [decide_eq_true g, Bool.not_true, cond_false, Bool.true_or, cond_true]
      · simp only [decide_eq_false g, Bool.not_false, cond_true, implInts4 _ t (frame_words _ f2 f3 g) ht, Option.bind_some, Bool.false_or]
        cases decide ((frameAt x1 i p).2.1 = t) <;> rfl)
theorem specSane0 (h : WorldK x1 x2) (w : WorldFacts x0 x1 x2) (hw : worldOkB x0 x1 x2 = true) (a : Bool) : f_spec_Sane.l0 N a 0 x0 x1 x2 =
    some (bif (List.range 6).all (fun p => (decide (sumW (cM (p : Int)) x1 = 0) || decide (sumW (cS (p : Int)) x1 = 1)) && (decide (((truthL x0 x1 (p : Int)).length : Int) = 4) && (List.range x1.length).all fun i => frQ x1 (p : Int) (truthL x0 x1 (p : Int)) (i : Int))) then .inr (a, x0, x1, x2) else .inl false) := by
  exact ix_loop (F := fun n i => f_spec_Sane.l0 n a i x0 x1 x2) (q := fun p => (decide (sumW (cM p) x1 = 0) || decide (sumW (cS p) x1 = 1)) && (decide (((truthL x0 x1 p).length : Int) = 4) && (List.range x1.length).all fun i => frQ x1 p (truthL x0 x1 p) (i : Int))) 6 (by omega)
    (fun n => by simp only [f_spec_Sane.l0, decide_eq_false (show ¬ ((6 : Nat) : Int) < 6 by omega), cond_false])
    (fun n p a0 a1 => by
      have hp : rng p 5 = true := by unfold rng; rw [decide_eq_true a0, decide_eq_true (show p ≤ 5 by omega)]; rfl
      simp only [f_spec_Sane.l0, decide_eq_true (show p < 6 by omega), cond_true, specAlone x0 x1 x2 p h, aloneB, hw, hp, Bool.true_and, Option.bind_some, (specTruth_ h w p a0 (by omega)).1]
      cases hA : (decide (sumW (cM p) x1 = 0) || decide (sumW (cS p) x1 = 1)) with
      | false => rfl
      | true =>
        by_cases ht : ((truthL x0 x1 p).length : Int) = 4
        · simp only [decide_eq_true ht, Bool.not_true, cond_false, specSane1 h w p a0 (by omega) _ (show (truthL x0 x1 p).length = 4 by omega), Option.bind_some, Bool.true_and]
          cases (List.range x1.length).all fun i => frQ x1 p (truthL x0 x1 p) (i : Int) with
          | false => rfl
          | true => simp only [cond_true, cs, w64 (show -9223372036854775808 ≤ p + 1 by omega) (by omega)]
        · simp only [decide_eq_false ht, Bool.not_true, Bool.not_false, cond_false, cond_true, Bool.false_and, Bool.and_false])
theorem implSane0 (h : WorldK x1 x2) (w : WorldFacts x0 x1 x2) (a : Bool) : f_impl_Sane.l0 N a 0 x0 x1 x2 =
    some (bif (List.range 6).all (fun p => (decide (sumW (cM (p : Int)) x1 = 0) || decide (sumW (cS (p : Int)) x1 = 1)) && (decide (((truthL x0 x1 (p : Int)).length : Int) = 4) && (List.range x1.length).all fun i => frQ x1 (p : Int) (truthL x0 x1 (p : Int)) (i : Int))) then .inr (a, x0, x1, x2) else .inl false) := by
  exact ix_loop (F := fun n i => f_impl_Sane.l0 n a i x0 x1 x2) (q := fun p => (decide (sumW (cM p) x1 = 0) || decide (sumW (cS p) x1 = 1)) && (decide (((truthL x0 x1 p).length : Int) = 4) && (List.range x1.length).all fun i => frQ x1 p (truthL x0 x1 p) (i : Int))) 6 (by omega)
    (fun n => by simp only [f_impl_Sane.l0, decide_eq_false (show ¬ ((6 : Nat) : Int) < 6 by omega), cond_false])
    (fun n p a0 a1 => by
      simp only [f_impl_Sane.l0, decide_eq_true (show p < 6 by omega), cond_true, implAlone_ h w p a0 (by omega), Option.bind_some, implTruth_ h w p a0 (by omega)]
      cases hA : (decide (sumW (cM p) x1 = 0) || decide (sumW (cS p) x1 = 1)) with
      | false => rfl
      | true =>
        by_cases ht : ((truthL x0 x1 p).length : Int) = 4
        · simp only [decide_eq_true ht, Bool.not_true, cond_false, implSane1 h w p a0 (by omega) _ (show (truthL x0 x1 p).length = 4 by omega), Option.bind_some, Bool.true_and]
          cases (List.range x1.length).all fun i => frQ x1 p (truthL x0 x1 p) (i : Int) with
          | false => rfl
          | true => simp only [cond_true, cs, w64 (show -9223372036854775808 ≤ p + 1 by omega) (by omega)]
        · simp only [decide_eq_false ht, Bool.not_true, Bool.not_false, cond_false, cond_true, Bool.false_and, Bool.and_false])
theorem pair_in (w : WorldFacts x0 x1 x2) (i j : Int) (i0 : 0 ≤ i) (i1 : i < (x1.length : Int)) (j0 : 0 ≤ j) (j1 : j < (x1.length : Int)) : i < ((x1.getD j.toNat (0, [], [], [], [])).2.2.2.1.length : Int) ∧ j < ((x1.getD i.toNat (0, [], [], [], [])).2.2.2.2.length : Int) := by
  have hl := w.l1
  have qj := (worldAt w j j0 j1).l3
  have qi := (worldAt w i i0 i1).l4
  exact ⟨by omega, by omega⟩
theorem specSane3 (h : WorldK x1 x2) (w : WorldFacts x0 x1 x2) (i : Int) (i0 : 0 ≤ i) (i1 : i < (x1.length : Int)) (a : Bool) (b c : Int) (d : Bool) : f_spec_Sane.l3 N a i 0 b c d x0 x1 x2 =
    some (bif (List.range x1.length).all (fun j => pairQ x1 i (j : Int)) then .inr (a, i, (x1.length : Int), b, c, d, (x1.length : Int), x0, false, x0, x1, x2) else .inl false) := by
  have hl := w.l1
  exact ix_loop (F := fun n j => f_spec_Sane.l3 n a i j b c d x0 x1 x2) (q := pairQ x1 i) x1.length h.l1
    (fun n => by simp only [f_spec_Sane.l3, decide_eq_false (show ¬ (x1.length : Int) < x0 by omega), cond_false])
    (fun n j a0 a1 => by
      have h1 := h.l1
      obtain ⟨f1, f2⟩ := pair_in w i j i0 i1 a0 a1
      simp only [f_spec_Sane.l3, decide_eq_true (show j < x0 by omega), decide_eq_true i0, decide_eq_true i1, decide_eq_true a0, decide_eq_true a1, decide_eq_true f1, decide_eq_true f2, cond_true, Bool.and_self, w64 (show -9223372036854775808 ≤ j + 1 by omega) (by omega)]
      unfold pairQ sndAt rcvAt
      cases decide (IntKind.wrap .i64 (((x1.getD j.toNat (0, [], [], [], [])).2.2.2.1.getD i.toNat (0, [])).1 + (((x1.getD j.toNat (0, [], [], [], [])).2.2.2.1.getD i.toNat (0, [])).2.length : Int)) < (x1.getD i.toNat (0, [], [], [], [])).2.2.2.2.getD j.toNat 0) <;> rfl)
theorem specSane2 (h : WorldK x1 x2) (w : WorldFacts x0 x1 x2) (a : Bool) : f_spec_Sane.l2 N a 0 x0 x1 x2 =
    some (bif (List.range x1.length).all (fun i => (List.range x1.length).all fun j => pairQ x1 (i : Int) (j : Int)) then .inr a else .inl false) := by
  have hl := w.l1
  exact ix_loop (F := fun n i => f_spec_Sane.l2 n a i x0 x1 x2) (q := fun i => (List.range x1.length).all fun j => pairQ x1 i (j : Int)) x1.length h.l1
    (fun n => by simp only [f_spec_Sane.l2, decide_eq_false (show ¬ (x1.length : Int) < x0 by omega), cond_false])
    (fun n i a0 a1 => by
      have h1 := h.l1
      simp only [f_spec_Sane.l2, decide_eq_true (show i < x0 by omega), cond_true, specSane3 h w i a0 a1, Option.bind_some]
      cases (List.range x1.length).all fun j => pairQ x1 i (j : Int) with
      | false => rfl
      | true => simp only [cond_true, cs, w64 (show -9223372036854775808 ≤ i + 1 by omega) (by omega)])
theorem implSane3 (h : WorldK x1 x2) (w : WorldFacts x0 x1 x2) (i : Int) (i0 : 0 ≤ i) (i1 : i < (x1.length : Int)) (a : Bool) (j706 : List NodeT) (j707 : Int) (j708 : Int) (j709 : Bool) (j710 : Int) (j711 : Int) (j712 : List FrameT) (j713 : List HomeT) (j714 : List SenderT) (j715 : List Int) (j719 : Int) (j720 : List NodeT) (j721 : List PacketT) (j722 : Int) (j723 : List FrameT) (j724 : List HomeT) (j725 : List SenderT) : f_impl_Sane.l3 N a i j706 j707 j708 j709 j710 j711 j712 j713 j714 j715 x1 (x1.length : Int) 0 j719 j720 j721 j722 j723 j724 j725 (x1.getD i.toNat (0, [], [], [], [])).2.2.2.2 =
    some (bif (List.range x1.length).all (fun j => pairQ x1 i (j : Int)) then .inr (a, i, j706, j707, j708, j709, j710, j711, j712, j713, j714, j715, x1, (x1.length : Int), (x1.length : Int), false, j719, j720, j721, j722, j723, j724, j725, (x1.getD i.toNat (0, [], [], [], [])).2.2.2.2) else .inl false) := by
  have hl := w.l1
  exact ix_loop (F := fun n j => f_impl_Sane.l3 n a i j706 j707 j708 j709 j710 j711 j712 j713 j714 j715 x1 (x1.length : Int) j j719 j720 j721 j722 j723 j724 j725 (x1.getD i.toNat (0, [], [], [], [])).2.2.2.2) (q := pairQ x1 i) x1.length h.l1
    (fun n => by simp only [f_impl_Sane.l3, decide_eq_false (show ¬ (x1.length : Int) < (x1.length : Int) by omega), cond_false])
    (fun n j a0 a1 => by
      have h1 := h.l1
      obtain ⟨f1, f2⟩ := pair_in w i j i0 i1 a0 a1
      simp only [f_impl_Sane.l3, decide_eq_true i0, decide_eq_true i1, decide_eq_true a0, decide_eq_true a1, decide_eq_true f1, decide_eq_true f2, cond_true, Bool.and_self, w64 (show -9223372036854775808 ≤ j + 1 by omega) (by omega)]
      unfold pairQ sndAt rcvAt
      cases decide (IntKind.wrap .i64 (((x1.getD j.toNat (0, [], [], [], [])).2.2.2.1.getD i.toNat (0, [])).1 + (((x1.getD j.toNat (0, [], [], [], [])).2.2.2.1.getD i.toNat (0, [])).2.length : Int)) < (x1.getD i.toNat (0, [], [], [], [])).2.2.2.2.getD j.toNat 0) <;> rfl)
theorem implSane2 (h : WorldK x1 x2) (w : WorldFacts x0 x1 x2) (a : Bool) (b : Int) (c : List PacketT) : f_impl_Sane.l2 N a x1 (x1.length : Int) 0 b x1 c =
    some (bif (List.range x1.length).all (fun i => (List.range x1.length).all fun j => pairQ x1 (i : Int) (j : Int)) then .inr a else .inl false) := by
  exact ix_loop (F := fun n i => f_impl_Sane.l2 n a x1 (x1.length : Int) i b x1 c) (q := fun i => (List.range x1.length).all fun j => pairQ x1 i (j : Int)) x1.length h.l1
    (fun n => by simp only [f_impl_Sane.l2, decide_eq_false (show ¬ (x1.length : Int) < (x1.length : Int) by omega), cond_false])
    (fun n i a0 a1 => by
      have h1 := h.l1
      simp only [f_impl_Sane.l2, decide_eq_true a0, decide_eq_true a1, Bool.and_self, cond_true, implSane3 h w i a0 a1, Option.bind_some]
      cases (List.range x1.length).all fun j => pairQ x1 i (j : Int) with
      | false => rfl
      | true => simp only [cond_true, cs, w64 (show -9223372036854775808 ≤ i + 1 by omega) (by omega)])
theorem same_sane (x0 : Int) (x1 : List NodeT) (x2 : List PacketT) (h : WorldK x1 x2) : f_spec_Sane x0 x1 x2 = some (worldOkB x0 x1 x2 && saneL x0 x1) ∧ f_impl_Sane x0 x1 x2 = some (worldOkB x0 x1 x2 && saneL x0 x1) := by
  unfold f_spec_Sane f_impl_Sane
  rw [implWorldOk x0 x1 x2 h]
  cases hw : worldOkB x0 x1 x2 with
  | false =>
    refine ⟨?_, rfl⟩
    obtain ⟨n, hn⟩ : ∃ n, N = n + 1 := ⟨N - 1, rfl⟩
    rw [hn]
    simp only [f_spec_Sane.l0, decide_eq_true (show (0 : Int) < 6 by omega), cond_true, specAlone x0 x1 x2 0 h, aloneB, hw, Bool.false_and, Option.bind_some, Bool.not_false, cs]
  | true =>
    have w := worldFacts x0 x1 x2 hw
    simp only [Option.bind_some, Bool.not_true, cond_false, specSane0 h w hw, implSane0 h w, Bool.true_and]
    unfold saneL
    cases ((List.range 6).all fun p => (decide (sumW (cM (p : Int)) x1 = 0) || decide (sumW (cS (p : Int)) x1 = 1)) && (decide (((truthL x0 x1 (p : Int)).length : Int) = 4) && (List.range x1.length).all fun i => frQ x1 (p : Int) (truthL x0 x1 (p : Int)) (i : Int))) with
    | false => exact ⟨rfl, rfl⟩
    | true =>
      simp only [cond_true, cs, specSane2 h w, implSane2 h w, Option.bind_some, Bool.true_and]
      cases ((List.range x1.length).all fun i => (List.range x1.length).all fun j => pairQ x1 (i : Int) (j : Int)) <;> exact ⟨rfl, rfl⟩
end
theorem sane (x0 : Int) (x1 : List NodeT) (x2 : List PacketT) (h : WorldB x1 x2) : f_laws_FnExactSane x0 x1 x2 = some true := by
  unfold f_laws_FnExactSane
  rcases szWorld x0 x1 x2 1048576 (by omega) (by omega) h with e | ⟨l, e, l0, l1, k⟩
  · rw [e]; rfl
  · obtain ⟨k1, k2⟩ := same_sane x0 x1 x2 k
    simp only [e, Option.bind_some, decide_eq_false (show ¬ l < 0 by omega), cond_false, toWorld_self _ _ _ k, k1, k2, beq_self_eq_true, Bool.not_true, eqWorld_self _ _ _ k]
theorem plain : Pure := fun x h => sane x.1 x.2.1 x.2.2 (worldBig h.2.1 h.2.2)
end Go.Abs
