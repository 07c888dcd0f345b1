/- The law FnExactHomeOk returns true for every home and number of frames: the program's HomeOk answers as the reference's, and turns nothing that it was handed. A home of more than 2^20 things is not asked for. -/
import Derived.Test.YtbecooalhanmeaaMFnExactHomeOk
import Derived.Laws.BitsLemmas
namespace Go.Abs
open Go.RowKit

theorem w64 {n : Int} (h0 : -9223372036854775808 ≤ n) (h1 : n ≤ 9223372036854775807) : IntKind.wrap .i64 n = n := by
  rw [IntKind.wrap_i64]
  omega
theorem succ_fuel {n d : Nat} (h : d < n) : ∃ m, n = m + 1 := ⟨n - 1, by omega⟩
theorem big : (1048577 : Nat) < N := by decide
theorem szIntS (x : List Int) (left : Int) (h0 : 0 ≤ left) (h1 : left ≤ 1048576) (hx : x.length ≤ 9223372036854775807) :
    (f_laws_szIntS x left = some (-1)) ∨ (f_laws_szIntS x left = some (left - x.length) ∧ (x.length : Int) ≤ left) := by
  unfold f_laws_szIntS
  rw [w64 (by omega) (by omega)]
  by_cases h : left - (x.length : Int) < 0
  · rw [decide_eq_true h]; exact .inl rfl
  · rw [decide_eq_false h]; exact .inr ⟨rfl, by omega⟩
def rng (x m : Int) : Bool := decide ((0 : Int) ≤ x) && decide (x ≤ m)
theorem in_rng (x m : Int) : f_spec_l1In x 0 m = some (rng x m) := by
  unfold f_spec_l1In rng
  cases decide ((0 : Int) ≤ x) <;> rfl
theorem from_rng (x m : Int) : f_impl_from x 0 m = some (rng x m) := by
  unfold f_impl_from rng
  cases decide ((0 : Int) ≤ x) <;> rfl
theorem mem_getD {α : Type} (x : List α) (d : α) (i : Int) (h0 : 0 ≤ i) (h1 : i < x.length) : x.getD i.toNat d ∈ x := by
  have hlt : i.toNat < x.length := by omega
  rw [List.getD_eq_getElem?_getD, List.getElem?_eq_getElem hlt]
  exact List.getElem_mem hlt
theorem drop_getD {α : Type} (x : List α) (d : α) (i : Int) (h0 : 0 ≤ i) (h1 : i < x.length) : x.drop i.toNat = x.getD i.toNat d :: x.drop (i + 1).toNat := by
  have hlt : i.toNat < x.length := by omega
  have e : (i + 1).toNat = i.toNat + 1 := by omega
  rw [e, List.drop_eq_getElem_cons hlt, List.getD_eq_getElem?_getD, List.getElem?_eq_getElem hlt]
  rfl
theorem to_gen {α : Type} {d : α} {F : Nat → List α → Int → List α → Option (List α)} {g : α → Option α}
    (hs : ∀ n x i y, F (n + 1) x i y = bif decide (i < (x.length : Int)) then (bif (decide ((0 : Int) ≤ i) && decide (i < (x.length : Int))) then (g (x.getD i.toNat d)).bind fun e => (bif (decide ((0 : Int) ≤ i) && decide (i < (y.length : Int))) then F n x (IntKind.wrap .i64 (i + 1)) (y.set i.toNat e) else none) else none) else some y)
    (x : List α) (hn : x.length ≤ 1048576) (hg : ∀ e ∈ x, g e = some e) (k : Nat) : ∀ (n : Nat) (y : List α) (i : Int), 0 ≤ i → i ≤ x.length → (x.length : Int) - i = k → k < n → y.length = x.length → y.take i.toNat = x.take i.toNat → F n x i y = some x := by
  induction k with
  | zero =>
    intro n y i h0 h1 hd hk hl ht
    obtain ⟨n, rfl⟩ := succ_fuel hk
    rw [hs, decide_eq_false (by omega), cond_false]
    rw [List.take_of_length_le (by omega), List.take_of_length_le (by omega)] at ht
    rw [ht]
  | succ k ih =>
    intro n y i h0 h1 hd hk hl ht
    obtain ⟨n, rfl⟩ := succ_fuel hk
    have hw : IntKind.wrap .i64 (i + 1) = i + 1 := w64 (by omega) (by omega)
    have hlt : i.toNat < x.length := by omega
    rw [hs, decide_eq_true (show i < (x.length : Int) by omega), decide_eq_true h0, decide_eq_true (show i < (y.length : Int) by omega), hw, hg _ (mem_getD x d i h0 (by omega))]
    simp only [cond_true, Bool.and_self, Option.bind_some]
    refine ih n _ (i + 1) (by omega) (by omega) (by omega) (by omega) (by rw [List.length_set]; exact hl) ?_
    have e : (i + 1).toNat = i.toNat + 1 := by omega
    rw [e, List.take_add_one, List.take_add_one, List.take_set, List.getElem?_set_self (by omega), List.getElem?_eq_getElem hlt]
    have : x.getD i.toNat d = x[i.toNat] := by rw [List.getD_eq_getElem?_getD, List.getElem?_eq_getElem hlt]; rfl
    rw [this, List.set_eq_of_length_le (by rw [List.length_take]; omega), ht]
theorem eq_gen {α : Type} {d : α} {F : Nat → List α → List α → Bool → Int → Option (Bool ⊕ Bool)} {q : α → α → Option Bool}
    (hs : ∀ n x y b i, F (n + 1) x y b i = bif decide (i < (x.length : Int)) then (bif (decide ((0 : Int) ≤ i) && decide (i < (x.length : Int))) then (bif (decide ((0 : Int) ≤ i) && decide (i < (y.length : Int))) then (q (x.getD i.toNat d) (y.getD i.toNat d)).bind fun r => (bif (!r) then some (.inl false) else F n x y b (IntKind.wrap .i64 (i + 1))) else none) else none) else some (.inr b))
    (x : List α) (hn : x.length ≤ 1048576) (hq : ∀ e ∈ x, q e e = some true) (b : Bool) (k : Nat) : ∀ (n : Nat) (i : Int), 0 ≤ i → i ≤ x.length → (x.length : Int) - i = k → k < n → F n x x b i = some (.inr b) := by
  induction k with
  | zero =>
    intro n i h0 h1 hd hk
    obtain ⟨n, rfl⟩ := succ_fuel hk
    rw [hs, decide_eq_false (by omega), cond_false]
  | succ k ih =>
    intro n i h0 h1 hd hk
    obtain ⟨n, rfl⟩ := succ_fuel hk
    have hw : IntKind.wrap .i64 (i + 1) = i + 1 := w64 (by omega) (by omega)
    rw [hs, decide_eq_true (show i < (x.length : Int) by omega), decide_eq_true h0, hw, hq _ (mem_getD x d i h0 (by omega))]
    simp only [cond_true, Bool.and_self, Option.bind_some, Bool.not_true, cond_false]
    exact ih n (i + 1) (by omega) (by omega) (by omega) (by omega)
theorem sz_gen {α : Type} {d : α} {F : Nat → List α → Int → Int → Int → Option (Int ⊕ (Int × Int))} {s : α → Int → Option Int} {Ok : α → Prop}
    (hs : ∀ n x l q i, F (n + 1) x l q i = bif decide (i < (x.length : Int)) then (bif (decide ((0 : Int) ≤ i) && decide (i < (x.length : Int))) then (s (x.getD i.toNat d) l).bind fun r => (bif decide (r < 0) then some (.inl (-1)) else F n x r q (IntKind.wrap .i64 (i + 1))) else none) else some (.inr (l, q)))
    (x : List α) (hn : x.length ≤ 1048576) (he : ∀ e ∈ x, ∀ l, 0 ≤ l → l ≤ 1048576 → s e l = some (-1) ∨ ∃ l', s e l = some l' ∧ 0 ≤ l' ∧ l' ≤ l ∧ Ok e) (q : Int) (k : Nat) :
    ∀ (n : Nat) (l i : Int), 0 ≤ l → l ≤ 1048576 → 0 ≤ i → i ≤ x.length → (x.length : Int) - i = k → k < n → F n x l q i = some (.inl (-1)) ∨ ∃ l', F n x l q i = some (.inr (l', q)) ∧ 0 ≤ l' ∧ l' ≤ l ∧ ∀ e ∈ x.drop i.toNat, Ok e := by
  induction k with
  | zero =>
    intro n l i hl0 hl1 h0 h1 hd hk
    obtain ⟨n, rfl⟩ := succ_fuel hk
    rw [hs, decide_eq_false (show ¬ i < (x.length : Int) by omega), cond_false, List.drop_eq_nil_of_le (by omega)]
    exact .inr ⟨l, rfl, hl0, Int.le_refl _, fun e h => by cases h⟩
  | succ k ih =>
    intro n l i hl0 hl1 h0 h1 hd hk
    obtain ⟨n, rfl⟩ := succ_fuel hk
    have hw : IntKind.wrap .i64 (i + 1) = i + 1 := w64 (by omega) (by omega)
    rw [hs, decide_eq_true (show i < (x.length : Int) by omega), decide_eq_true h0, hw]
    simp only [cond_true, Bool.and_self]
    rcases he _ (mem_getD x d i h0 (by omega)) l hl0 hl1 with h | ⟨l', h, a0, a1, a2⟩
    · rw [h]; exact .inl rfl
    · rw [h, Option.bind_some, decide_eq_false (show ¬ l' < 0 by omega), cond_false]
      rcases ih n l' (i + 1) a0 (by omega) (by omega) (by omega) (by omega) (by omega) with h2 | ⟨l2, h2, b0, b1, b2⟩
      · exact .inl h2
      · refine .inr ⟨l2, h2, b0, by omega, fun e hm => ?_⟩
        rw [drop_getD x d i h0 (by omega)] at hm
        rcases List.mem_cons.1 hm with rfl | hm
        · exact a2
        · exact b2 e hm
theorem lt_N {x : Nat} (h : x ≤ 1048576) : x < N := Nat.lt_of_le_of_lt h (Nat.lt_trans (by omega) big)
theorem toIntS_loop (x : List Int) (hn : x.length ≤ 1048576) (d : Nat) : ∀ (n : Nat) (y : List Int) (i : Int), 0 ≤ i → i ≤ x.length → (x.length : Int) - i = d → d < n → y.length = x.length → y.take i.toNat = x.take i.toNat → f_laws_toIntS.l0 n x i y = some x := by
  induction d with
  | zero =>
    intro n y i h0 h1 hd hk hl ht
    obtain ⟨n, rfl⟩ := succ_fuel hk
    simp only [f_laws_toIntS.l0]
    rw [decide_eq_false (by omega), cond_false]
    rw [List.take_of_length_le (by omega), List.take_of_length_le (by omega)] at ht
    rw [ht]
  | succ d ih =>
    intro n y i h0 h1 hd hk hl ht
    obtain ⟨n, rfl⟩ := succ_fuel hk
    have hw : IntKind.wrap .i64 (i + 1) = i + 1 := w64 (by omega) (by omega)
    have hlt : i.toNat < x.length := by omega
    simp only [f_laws_toIntS.l0]
    rw [decide_eq_true (show i < (x.length : Int) by omega), decide_eq_true h0, decide_eq_true (show i < (y.length : Int) by omega), hw]
    simp only [cond_true, Bool.and_self, Option.bind_some]
    refine ih n _ (i + 1) (by omega) (by omega) (by omega) (by omega) (by rw [List.length_set]; exact hl) ?_
    have e : (i + 1).toNat = i.toNat + 1 := by omega
    rw [e, List.take_add_one, List.take_add_one, List.take_set, List.getElem?_set_self (by omega), List.getElem?_eq_getElem hlt]
    have : x.getD i.toNat 0 = x[i.toNat] := by rw [List.getD_eq_getElem?_getD, List.getElem?_eq_getElem hlt]; rfl
    rw [this, List.set_eq_of_length_le (by rw [List.length_take]; omega), ht]
theorem toIntS (x : List Int) (hn : x.length ≤ 1048576) : f_laws_toIntS x = some x := by
  unfold f_laws_toIntS
  rw [decide_eq_true (by omega), show Nat.ble ((x.length : Int).toNat) 17592186044416 = true from Nat.ble_eq_true_of_le (by omega)]
  simp only [Bool.and_self, cond_true]
  rw [toIntS_loop x hn x.length N _ 0 (by omega) (by omega) (by omega) (Nat.lt_of_le_of_lt (by omega) big) (by simp) (by simp)]
  rfl
theorem eqIntS_loop (x : List Int) (hn : x.length ≤ 1048576) (b : Bool) (d : Nat) : ∀ (n : Nat) (i : Int), 0 ≤ i → i ≤ x.length → (x.length : Int) - i = d → d < n → f_laws_eqIntS.l0 n x x b i = some (.inr b) := by
  induction d with
  | zero =>
    intro n i h0 h1 hd hk
    obtain ⟨n, rfl⟩ := succ_fuel hk
    simp only [f_laws_eqIntS.l0]
    rw [decide_eq_false (by omega), cond_false]
  | succ d ih =>
    intro n i h0 h1 hd hk
    obtain ⟨n, rfl⟩ := succ_fuel hk
    have hw : IntKind.wrap .i64 (i + 1) = i + 1 := w64 (by omega) (by omega)
    simp only [f_laws_eqIntS.l0]
    rw [decide_eq_true (show i < (x.length : Int) by omega), decide_eq_true h0, hw]
    simp only [cond_true, Bool.and_self, decide_true, Bool.not_true, cond_false]
    exact ih n (i + 1) (by omega) (by omega) (by omega) (by omega)
theorem eqIntS (x : List Int) (hn : x.length ≤ 1048576) : f_laws_eqIntS x x = some true := by
  unfold f_laws_eqIntS
  simp only [decide_true, Bool.not_true, cond_false]
  rw [eqIntS_loop x hn false x.length N 0 (by omega) (by omega) (by omega) (Nat.lt_of_le_of_lt (by omega) big)]
  rfl
def allW (x : List Int) : Bool := x.all fun w => rng w 65535
theorem drop_step (x : List Int) (i : Int) (h0 : 0 ≤ i) (h1 : i < x.length) : x.drop i.toNat = x.getD i.toNat 0 :: x.drop (i + 1).toNat := by
  have hlt : i.toNat < x.length := by omega
  have e : (i + 1).toNat = i.toNat + 1 := by omega
  rw [e, List.drop_eq_getElem_cons hlt, List.getD_eq_getElem?_getD, List.getElem?_eq_getElem hlt]
  rfl
theorem specWords_loop (x : List Int) (hn : x.length ≤ 1048576) (k : Int) (b : Bool) (d : Nat) : ∀ (n : Nat) (i : Int), 0 ≤ i → i ≤ x.length → (x.length : Int) - i = d → d < n →
    f_spec_l1Words.l0 n x k b i = some (bif allW (x.drop i.toNat) then .inr (x, k, b) else .inl false) := by
  induction d with
  | zero =>
    intro n i h0 h1 hd hk
    obtain ⟨n, rfl⟩ := succ_fuel hk
    simp only [f_spec_l1Words.l0]
    rw [decide_eq_false (by omega), cond_false, List.drop_eq_nil_of_le (by omega)]
    rfl
  | succ d ih =>
    intro n i h0 h1 hd hk
    obtain ⟨n, rfl⟩ := succ_fuel hk
    have hw : IntKind.wrap .i64 (i + 1) = i + 1 := w64 (by omega) (by omega)
    simp only [f_spec_l1Words.l0]
    rw [decide_eq_true (show i < (x.length : Int) by omega), decide_eq_true h0, hw, in_rng, drop_step x i h0 (by omega)]
    simp only [cond_true, Bool.and_self, Option.bind_some]
    unfold allW
    rw [List.all_cons]
    cases hr : rng (x.getD i.toNat 0) 65535 with
    | false => rfl
    | true =>
      simp only [Bool.not_true, cond_false, Bool.true_and]
      exact ih n (i + 1) (by omega) (by omega) (by omega) (by omega)
theorem specWords (x : List Int) (hn : x.length ≤ 1048576) (k : Int) : f_spec_l1Words x k = some (allW x && decide ((x.length : Int) = k)) := by
  unfold f_spec_l1Words
  rw [specWords_loop x hn k false x.length N 0 (by omega) (by omega) (by omega) (Nat.lt_of_le_of_lt (by omega) big)]
  simp only [Int.toNat_zero, List.drop_zero, Option.bind_some]
  cases allW x <;> rfl
theorem implWords_loop (x : List Int) (hn : x.length ≤ 1048576) (q : Int) (d : Nat) : ∀ (n : Nat) (i : Int), 0 ≤ i → i ≤ x.length → (x.length : Int) - i = d → d < n →
    (allW (x.drop i.toNat) = true ∧ f_impl_wordsOk.l0 n x q (x.length : Int) i = some (.inr q)) ∨ (allW (x.drop i.toNat) = false ∧ ∃ j : Int, 0 ≤ j ∧ f_impl_wordsOk.l0 n x q (x.length : Int) i = some (.inl j)) := by
  induction d with
  | zero =>
    intro n i h0 h1 hd hk
    obtain ⟨n, rfl⟩ := succ_fuel hk
    simp only [f_impl_wordsOk.l0]
    rw [decide_eq_false (show ¬ i < (x.length : Int) by omega), cond_false, List.drop_eq_nil_of_le (by omega)]
    exact .inl ⟨rfl, rfl⟩
  | succ d ih =>
    intro n i h0 h1 hd hk
    obtain ⟨n, rfl⟩ := succ_fuel hk
    have hw : IntKind.wrap .i64 (i + 1) = i + 1 := w64 (by omega) (by omega)
    have ih2 := ih n (i + 1) (by omega) (by omega) (by omega) (by omega)
    simp only [f_impl_wordsOk.l0]
    rw [decide_eq_true (show i < (x.length : Int) by omega), decide_eq_true h0, hw, drop_step x i h0 (by omega)]
    unfold f_impl_wordsOk_1 f_impl_isWord
    simp only [cond_true, Bool.and_self, from_rng, Option.bind_some]
    unfold allW at ih2 ⊢
    rw [List.all_cons]
    cases hr : rng (x.getD i.toNat 0) 65535 with
    | false => exact .inr ⟨rfl, i, h0, rfl⟩
    | true =>
      simp only [Bool.not_true, cond_false, Bool.true_and]
      exact ih2
theorem implWords (x : List Int) (hn : x.length ≤ 1048576) (k : Int) : f_impl_wordsOk x k = some (allW x && decide ((x.length : Int) = k)) := by
  unfold f_impl_wordsOk
  have h := implWords_loop x hn 0 x.length N 0 (by omega) (by omega) (by omega) (Nat.lt_of_le_of_lt (by omega) big)
  simp only [Int.toNat_zero, List.drop_zero] at h
  cases decide ((x.length : Int) = k) with
  | false => simp
  | true =>
    rcases h with ⟨h1, h2⟩ | ⟨h1, j, h3, h2⟩
    · simp only [cond_true, h2, Option.bind_some, h1, Bool.and_true]; rfl
    · simp only [cond_true, h2, Option.bind_some, h1, Bool.and_true]
      show some (!(decide ((0 : Int) ≤ j))) = some false
      rw [decide_eq_true h3]; rfl
theorem szBoolS (x : List Bool) (left : Int) (h0 : 0 ≤ left) (h1 : left ≤ 1048576) (hx : x.length ≤ 9223372036854775807) : (f_laws_szBoolS x left = some (-1)) ∨ (f_laws_szBoolS x left = some (left - x.length) ∧ (x.length : Int) ≤ left) := by
  unfold f_laws_szBoolS
  rw [w64 (by omega) (by omega)]
  by_cases h : left - (x.length : Int) < 0
  · rw [decide_eq_true h]; exact .inl rfl
  · rw [decide_eq_false h]; exact .inr ⟨rfl, by omega⟩
theorem szWaitS (x : List (Int × Bool)) (left : Int) (h0 : 0 ≤ left) (h1 : left ≤ 1048576) (hx : x.length ≤ 9223372036854775807) : (f_laws_szWaitS x left = some (-1)) ∨ (f_laws_szWaitS x left = some (left - x.length) ∧ (x.length : Int) ≤ left) := by
  unfold f_laws_szWaitS
  rw [w64 (by omega) (by omega)]
  by_cases h : left - (x.length : Int) < 0
  · rw [decide_eq_true h]; exact .inl rfl
  · rw [decide_eq_false h]; exact .inr ⟨rfl, by omega⟩
structure HomeS (x0 : List Int) (x2 : List Bool) (x7 : List (Int × Bool)) : Prop where
  g0 : x0.length ≤ 1048576
  g2 : x2.length ≤ 1048576
  g7 : x7.length ≤ 1048576
theorem szHome (x0 : List Int) (x1 : Int) (x2 : List Bool) (x3 : Bool) (x4 : Int) (x5 : Bool) (x6 : Int) (x7 : List (Int × Bool)) (left : Int) (h0 : 0 ≤ left) (h1 : left ≤ 1048576) (b0 : x0.length ≤ 9223372036854775807) (b2 : x2.length ≤ 9223372036854775807) (b7 : x7.length ≤ 9223372036854775807) :
    f_laws_szHome x0 x1 x2 x3 x4 x5 x6 x7 left = some (-1) ∨ ∃ l, f_laws_szHome x0 x1 x2 x3 x4 x5 x6 x7 left = some l ∧ 0 ≤ l ∧ l ≤ left ∧ HomeS x0 x2 x7 := by
  unfold f_laws_szHome
  rcases szIntS x0 left h0 h1 b0 with h | ⟨h, k⟩
  · rw [h]; exact .inl rfl
  · rw [h, Option.bind_some, decide_eq_false (by omega), cond_false]
    rcases szBoolS x2 (left - x0.length) (by omega) (by omega) b2 with h' | ⟨h', k'⟩
    · rw [h']; exact .inl rfl
    · rw [h', Option.bind_some, decide_eq_false (by omega), cond_false]
      rcases szWaitS x7 (left - x0.length - x2.length) (by omega) (by omega) b7 with h2 | ⟨h2, k2⟩
      · rw [h2]; exact .inl rfl
      · rw [h2, Option.bind_some, decide_eq_false (by omega), cond_false]
        exact .inr ⟨_, rfl, by omega, by omega, by omega, by omega, by omega⟩
theorem toBoolS (x : List Bool) (hn : x.length ≤ 1048576) : f_laws_toBoolS x = some x := by
  unfold f_laws_toBoolS
  rw [decide_eq_true (by omega), show Nat.ble ((x.length : Int).toNat) 140737488355328 = true from Nat.ble_eq_true_of_le (by omega)]
  simp only [Bool.and_self, cond_true]
  rw [to_gen (d := false) (F := f_laws_toBoolS.l0) (g := some) (fun n x i y => rfl) x hn (fun _ _ => rfl) x.length N _ 0 (by omega) (by omega) (by omega) (lt_N hn) (by simp) (by simp)]
  rfl
theorem toWaitS (x : List (Int × Bool)) (hn : x.length ≤ 1048576) : f_laws_toWaitS x = some x := by
  unfold f_laws_toWaitS
  rw [decide_eq_true (by omega), show Nat.ble ((x.length : Int).toNat) 8796093022208 = true from Nat.ble_eq_true_of_le (by omega)]
  simp only [Bool.and_self, cond_true]
  rw [to_gen (d := ((0 : Int), false)) (F := f_laws_toWaitS.l0) (g := fun e => (f_laws_toWait e.1 e.2).bind fun y => some (y.1, y.2)) (fun n x i y => rfl) x hn (fun _ _ => rfl) x.length N _ 0 (by omega) (by omega) (by omega) (lt_N hn) (by simp) (by simp)]
  rfl
theorem toHome_self (x0 : List Int) (x1 : Int) (x2 : List Bool) (x3 : Bool) (x4 : Int) (x5 : Bool) (x6 : Int) (x7 : List (Int × Bool)) (h : HomeS x0 x2 x7) : f_laws_toHome x0 x1 x2 x3 x4 x5 x6 x7 = some (x0, x1, x2, x3, x4, x5, x6, x7) := by
  unfold f_laws_toHome f_laws_toWait
  simp only [toIntS x0 h.g0, toBoolS x2 h.g2, toWaitS x7 h.g7, Option.bind_some]
theorem eqBoolS (x : List Bool) (hn : x.length ≤ 1048576) : f_laws_eqBoolS x x = some true := by
  unfold f_laws_eqBoolS
  simp only [decide_true, Bool.not_true, cond_false]
  rw [eq_gen (d := false) (F := f_laws_eqBoolS.l0) (q := fun a b => some (a == b)) (fun n x y b i => rfl) x hn (fun e _ => by simp) false x.length N 0 (by omega) (by omega) (by omega) (lt_N hn)]
  rfl
theorem eqWait_self (a : Int) (b : Bool) : f_laws_eqWait a b a b = some true := by
  unfold f_laws_eqWait
  simp
theorem eqWaitS (x : List (Int × Bool)) (hn : x.length ≤ 1048576) : f_laws_eqWaitS x x = some true := by
  unfold f_laws_eqWaitS
  simp only [decide_true, Bool.not_true, cond_false]
  rw [eq_gen (d := ((0 : Int), false)) (F := f_laws_eqWaitS.l0) (q := fun a b => f_laws_eqWait a.1 a.2 b.1 b.2) (fun n x y b i => rfl) x hn (fun e _ => eqWait_self _ _) false x.length N 0 (by omega) (by omega) (by omega) (lt_N hn)]
  rfl
theorem eqHome_self (x0 : List Int) (x1 : Int) (x2 : List Bool) (x3 : Bool) (x4 : Int) (x5 : Bool) (x6 : Int) (x7 : List (Int × Bool)) (g0 : x0.length ≤ 1048576) (g2 : x2.length ≤ 1048576) (g7 : x7.length ≤ 1048576) : f_laws_eqHome x0 x1 x2 x3 x4 x5 x6 x7 x0 x1 x2 x3 x4 x5 x6 x7 = some true := by
  unfold f_laws_eqHome
  simp only [eqIntS x0 g0, eqBoolS x2 g2, eqWaitS x7 g7, eqWait_self, decide_true, beq_self_eq_true, Bool.not_true, cond_false, Option.bind_some]
theorem all_loop {α β : Type} {d : α} {F : Nat → Int → Option (Bool ⊕ β)} {q : α → Bool} {b : β} (x : List α) (hx : x.length ≤ 1048576) (h0 : ∀ n i, ¬ i < (x.length : Int) → F (n + 1) i = some (.inr b))
    (h1 : ∀ n i, 0 ≤ i → i < (x.length : Int) → x.getD i.toNat d ∈ x → F (n + 1) i = bif q (x.getD i.toNat d) then F n (i + 1) else some (.inl false)) : F N 0 = some (bif x.all q then .inr b else .inl false) := by
  have step : ∀ (k n : Nat) (i : Int), 0 ≤ i → i ≤ x.length → (x.length : Int) - i = k → k < n → F n i = some (bif (x.drop i.toNat).all q then .inr b else .inl false) := by
    intro k
    induction k with
    | zero =>
      intro n i a0 a1 hd hn
      obtain ⟨n, rfl⟩ := succ_fuel hn
      rw [h0 n i (by omega), List.drop_eq_nil_of_le (by omega)]
      rfl
    | succ k ih =>
      intro n i a0 a1 hd hn
      obtain ⟨n, rfl⟩ := succ_fuel hn
      rw [h1 n i a0 (by omega) (mem_getD x d i a0 (by omega)), drop_getD x d i a0 (by omega), List.all_cons]
      cases q (x.getD i.toNat d) with
      | false => rfl
      | true => simp only [cond_true, Bool.true_and]; exact ih n (i + 1) (by omega) (by omega) (by omega) (by omega)
  have := step x.length N 0 (by omega) (by omega) (by omega) (Nat.lt_of_le_of_lt hx (Nat.lt_trans (by omega) big))
  simpa using this
theorem any_loop {α β γ : Type} {d : α} {F : Nat → Int → Option (β ⊕ γ)} {q : α → Bool} {g : Int → β} {e : γ} (x : List α) (hx : x.length ≤ 1048576) (h0 : ∀ n i, ¬ i < (x.length : Int) → F (n + 1) i = some (.inr e))
    (h1 : ∀ n i, 0 ≤ i → i < (x.length : Int) → x.getD i.toNat d ∈ x → F (n + 1) i = bif q (x.getD i.toNat d) then F n (i + 1) else some (.inl (g i))) : (x.all q = true ∧ F N 0 = some (.inr e)) ∨ (x.all q = false ∧ ∃ j : Int, 0 ≤ j ∧ j < x.length ∧ F N 0 = some (.inl (g j))) := by
  have step : ∀ (k n : Nat) (i : Int), 0 ≤ i → i ≤ x.length → (x.length : Int) - i = k → k < n → ((x.drop i.toNat).all q = true ∧ F n i = some (.inr e)) ∨ ((x.drop i.toNat).all q = false ∧ ∃ j : Int, 0 ≤ j ∧ j < x.length ∧ F n i = some (.inl (g j))) := by
    intro k
    induction k with
    | zero =>
      intro n i a0 a1 hd hn
      obtain ⟨n, rfl⟩ := succ_fuel hn
      rw [h0 n i (by omega), List.drop_eq_nil_of_le (by omega)]
      exact .inl ⟨rfl, rfl⟩
    | succ k ih =>
      intro n i a0 a1 hd hn
      obtain ⟨n, rfl⟩ := succ_fuel hn
      rw [h1 n i a0 (by omega) (mem_getD x d i a0 (by omega)), drop_getD x d i a0 (by omega), List.all_cons]
      cases q (x.getD i.toNat d) with
      | false => exact .inr ⟨rfl, i, a0, by omega, rfl⟩
      | true => simp only [cond_true, Bool.true_and]; exact ih n (i + 1) (by omega) (by omega) (by omega) (by omega)
  have := step x.length N 0 (by omega) (by omega) (by omega) (Nat.lt_of_le_of_lt hx (Nat.lt_trans (by omega) big))
  simpa using this
def rng2 (a x m : Int) : Bool := decide (a ≤ x) && decide (x ≤ m)
theorem in_rng2 (a x m : Int) : f_spec_l1In x a m = some (rng2 a x m) := by
  unfold f_spec_l1In rng2
  cases decide (a ≤ x) <;> rfl
theorem from_rng2 (a x m : Int) : f_impl_from x a m = some (rng2 a x m) := by
  unfold f_impl_from rng2
  cases decide (a ≤ x) <;> rfl
def homeOkB (x0 : List Int) (x1 : Int) (x2 : List Bool) (x4 x6 : Int) (x7 : List (Int × Bool)) (x8 : Int) : Bool :=
  rng2 1 x8 4 && (allW x0 && decide ((x0.length : Int) = 4)) && rng2 (-1) x1 (x8 - 1) && decide ((x2.length : Int) = x8) && rng2 0 x4 (x8 - 1) && rng2 0 x6 x8 && decide ((x7.length : Int) ≤ 12) && x7.all fun e => rng2 0 e.1 (x8 - 1)
theorem isOf_rng (x k : Int) (h0 : 1 ≤ k) (h1 : k ≤ 4) : f_impl_isOf x k = some (rng2 0 x (k - 1)) := by
  unfold f_impl_isOf
  have e : rng2 1 k 4 = true := by unfold rng2; rw [decide_eq_true h0, decide_eq_true h1]; rfl
  simp only [from_rng2, e, cond_true, w64 (show -9223372036854775808 ≤ k - 1 by omega) (by omega), Option.bind_some]
theorem bif_and {α : Type} (a b : Bool) (x y : α) : (bif a then (bif b then x else y) else y) = bif a && b then x else y := by cases a <;> rfl
theorem specHomeOk (x0 : List Int) (x1 : Int) (x2 : List Bool) (x3 : Bool) (x4 : Int) (x5 : Bool) (x6 : Int) (x7 : List (Int × Bool)) (x8 : Int) (h : HomeS x0 x2 x7) : f_spec_HomeOk x0 x1 x2 x3 x4 x5 x6 x7 x8 = some (homeOkB x0 x1 x2 x4 x6 x7 x8) := by
  unfold f_spec_HomeOk homeOkB
  rw [in_rng2]
  cases hr : rng2 1 x8 4 with
  | false => rfl
  | true =>
    have hr' := hr
    unfold rng2 at hr'
    simp only [Bool.and_eq_true, decide_eq_true_eq] at hr'
    have hl := all_loop (d := ((0 : Int), false)) (F := fun n i => f_spec_HomeOk.l0 n x8 false i x0 x1 x2 x3 x4 x5 x6 x7) (q := fun e => rng2 0 e.1 (x8 - 1)) (b := false) x7 h.g7
      (fun n i hi => by simp only [f_spec_HomeOk.l0, decide_eq_false hi, cond_false])
      (fun n i h0 h1 _ => by
        have := h.g7
        simp only [f_spec_HomeOk.l0, decide_eq_true h1, decide_eq_true h0, cond_true, Bool.and_self, in_rng2, Option.bind_some, w64 (show -9223372036854775808 ≤ x8 - 1 by omega) (by omega), w64 (show -9223372036854775808 ≤ i + 1 by omega) (by omega)]
        cases rng2 0 ((x7.getD i.toNat (0, false)).1) (x8 - 1) <;> rfl)
    simp only [in_rng2, specWords x0 h.g0, Option.bind_some, w64 (show -9223372036854775808 ≤ x8 - 1 by omega) (by omega), hl]
    cases allW x0 && decide ((x0.length : Int) = 4) <;> cases rng2 (-1) x1 (x8 - 1) <;> cases decide ((x2.length : Int) = x8) <;> cases rng2 0 x4 (x8 - 1) <;> cases rng2 0 x6 x8 <;> try rfl
    by_cases h12 : (x7.length : Int) ≤ 12
    · rw [decide_eq_true h12, decide_eq_false (by omega)]
      cases x7.all fun e => rng2 0 e.1 (x8 - 1) <;> rfl
    · rw [decide_eq_false h12, decide_eq_true (by omega)]; rfl
theorem implHomeOk (x0 : List Int) (x1 : Int) (x2 : List Bool) (x3 : Bool) (x4 : Int) (x5 : Bool) (x6 : Int) (x7 : List (Int × Bool)) (x8 : Int) (h : HomeS x0 x2 x7) : f_impl_HomeOk x0 x1 x2 x3 x4 x5 x6 x7 x8 = some (homeOkB x0 x1 x2 x4 x6 x7 x8) := by
  unfold f_impl_HomeOk homeOkB
  rw [from_rng2]
  cases hr : rng2 1 x8 4 with
  | false => rfl
  | true =>
    have hr' := hr
    unfold rng2 at hr'
    simp only [Bool.and_eq_true, decide_eq_true_eq] at hr'
    have hl := any_loop (d := ((0 : Int), false)) (F := fun n i => f_impl_HomeOk.l0 n x7 0 (x7.length : Int) i x0 x1 x2 x3 x4 x5 x6 x7 x8) (q := fun e => rng2 0 e.1 (x8 - 1)) (g := fun i => (i, x0, x1, x2, x3, x4, x5, x6, x7, x8)) (e := (0, x0, x1, x2, x3, x4, x5, x6, x7, x8)) x7 h.g7
      (fun n i hi => by simp only [f_impl_HomeOk.l0, decide_eq_false hi, cond_false])
      (fun n i h0 h1 _ => by
        have := h.g7
        simp only [f_impl_HomeOk.l0, f_impl_HomeOk_1, decide_eq_true h1, decide_eq_true h0, cond_true, Bool.and_self, isOf_rng _ _ hr'.1 hr'.2, Option.bind_some, w64 (show -9223372036854775808 ≤ i + 1 by omega) (by omega)]
        cases rng2 0 ((x7.getD i.toNat (0, false)).1) (x8 - 1) <;> rfl)
    simp only [from_rng2, implWords x0 h.g0, Option.bind_some, isOf_rng _ _ hr'.1 hr'.2, w64 (show -9223372036854775808 ≤ x8 - 1 by omega) (by omega)]
    cases allW x0 && decide ((x0.length : Int) = 4) <;> cases rng2 (-1) x1 (x8 - 1) <;> cases decide ((x2.length : Int) = x8) <;> cases rng2 0 x4 (x8 - 1) <;> cases rng2 0 x6 x8 <;> try rfl
    cases decide ((x7.length : Int) ≤ 12) with
    | false => rfl
    | true =>
      rcases hl with ⟨e1, e2⟩ | ⟨e1, j, e3, _, e2⟩
      · simp only [e2, e1]; rfl
      · simp only [e2, e1, Option.bind_some]
        show some (!(decide ((0 : Int) ≤ j))) = some false
        rw [decide_eq_true e3]; rfl
theorem homeOk (x0 : List Int) (x1 : Int) (x2 : List Bool) (x3 : Bool) (x4 : Int) (x5 : Bool) (x6 : Int) (x7 : List (Int × Bool)) (x8 : Int) (b0 : x0.length ≤ 9223372036854775807) (b2 : x2.length ≤ 9223372036854775807) (b7 : x7.length ≤ 9223372036854775807) : f_laws_FnExactHomeOk x0 x1 x2 x3 x4 x5 x6 x7 x8 = some true := by
  unfold f_laws_FnExactHomeOk
  rcases szHome x0 x1 x2 x3 x4 x5 x6 x7 1048576 (by omega) (by omega) b0 b2 b7 with h | ⟨l, h, h0, h1, hs⟩
  · rw [h]; rfl
  · simp only [h, Option.bind_some, decide_eq_false (show ¬ l < 0 by omega), cond_false, toHome_self _ _ _ _ _ _ _ _ hs, specHomeOk _ _ _ _ _ _ _ _ _ hs, implHomeOk _ _ _ _ _ _ _ _ _ hs, beq_self_eq_true, Bool.not_true, eqHome_self _ _ _ _ _ _ _ _ hs.g0 hs.g2 hs.g7]
theorem plain : Pure := fun x h => homeOk x.1 x.2.1 x.2.2.1 x.2.2.2.1 x.2.2.2.2.1 x.2.2.2.2.2.1 x.2.2.2.2.2.2.1 x.2.2.2.2.2.2.2.1 x.2.2.2.2.2.2.2.2 h.1.1 h.2.2.1.1 h.2.2.2.2.2.2.2.1.1
end Go.Abs
