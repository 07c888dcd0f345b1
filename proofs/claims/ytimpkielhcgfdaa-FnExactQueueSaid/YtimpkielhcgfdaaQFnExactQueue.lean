/- The law FnExactQueue returns true for every sender and message: the program's Queue gives what the reference's gives, in rows of their own, and turns nothing that it was handed. A sender and a message of more than 2^20 things are not asked for. -/
import Derived.Test.YtimpkielhcgfdaaMFnExactQueue
import Derived.Laws.BitsLemmas
namespace Go.Abs
open Go.RowKit
set_option linter.unusedVariables false
set_option linter.unusedSimpArgs false

theorem w64 {n : Int} (h0 : -9223372036854775808 ≤ n) (h1 : n ≤ 9223372036854775807) : IntKind.wrap .i64 n = n := by
  rw [IntKind.wrap_i64]
  omega
theorem succ_fuel {n d : Nat} (h : d < n) : ∃ m, n = m + 1 := ⟨n - 1, by omega⟩
theorem big : (1048577 : Nat) < N := by decide
theorem mem_getD {α : Type} (x : List α) (d : α) (i : Int) (h0 : 0 ≤ i) (h1 : i < x.length) : x.getD i.toNat d ∈ x := by
  have hlt : i.toNat < x.length := by omega
  rw [List.getD_eq_getElem?_getD, List.getElem?_eq_getElem hlt]
  exact List.getElem_mem hlt
theorem drop_getD {α : Type} (x : List α) (d : α) (i : Int) (h0 : 0 ≤ i) (h1 : i < x.length) : x.drop i.toNat = x.getD i.toNat d :: x.drop (i + 1).toNat := by
  have hlt : i.toNat < x.length := by omega
  have e : (i + 1).toNat = i.toNat + 1 := by omega
  rw [e, List.drop_eq_getElem_cons hlt, List.getD_eq_getElem?_getD, List.getElem?_eq_getElem hlt]
  rfl
theorem to_gen {α : Type} {d : α} {F : Nat → List α → Int → List α → Option (List α)} {g : α → Option α}
    (hs : ∀ n x i y, F (n + 1) x i y = bif decide (i < (x.length : Int)) then (bif (decide ((0 : Int) ≤ i) && decide (i < (x.length : Int))) then (g (x.getD i.toNat d)).bind fun e => (bif (decide ((0 : Int) ≤ i) && decide (i < (y.length : Int))) then F n x (IntKind.wrap .i64 (i + 1)) (y.set i.toNat e) else none) else none) else some y)
    (x : List α) (hn : x.length ≤ 1048576) (hg : ∀ e ∈ x, g e = some e) (k : Nat) : ∀ (n : Nat) (y : List α) (i : Int), 0 ≤ i → i ≤ x.length → (x.length : Int) - i = k → k < n → y.length = x.length → y.take i.toNat = x.take i.toNat → F n x i y = some x := by
  induction k with
  | zero =>
    intro n y i h0 h1 hd hk hl ht
    obtain ⟨n, rfl⟩ := succ_fuel hk
    rw [hs, decide_eq_false (by omega), cond_false]
    rw [List.take_of_length_le (by omega), List.take_of_length_le (by omega)] at ht
    rw [ht]
  | succ k ih =>
    intro n y i h0 h1 hd hk hl ht
    obtain ⟨n, rfl⟩ := succ_fuel hk
    have hw : IntKind.wrap .i64 (i + 1) = i + 1 := w64 (by omega) (by omega)
    have hlt : i.toNat < x.length := by omega
    rw [hs, decide_eq_true (show i < (x.length : Int) by omega), decide_eq_true h0, decide_eq_true (show i < (y.length : Int) by omega), hw, hg _ (mem_getD x d i h0 (by omega))]
    simp only [cond_true, Bool.and_self, Option.bind_some]
    refine ih n _ (i + 1) (by omega) (by omega) (by omega) (by omega) (by rw [List.length_set]; exact hl) ?_
    have e : (i + 1).toNat = i.toNat + 1 := by omega
    rw [e, List.take_add_one, List.take_add_one, List.take_set, List.getElem?_set_self (by omega), List.getElem?_eq_getElem hlt]
    have : x.getD i.toNat d = x[i.toNat] := by rw [List.getD_eq_getElem?_getD, List.getElem?_eq_getElem hlt]; rfl
    rw [this, List.set_eq_of_length_le (by rw [List.length_take]; omega), ht]
theorem eq_gen {α : Type} {d : α} {F : Nat → List α → List α → Bool → Int → Option (Bool ⊕ Bool)} {q : α → α → Option Bool}
    (hs : ∀ n x y b i, F (n + 1) x y b i = bif decide (i < (x.length : Int)) then (bif (decide ((0 : Int) ≤ i) && decide (i < (x.length : Int))) then (bif (decide ((0 : Int) ≤ i) && decide (i < (y.length : Int))) then (q (x.getD i.toNat d) (y.getD i.toNat d)).bind fun r => (bif (!r) then some (.inl false) else F n x y b (IntKind.wrap .i64 (i + 1))) else none) else none) else some (.inr b))
    (x : List α) (hn : x.length ≤ 1048576) (hq : ∀ e ∈ x, q e e = some true) (b : Bool) (k : Nat) : ∀ (n : Nat) (i : Int), 0 ≤ i → i ≤ x.length → (x.length : Int) - i = k → k < n → F n x x b i = some (.inr b) := by
  induction k with
  | zero =>
    intro n i h0 h1 hd hk
    obtain ⟨n, rfl⟩ := succ_fuel hk
    rw [hs, decide_eq_false (by omega), cond_false]
  | succ k ih =>
    intro n i h0 h1 hd hk
    obtain ⟨n, rfl⟩ := succ_fuel hk
    have hw : IntKind.wrap .i64 (i + 1) = i + 1 := w64 (by omega) (by omega)
    rw [hs, decide_eq_true (show i < (x.length : Int) by omega), decide_eq_true h0, hw, hq _ (mem_getD x d i h0 (by omega))]
    simp only [cond_true, Bool.and_self, Option.bind_some, Bool.not_true, cond_false]
    exact ih n (i + 1) (by omega) (by omega) (by omega) (by omega)
theorem sz_gen {α : Type} {d : α} {F : Nat → List α → Int → Int → Int → Option (Int ⊕ (Int × Int))} {s : α → Int → Option Int} {Ok : α → Prop}
    (hs : ∀ n x l q i, F (n + 1) x l q i = bif decide (i < (x.length : Int)) then (bif (decide ((0 : Int) ≤ i) && decide (i < (x.length : Int))) then (s (x.getD i.toNat d) l).bind fun r => (bif decide (r < 0) then some (.inl (-1)) else F n x r q (IntKind.wrap .i64 (i + 1))) else none) else some (.inr (l, q)))
    (x : List α) (hn : x.length ≤ 1048576) (he : ∀ e ∈ x, ∀ l, 0 ≤ l → l ≤ 1048576 → s e l = some (-1) ∨ ∃ l', s e l = some l' ∧ 0 ≤ l' ∧ l' ≤ l ∧ Ok e) (q : Int) (k : Nat) :
    ∀ (n : Nat) (l i : Int), 0 ≤ l → l ≤ 1048576 → 0 ≤ i → i ≤ x.length → (x.length : Int) - i = k → k < n → F n x l q i = some (.inl (-1)) ∨ ∃ l', F n x l q i = some (.inr (l', q)) ∧ 0 ≤ l' ∧ l' ≤ l ∧ ∀ e ∈ x.drop i.toNat, Ok e := by
  induction k with
  | zero =>
    intro n l i hl0 hl1 h0 h1 hd hk
    obtain ⟨n, rfl⟩ := succ_fuel hk
    rw [hs, decide_eq_false (show ¬ i < (x.length : Int) by omega), cond_false, List.drop_eq_nil_of_le (by omega)]
    exact .inr ⟨l, rfl, hl0, Int.le_refl _, fun e h => by cases h⟩
  | succ k ih =>
    intro n l i hl0 hl1 h0 h1 hd hk
    obtain ⟨n, rfl⟩ := succ_fuel hk
    have hw : IntKind.wrap .i64 (i + 1) = i + 1 := w64 (by omega) (by omega)
    rw [hs, decide_eq_true (show i < (x.length : Int) by omega), decide_eq_true h0, hw]
    simp only [cond_true, Bool.and_self]
    rcases he _ (mem_getD x d i h0 (by omega)) l hl0 hl1 with h | ⟨l', h, a0, a1, a2⟩
    · rw [h]; exact .inl rfl
    · rw [h, Option.bind_some, decide_eq_false (show ¬ l' < 0 by omega), cond_false]
      rcases ih n l' (i + 1) a0 (by omega) (by omega) (by omega) (by omega) (by omega) with h2 | ⟨l2, h2, b0, b1, b2⟩
      · exact .inl h2
      · refine .inr ⟨l2, h2, b0, by omega, fun e hm => ?_⟩
        rw [drop_getD x d i h0 (by omega)] at hm
        rcases List.mem_cons.1 hm with rfl | hm
        · exact a2
        · exact b2 e hm
theorem lt_N {x : Nat} (h : x ≤ 1048576) : x < N := Nat.lt_of_le_of_lt h (Nat.lt_trans (by omega) big)
theorem all_getD {α : Type} {x : List α} {d : α} {Pr : α → Prop} (h : ∀ i, i < x.length → Pr (x.getD i d)) : ∀ e ∈ x, Pr e := by
  intro e he
  obtain ⟨i, hi, rfl⟩ := List.getElem_of_mem he
  have := h i hi
  rw [List.getD_eq_getElem?_getD, List.getElem?_eq_getElem hi] at this
  exact this
def rng (x m : Int) : Bool := decide ((0 : Int) ≤ x) && decide (x ≤ m)
theorem in_rng (x m : Int) : f_spec_l1In x 0 m = some (rng x m) := by
  unfold f_spec_l1In rng
  cases decide ((0 : Int) ≤ x) <;> rfl
theorem from_rng (x m : Int) : f_impl_from x 0 m = some (rng x m) := by
  unfold f_impl_from rng
  cases decide ((0 : Int) ≤ x) <;> rfl
def rg (x a b : Int) : Bool := decide (a ≤ x) && decide (x ≤ b)
theorem in_rg (x a b : Int) : f_spec_l1In x a b = some (rg x a b) := by
  unfold f_spec_l1In rg
  cases decide (a ≤ x) <;> rfl
theorem from_rg (x a b : Int) : f_impl_from x a b = some (rg x a b) := by
  unfold f_impl_from rg
  cases decide (a ≤ x) <;> rfl
theorem szIntS (x : List Int) (left : Int) (h0 : 0 ≤ left) (h1 : left ≤ 1048576) (hx : x.length ≤ 9223372036854775807) :
    (f_laws_szIntS x left = some (-1)) ∨ (f_laws_szIntS x left = some (left - x.length) ∧ (x.length : Int) ≤ left) := by
  unfold f_laws_szIntS
  rw [w64 (by omega) (by omega)]
  by_cases h : left - (x.length : Int) < 0
  · rw [decide_eq_true h]; exact .inl rfl
  · rw [decide_eq_false h]; exact .inr ⟨rfl, by omega⟩
theorem toIntS_loop (x : List Int) (hn : x.length ≤ 1048576) (d : Nat) : ∀ (n : Nat) (y : List Int) (i : Int), 0 ≤ i → i ≤ x.length → (x.length : Int) - i = d → d < n → y.length = x.length → y.take i.toNat = x.take i.toNat → f_laws_toIntS.l0 n x i y = some x := by
  induction d with
  | zero =>
    intro n y i h0 h1 hd hk hl ht
    obtain ⟨n, rfl⟩ := succ_fuel hk
    simp only [f_laws_toIntS.l0]
    rw [decide_eq_false (by omega), cond_false]
    rw [List.take_of_length_le (by omega), List.take_of_length_le (by omega)] at ht
    rw [ht]
  | succ d ih =>
    intro n y i h0 h1 hd hk hl ht
    obtain ⟨n, rfl⟩ := succ_fuel hk
    have hw : IntKind.wrap .i64 (i + 1) = i + 1 := w64 (by omega) (by omega)
    have hlt : i.toNat < x.length := by omega
    simp only [f_laws_toIntS.l0]
    rw [decide_eq_true (show i < (x.length : Int) by omega), decide_eq_true h0, decide_eq_true (show i < (y.length : Int) by omega), hw]
    simp only [cond_true, Bool.and_self, Option.bind_some]
    refine ih n _ (i + 1) (by omega) (by omega) (by omega) (by omega) (by rw [List.length_set]; exact hl) ?_
    have e : (i + 1).toNat = i.toNat + 1 := by omega
    rw [e, List.take_add_one, List.take_add_one, List.take_set, List.getElem?_set_self (by omega), List.getElem?_eq_getElem hlt]
    have : x.getD i.toNat 0 = x[i.toNat] := by rw [List.getD_eq_getElem?_getD, List.getElem?_eq_getElem hlt]; rfl
    rw [this, List.set_eq_of_length_le (by rw [List.length_take]; omega), ht]
theorem toIntS (x : List Int) (hn : x.length ≤ 1048576) : f_laws_toIntS x = some x := by
  unfold f_laws_toIntS
  rw [decide_eq_true (by omega), show Nat.ble ((x.length : Int).toNat) 17592186044416 = true from Nat.ble_eq_true_of_le (by omega)]
  simp only [Bool.and_self, cond_true]
  rw [toIntS_loop x hn x.length N _ 0 (by omega) (by omega) (by omega) (Nat.lt_of_le_of_lt (by omega) big) (by simp) (by simp)]
  rfl
theorem eqIntS_loop (x : List Int) (hn : x.length ≤ 1048576) (b : Bool) (d : Nat) : ∀ (n : Nat) (i : Int), 0 ≤ i → i ≤ x.length → (x.length : Int) - i = d → d < n → f_laws_eqIntS.l0 n x x b i = some (.inr b) := by
  induction d with
  | zero =>
    intro n i h0 h1 hd hk
    obtain ⟨n, rfl⟩ := succ_fuel hk
    simp only [f_laws_eqIntS.l0]
    rw [decide_eq_false (by omega), cond_false]
  | succ d ih =>
    intro n i h0 h1 hd hk
    obtain ⟨n, rfl⟩ := succ_fuel hk
    have hw : IntKind.wrap .i64 (i + 1) = i + 1 := w64 (by omega) (by omega)
    simp only [f_laws_eqIntS.l0]
    rw [decide_eq_true (show i < (x.length : Int) by omega), decide_eq_true h0, hw]
    simp only [cond_true, Bool.and_self, decide_true, Bool.not_true, cond_false]
    exact ih n (i + 1) (by omega) (by omega) (by omega) (by omega)
theorem eqIntS (x : List Int) (hn : x.length ≤ 1048576) : f_laws_eqIntS x x = some true := by
  unfold f_laws_eqIntS
  simp only [decide_true, Bool.not_true, cond_false]
  rw [eqIntS_loop x hn false x.length N 0 (by omega) (by omega) (by omega) (Nat.lt_of_le_of_lt (by omega) big)]
  rfl
def allW (x : List Int) : Bool := x.all fun w => rng w 65535
theorem drop_step (x : List Int) (i : Int) (h0 : 0 ≤ i) (h1 : i < x.length) : x.drop i.toNat = x.getD i.toNat 0 :: x.drop (i + 1).toNat := by
  have hlt : i.toNat < x.length := by omega
  have e : (i + 1).toNat = i.toNat + 1 := by omega
  rw [e, List.drop_eq_getElem_cons hlt, List.getD_eq_getElem?_getD, List.getElem?_eq_getElem hlt]
  rfl
theorem specWords_loop (x : List Int) (hn : x.length ≤ 1048576) (k : Int) (b : Bool) (d : Nat) : ∀ (n : Nat) (i : Int), 0 ≤ i → i ≤ x.length → (x.length : Int) - i = d → d < n →
    f_spec_l1Words.l0 n x k b i = some (bif allW (x.drop i.toNat) then .inr (x, k, b) else .inl false) := by
  induction d with
  | zero =>
    intro n i h0 h1 hd hk
    obtain ⟨n, rfl⟩ := succ_fuel hk
    simp only [f_spec_l1Words.l0]
    rw [decide_eq_false (by omega), cond_false, List.drop_eq_nil_of_le (by omega)]
    rfl
  | succ d ih =>
    intro n i h0 h1 hd hk
    obtain ⟨n, rfl⟩ := succ_fuel hk
    have hw : IntKind.wrap .i64 (i + 1) = i + 1 := w64 (by omega) (by omega)
    simp only [f_spec_l1Words.l0]
    rw [decide_eq_true (show i < (x.length : Int) by omega), decide_eq_true h0, hw, in_rng, drop_step x i h0 (by omega)]
    simp only [cond_true, Bool.and_self, Option.bind_some]
    unfold allW
    rw [List.all_cons]
    cases hr : rng (x.getD i.toNat 0) 65535 with
    | false => rfl
    | true =>
      simp only [Bool.not_true, cond_false, Bool.true_and]
      exact ih n (i + 1) (by omega) (by omega) (by omega) (by omega)
theorem specWords (x : List Int) (hn : x.length ≤ 1048576) (k : Int) : f_spec_l1Words x k = some (allW x && decide ((x.length : Int) = k)) := by
  unfold f_spec_l1Words
  rw [specWords_loop x hn k false x.length N 0 (by omega) (by omega) (by omega) (Nat.lt_of_le_of_lt (by omega) big)]
  simp only [Int.toNat_zero, List.drop_zero, Option.bind_some]
  cases allW x <;> rfl
theorem implWords_loop (x : List Int) (hn : x.length ≤ 1048576) (q : Int) (d : Nat) : ∀ (n : Nat) (i : Int), 0 ≤ i → i ≤ x.length → (x.length : Int) - i = d → d < n →
    (allW (x.drop i.toNat) = true ∧ f_impl_wordsOk.l0 n x q (x.length : Int) i = some (.inr q)) ∨ (allW (x.drop i.toNat) = false ∧ ∃ j : Int, 0 ≤ j ∧ f_impl_wordsOk.l0 n x q (x.length : Int) i = some (.inl j)) := by
  induction d with
  | zero =>
    intro n i h0 h1 hd hk
    obtain ⟨n, rfl⟩ := succ_fuel hk
    simp only [f_impl_wordsOk.l0]
    rw [decide_eq_false (show ¬ i < (x.length : Int) by omega), cond_false, List.drop_eq_nil_of_le (by omega)]
    exact .inl ⟨rfl, rfl⟩
  | succ d ih =>
    intro n i h0 h1 hd hk
    obtain ⟨n, rfl⟩ := succ_fuel hk
    have hw : IntKind.wrap .i64 (i + 1) = i + 1 := w64 (by omega) (by omega)
    have ih2 := ih n (i + 1) (by omega) (by omega) (by omega) (by omega)
    simp only [f_impl_wordsOk.l0]
    rw [decide_eq_true (show i < (x.length : Int) by omega), decide_eq_true h0, hw, drop_step x i h0 (by omega)]
    unfold f_impl_wordsOk_1 f_impl_isWord
    simp only [cond_true, Bool.and_self, from_rng, Option.bind_some]
    unfold allW at ih2 ⊢
    rw [List.all_cons]
    cases hr : rng (x.getD i.toNat 0) 65535 with
    | false => exact .inr ⟨rfl, i, h0, rfl⟩
    | true =>
      simp only [Bool.not_true, cond_false, Bool.true_and]
      exact ih2
theorem implWords (x : List Int) (hn : x.length ≤ 1048576) (k : Int) : f_impl_wordsOk x k = some (allW x && decide ((x.length : Int) = k)) := by
  unfold f_impl_wordsOk
  have h := implWords_loop x hn 0 x.length N 0 (by omega) (by omega) (by omega) (Nat.lt_of_le_of_lt (by omega) big)
  simp only [Int.toNat_zero, List.drop_zero] at h
  cases decide ((x.length : Int) = k) with
  | false => simp
  | true =>
    rcases h with ⟨h1, h2⟩ | ⟨h1, j, h3, h2⟩
    · simp only [cond_true, h2, Option.bind_some, h1, Bool.and_true]; rfl
    · simp only [cond_true, h2, Option.bind_some, h1, Bool.and_true]
      show some (!(decide ((0 : Int) ≤ j))) = some false
      rw [decide_eq_true h3]; rfl
theorem allW_nil (x : List Int) : (allW x && decide ((x.length : Int) = 0)) = decide ((x.length : Int) = 0) := by
  cases x with
  | nil => rfl
  | cons a x =>
    rw [decide_eq_false (by simp; omega), Bool.and_false]
theorem same_msgOk (x0 x1 : Int) (x2 : Bool) (x3 : List Int) (hn : x3.length ≤ 1048576) : ∃ b, f_spec_MsgOk x0 x1 x2 x3 = some b ∧ f_impl_MsgOk x0 x1 x2 x3 = some b := by
  unfold f_spec_MsgOk f_impl_MsgOk f_impl_isPage
  simp only [specWords x3 hn, implWords x3 hn, in_rg, from_rg, Option.bind_some, allW_nil]
  by_cases h3 : x0 = 3
  · subst h3
    rw [show rg 3 1 7 = true from rfl]
    cases rg x1 0 5 <;> cases x2 <;> exact ⟨_, rfl, rfl⟩
  · by_cases h7 : x0 = 7
    · subst h7
      rw [show rg 7 1 7 = true from rfl]
      cases rg x1 0 5 <;> cases x2 <;> exact ⟨_, rfl, rfl⟩
    · by_cases h6 : x0 = 6
      · subst h6
        rw [show rg 6 1 7 = true from rfl]
        cases rg x1 0 5 <;> cases x2 <;> exact ⟨_, rfl, rfl⟩
      · rw [decide_eq_false h3, decide_eq_false h7, decide_eq_false h6]
        cases rg x0 1 7 <;> cases rg x1 0 5 <;> cases x2 <;> exact ⟨_, rfl, rfl⟩
theorem eqMsg_self (a b : Int) (c : Bool) (x : List Int) (hn : x.length ≤ 1048576) : f_laws_eqMsg a b c x a b c x = some true := by
  unfold f_laws_eqMsg
  simp only [decide_true, Bool.not_true, cond_false, beq_self_eq_true, eqIntS x hn, Option.bind_some]
theorem toMsg_self (a b : Int) (c : Bool) (x : List Int) (hn : x.length ≤ 1048576) : f_laws_toMsg a b c x = some (a, b, c, x) := by
  unfold f_laws_toMsg
  simp only [toIntS x hn, Option.bind_some]
theorem szMsg (a b : Int) (c : Bool) (x : List Int) (left : Int) (h0 : 0 ≤ left) (h1 : left ≤ 1048576) (hx : x.length ≤ 9223372036854775807) :
    (f_laws_szMsg a b c x left = some (-1)) ∨ (f_laws_szMsg a b c x left = some (left - x.length) ∧ (x.length : Int) ≤ left) := by
  unfold f_laws_szMsg
  rcases szIntS x left h0 h1 hx with h | ⟨h, hl⟩
  · simp only [h, Option.bind_some]; exact .inl rfl
  · simp only [h, Option.bind_some]
    rw [decide_eq_false (by omega)]
    exact .inr ⟨rfl, hl⟩
abbrev MsgL := Int × Int × Bool × List Int
theorem szMsgS (x : List MsgL) (left : Int) (h0 : 0 ≤ left) (h1 : left ≤ 1048576) (hx : x.length ≤ 9223372036854775807) (he : ∀ e ∈ x, e.2.2.2.length ≤ 9223372036854775807) :
    f_laws_szMsgS x left = some (-1) ∨ ∃ l, f_laws_szMsgS x left = some l ∧ 0 ≤ l ∧ l ≤ left ∧ x.length ≤ 1048576 ∧ ∀ e ∈ x, e.2.2.2.length ≤ 1048576 := by
  unfold f_laws_szMsgS
  rw [w64 (by omega) (by omega)]
  by_cases h : left - (x.length : Int) < 0
  · rw [decide_eq_true h]; exact .inl rfl
  · rw [decide_eq_false h, cond_false]
    have hn : x.length ≤ 1048576 := by omega
    rcases sz_gen (F := f_laws_szMsgS.l0) (s := fun e l => f_laws_szMsg e.1 e.2.1 e.2.2.1 e.2.2.2 l) (Ok := fun e : MsgL => e.2.2.2.length ≤ 1048576) (d := (0, 0, false, [])) (fun n x l q i => rfl) x hn (fun e hm l a0 a1 => by
        rcases szMsg e.1 e.2.1 e.2.2.1 e.2.2.2 l a0 a1 (he e hm) with h2 | ⟨h2, h3⟩
        · exact .inl h2
        · exact .inr ⟨_, h2, by omega, by omega, by omega⟩) 0 x.length N (left - (x.length : Int)) 0 (by omega) (by omega) (by omega) (by omega) (by omega) (lt_N hn) with h2 | ⟨l, h2, b0, b1, b2⟩
    · rw [h2]; exact .inl rfl
    · rw [h2]
      exact .inr ⟨l, rfl, b0, by omega, hn, fun e hm => b2 e (by simpa using hm)⟩
theorem toMsgS (x : List MsgL) (hn : x.length ≤ 1048576) (he : ∀ e ∈ x, e.2.2.2.length ≤ 1048576) : f_laws_toMsgS x = some x := by
  unfold f_laws_toMsgS
  rw [decide_eq_true (by omega), show Nat.ble ((x.length : Int).toNat) 2932031007402 = true from Nat.ble_eq_true_of_le (by omega)]
  simp only [Bool.and_self, cond_true]
  rw [to_gen (F := f_laws_toMsgS.l0) (g := fun e => f_laws_toMsg e.1 e.2.1 e.2.2.1 e.2.2.2) (d := (0, 0, false, [])) (fun n x i y => rfl) x hn (fun e hm => toMsg_self _ _ _ _ (he e hm)) x.length N _ 0 (by omega) (by omega) (by omega) (lt_N hn) (by simp) (by simp)]
  rfl
theorem eqMsgS (x : List MsgL) (hn : x.length ≤ 1048576) (he : ∀ e ∈ x, e.2.2.2.length ≤ 1048576) : f_laws_eqMsgS x x = some true := by
  unfold f_laws_eqMsgS
  simp only [decide_true, Bool.not_true, cond_false]
  rw [eq_gen (F := f_laws_eqMsgS.l0) (q := fun e f => f_laws_eqMsg e.1 e.2.1 e.2.2.1 e.2.2.2 f.1 f.2.1 f.2.2.1 f.2.2.2) (d := (0, 0, false, [])) (fun n x y b i => rfl) x hn (fun e hm => eqMsg_self _ _ _ _ (he e hm)) false x.length N 0 (by omega) (by omega) (by omega) (lt_N hn)]
  rfl
noncomputable def tM (e : MsgL) : Bool := (f_spec_MsgOk e.1 e.2.1 e.2.2.1 e.2.2.2).getD false
theorem tM_eq (e : MsgL) (h : e.2.2.2.length ≤ 1048576) : f_spec_MsgOk e.1 e.2.1 e.2.2.1 e.2.2.2 = some (tM e) ∧ f_impl_MsgOk e.1 e.2.1 e.2.2.1 e.2.2.2 = some (tM e) := by
  obtain ⟨b, h1, h2⟩ := same_msgOk e.1 e.2.1 e.2.2.1 e.2.2.2 h
  unfold tM
  rw [h1, h2]
  exact ⟨rfl, rfl⟩
theorem senderS_loop (x : List MsgL) (hn : x.length ≤ 1048576) (he : ∀ e ∈ x, e.2.2.2.length ≤ 1048576) (c : Bool) (a : Int) (k : Nat) : ∀ (n : Nat) (i : Int), 0 ≤ i → i ≤ x.length → (x.length : Int) - i = k → k < n →
    f_spec_SenderOk.l0 n c i a x = some (bif (x.drop i.toNat).all tM then .inr (c, a, x) else .inl false) := by
  induction k with
  | zero =>
    intro n i h0 h1 hd hk
    obtain ⟨n, rfl⟩ := succ_fuel hk
    simp only [f_spec_SenderOk.l0]
    rw [decide_eq_false (show ¬ i < (x.length : Int) by omega), cond_false, List.drop_eq_nil_of_le (by omega)]
    rfl
  | succ k ih =>
    intro n i h0 h1 hd hk
    obtain ⟨n, rfl⟩ := succ_fuel hk
    have hw : IntKind.wrap .i64 (i + 1) = i + 1 := w64 (by omega) (by omega)
    simp only [f_spec_SenderOk.l0]
    rw [decide_eq_true (show i < (x.length : Int) by omega), decide_eq_true h0, hw, (tM_eq _ (he _ (mem_getD x (0, 0, false, []) i h0 (by omega)))).1, drop_getD x (0, 0, false, []) i h0 (by omega)]
    simp only [cond_true, Bool.and_self, Option.bind_some, List.all_cons]
    cases tM (x.getD i.toNat (0, 0, false, [])) with
    | false => rfl
    | true =>
      simp only [Bool.not_true, cond_false, Bool.true_and]
      exact ih n (i + 1) (by omega) (by omega) (by omega) (by omega)
theorem senderI_loop (x : List MsgL) (hn : x.length ≤ 1048576) (he : ∀ e ∈ x, e.2.2.2.length ≤ 1048576) (q a : Int) (k : Nat) : ∀ (n : Nat) (i : Int), 0 ≤ i → i ≤ x.length → (x.length : Int) - i = k → k < n →
    ((x.drop i.toNat).all tM = true ∧ f_impl_SenderOk.l0 n x q (x.length : Int) i a x = some (.inr (q, a, x))) ∨ ((x.drop i.toNat).all tM = false ∧ ∃ j : Int, 0 ≤ j ∧ f_impl_SenderOk.l0 n x q (x.length : Int) i a x = some (.inl (j, a, x))) := by
  induction k with
  | zero =>
    intro n i h0 h1 hd hk
    obtain ⟨n, rfl⟩ := succ_fuel hk
    simp only [f_impl_SenderOk.l0]
    rw [decide_eq_false (show ¬ i < (x.length : Int) by omega), cond_false, List.drop_eq_nil_of_le (by omega)]
    exact .inl ⟨rfl, rfl⟩
  | succ k ih =>
    intro n i h0 h1 hd hk
    obtain ⟨n, rfl⟩ := succ_fuel hk
    have hw : IntKind.wrap .i64 (i + 1) = i + 1 := w64 (by omega) (by omega)
    have ih2 := ih n (i + 1) (by omega) (by omega) (by omega) (by omega)
    simp only [f_impl_SenderOk.l0, f_impl_SenderOk_1]
    rw [decide_eq_true (show i < (x.length : Int) by omega), decide_eq_true h0, hw, (tM_eq _ (he _ (mem_getD x (0, 0, false, []) i h0 (by omega)))).2, drop_getD x (0, 0, false, []) i h0 (by omega)]
    simp only [cond_true, Bool.and_self, Option.bind_some, List.all_cons]
    cases tM (x.getD i.toNat (0, 0, false, [])) with
    | false => exact .inr ⟨rfl, i, h0, rfl⟩
    | true =>
      simp only [Bool.not_true, cond_false, Bool.true_and]
      exact ih2
theorem same_senderOk (a : Int) (x : List MsgL) (hn : x.length ≤ 1048576) (he : ∀ e ∈ x, e.2.2.2.length ≤ 1048576) : ∃ b, f_spec_SenderOk a x = some b ∧ f_impl_SenderOk a x = some b := by
  unfold f_spec_SenderOk f_impl_SenderOk f_impl_isSeq
  rw [senderS_loop x hn he false a x.length N 0 (by omega) (by omega) (by omega) (lt_N hn)]
  have hi := senderI_loop x hn he 0 a x.length N 0 (by omega) (by omega) (by omega) (lt_N hn)
  simp only [Int.toNat_zero, List.drop_zero, in_rg, from_rg, Option.bind_some] at hi ⊢
  rcases hi with ⟨h1, h2⟩ | ⟨h1, j, h3, h2⟩
  · rw [h1, h2]
    simp only [cond_true, cs, Option.bind_some]
    cases rg a 0 100000 <;> cases decide ((x.length : Int) ≤ 30) <;> cases decide (IntKind.wrap .i64 (a + (x.length : Int)) ≤ 100000) <;> exact ⟨_, rfl, rfl⟩
  · rw [h1, h2]
    simp only [cond_false, cs, Option.bind_some, decide_eq_true h3]
    cases rg a 0 100000 <;> cases decide ((x.length : Int) ≤ 30) <;> cases decide (IntKind.wrap .i64 (a + (x.length : Int)) ≤ 100000) <;> exact ⟨_, rfl, rfl⟩
theorem szSender (a : Int) (x : List MsgL) (left : Int) (h0 : 0 ≤ left) (h1 : left ≤ 1048576) (hx : x.length ≤ 9223372036854775807) (he : ∀ e ∈ x, e.2.2.2.length ≤ 9223372036854775807) :
    f_laws_szSender a x left = some (-1) ∨ ∃ l, f_laws_szSender a x left = some l ∧ 0 ≤ l ∧ l ≤ left ∧ x.length ≤ 1048576 ∧ ∀ e ∈ x, e.2.2.2.length ≤ 1048576 := by
  unfold f_laws_szSender
  rcases szMsgS x left h0 h1 hx he with h | ⟨l, h, l0, l1, hn, hb⟩
  · simp only [h, Option.bind_some]; exact .inl rfl
  · simp only [h, Option.bind_some]
    rw [decide_eq_false (by omega)]
    exact .inr ⟨l, rfl, l0, l1, hn, hb⟩
theorem toSender_self (a : Int) (x : List MsgL) (hn : x.length ≤ 1048576) (he : ∀ e ∈ x, e.2.2.2.length ≤ 1048576) : f_laws_toSender a x = some (a, x) := by
  unfold f_laws_toSender
  rw [toMsgS x hn he]; rfl
theorem eqSender_self (a : Int) (x : List MsgL) (hn : x.length ≤ 1048576) (he : ∀ e ∈ x, e.2.2.2.length ≤ 1048576) : f_laws_eqSender a x a x = some true := by
  unfold f_laws_eqSender
  simp only [decide_true, Bool.not_true, cond_false, eqMsgS x hn he, Option.bind_some]
theorem cp_gen {α τ : Type} {d : α} {F : Nat → Int → List α → Option τ} {R : List α → τ} (x : List α) (hx : x.length ≤ 1048576) (h0 : ∀ n i y, ¬ i < (x.length : Int) → F (n + 1) i y = some (R y))
    (h1 : ∀ n i y, 0 ≤ i → i < (x.length : Int) → x.getD i.toNat d ∈ x → y.length ≤ 1048576 → F (n + 1) i y = F n (i + 1) (y ++ [x.getD i.toNat d])) : F N 0 [] = some (R x) := by
  have step : ∀ (k n : Nat) (i : Int) (y : List α), 0 ≤ i → i ≤ x.length → (x.length : Int) - i = k → k < n → y = x.take i.toNat → F n i y = some (R x) := by
    intro k
    induction k with
    | zero =>
      intro n i y a0 a1 hd hn hy
      obtain ⟨n, rfl⟩ := succ_fuel hn
      rw [h0 n i y (by omega), hy, List.take_of_length_le (by omega)]
    | succ k ih =>
      intro n i y a0 a1 hd hn hy
      obtain ⟨n, rfl⟩ := succ_fuel hn
      rw [h1 n i y a0 (by omega) (mem_getD x d i a0 (by omega)) (by rw [hy, List.length_take]; omega)]
      refine ih n (i + 1) _ (by omega) (by omega) (by omega) (by omega) ?_
      have e : (i + 1).toNat = i.toNat + 1 := by omega
      have hlt : i.toNat < x.length := by omega
      rw [e, List.take_add_one, List.getElem?_eq_getElem hlt, hy, List.getD_eq_getElem?_getD, List.getElem?_eq_getElem hlt]
      rfl
  exact step x.length N 0 [] (by omega) (by omega) (by omega) (Nat.lt_of_le_of_lt hx (Nat.lt_trans (by omega) big)) rfl
theorem specSenderCopy (a : Int) (x : List MsgL) (hn : x.length ≤ 1048576) (he : ∀ e ∈ x, e.2.2.2.length ≤ 1048576) : f_spec_l2Sender a x = some (a, x) := by
  unfold f_spec_l2Sender
  have c1 := cp_gen (d := ((0 : Int), (0 : Int), false, ([] : List Int))) (F := fun n i y => f_spec_l2Sender.l0 n i a x 0 a [] y) (R := fun y => (0, a, ([] : List MsgL), y)) x hn (fun n i y hi => by simp only [f_spec_l2Sender.l0, decide_eq_false hi, cond_false])
    (fun n i y a0 a1 hm hy => by
      have hk : (x.getD i.toNat (0, 0, false, [])).2.2.2.length ≤ 1048576 := he _ hm
      simp only [f_spec_l2Sender.l0, f_spec_l1Msg, decide_eq_true a0, decide_eq_true a1, cond_true, Bool.and_self, List.length_nil, Nat.zero_add, (blt_iff _ _).2 (show (x.getD i.toNat (0, 0, false, [])).2.2.2.length < 17592186044416 by omega), List.nil_append, Option.bind_some, List.length_singleton, (blt_iff _ _).2 (show y.length + 1 < 2932031007402 by omega), w64 (show -9223372036854775808 ≤ i + 1 by omega) (by omega)])
  rw [c1]
  rfl
theorem implSenderCopy (a : Int) (x : List MsgL) (hn : x.length ≤ 1048576) (he : ∀ e ∈ x, e.2.2.2.length ≤ 1048576) : f_impl_copySender a x = some (a, x) := by
  unfold f_impl_copySender
  have c1 := cp_gen (d := ((0 : Int), (0 : Int), false, ([] : List Int))) (F := fun n i y => f_impl_copySender.l0 n x (x.length : Int) i 0 a [] y) (R := fun y => (0, a, ([] : List MsgL), y)) x hn (fun n i y hi => by simp only [f_impl_copySender.l0, decide_eq_false hi, cond_false])
    (fun n i y a0 a1 hm hy => by
      have hk : (x.getD i.toNat (0, 0, false, [])).2.2.2.length ≤ 1048576 := he _ hm
      simp only [f_impl_copySender.l0, f_impl_copyMsg, f_slices_Clone_int_int, decide_eq_true a0, decide_eq_true a1, cond_true, Bool.and_self, Nat.zero_add, (blt_iff _ _).2 (show (x.getD i.toNat (0, 0, false, [])).2.2.2.length < 17592186044416 by omega), Option.bind_some, List.length_singleton, (blt_iff _ _).2 (show y.length + 1 < 2932031007402 by omega), w64 (show -9223372036854775808 ≤ i + 1 by omega) (by omega)])
  rw [c1]
  rfl
/-- What a right sender's numbers are. -/
theorem senderOk_facts (a : Int) (x : List MsgL) (hn : x.length ≤ 1048576) (he : ∀ e ∈ x, e.2.2.2.length ≤ 1048576) (h : f_spec_SenderOk a x = some true) : 0 ≤ a ∧ a ≤ 100000 ∧ (x.length : Int) ≤ 30 ∧ a + (x.length : Int) ≤ 100000 ∧ x.all tM = true := by
  unfold f_spec_SenderOk at h
  rw [senderS_loop x hn he false a x.length N 0 (by omega) (by omega) (by omega) (lt_N hn)] at h
  simp only [Int.toNat_zero, List.drop_zero, in_rg, Option.bind_some] at h
  cases hall : x.all tM with
  | false => rw [hall] at h; cases h
  | true =>
    rw [hall] at h
    simp only [cond_true, cs] at h
    cases hr : rg a 0 100000 with
    | false => rw [hr] at h; cases h
    | true =>
      unfold rg at hr
      simp only [Bool.and_eq_true, decide_eq_true_eq] at hr
      by_cases h30 : (x.length : Int) ≤ 30
      · rw [decide_eq_true h30, w64 (by omega) (by omega)] at h
        have e : rg a 0 100000 = true := by unfold rg; rw [decide_eq_true hr.1, decide_eq_true hr.2]; rfl
        rw [e] at h
        simp only [cond_true, Option.some.injEq, decide_eq_true_eq] at h
        exact ⟨hr.1, hr.2, h30, h, rfl⟩
      · rw [decide_eq_false h30] at h
        cases h' : rg a 0 100000 <;> rw [h'] at h <;> cases h
def queueB (a : Int) (x : List MsgL) (b : Bool) (m : MsgL) (ok : Bool) : Int × List MsgL × Bool := if b = true ∧ ok = true ∧ (x.length : Int) ≠ 30 ∧ a + (x.length : Int) ≠ 100000 then (a, x ++ [m], true) else (a, x, false)
theorem same_queue (a : Int) (x : List MsgL) (x2 x3 : Int) (x4 : Bool) (x5 : List Int) (hn : x.length ≤ 1048576) (he : ∀ e ∈ x, e.2.2.2.length ≤ 1048576) (h5 : x5.length ≤ 1048576) :
    ∃ b ok, f_spec_SenderOk a x = some b ∧ f_impl_SenderOk a x = some b ∧ f_spec_MsgOk x2 x3 x4 x5 = some ok ∧ f_impl_MsgOk x2 x3 x4 x5 = some ok ∧ f_spec_Queue a x x2 x3 x4 x5 = some (queueB a x b (x2, x3, x4, x5) ok) ∧ f_impl_Queue a x x2 x3 x4 x5 = some (queueB a x b (x2, x3, x4, x5) ok) := by
  obtain ⟨b, h1, h2⟩ := same_senderOk a x hn he
  obtain ⟨ok, k1, k2⟩ := same_msgOk x2 x3 x4 x5 h5
  have hw : b = true → IntKind.wrap .i64 (a + (x.length : Int)) = a + (x.length : Int) := fun hb => by
    subst hb
    obtain ⟨f0, f1, f2, f3, -⟩ := senderOk_facts a x hn he h1
    exact w64 (by omega) (by omega)
  refine ⟨b, ok, h1, h2, k1, k2, ?_, ?_⟩
  · unfold f_spec_Queue queueB
    simp only [specSenderCopy a x hn he, h1, k1, Option.bind_some]
    cases b with
    | false => rw [if_neg (fun h => by cases h.1)]; rfl
    | true =>
      rw [hw rfl]
      cases ok with
      | false => rw [if_neg (fun h => by cases h.2.1)]; rfl
      | true =>
        by_cases g1 : (x.length : Int) = 30
        · rw [decide_eq_true g1, if_neg (fun h => h.2.2.1 g1)]; rfl
        · by_cases g2 : a + (x.length : Int) = 100000
          · rw [decide_eq_false g1, decide_eq_true g2, if_neg (fun h => h.2.2.2 g2)]; rfl
          · rw [decide_eq_false g1, decide_eq_false g2, if_pos ⟨rfl, rfl, g1, g2⟩]
            simp only [Bool.not_true, cond_false, f_spec_l1Msg, List.length_nil, Nat.zero_add, (blt_iff _ _).2 (show x5.length < 17592186044416 by omega), cond_true, List.nil_append, Option.bind_some, List.length_singleton, (blt_iff _ _).2 (show x.length + 1 < 2932031007402 by omega)]
  · unfold f_impl_Queue queueB
    simp only [implSenderCopy a x hn he, h2, k2, Option.bind_some]
    cases b with
    | false => rw [if_neg (fun h => by cases h.1)]; rfl
    | true =>
      rw [hw rfl]
      cases ok with
      | false => rw [if_neg (fun h => by cases h.2.1)]; rfl
      | true =>
        by_cases g1 : (x.length : Int) = 30
        · rw [decide_eq_true g1, if_neg (fun h => h.2.2.1 g1)]; rfl
        · by_cases g2 : a + (x.length : Int) = 100000
          · rw [decide_eq_false g1, decide_eq_true g2, if_neg (fun h => h.2.2.2 g2)]; rfl
          · rw [decide_eq_false g1, decide_eq_false g2, if_pos ⟨rfl, rfl, g1, g2⟩]
            simp only [Bool.not_true, cond_false, f_impl_copyMsg, f_slices_Clone_int_int, Nat.zero_add, (blt_iff _ _).2 (show x5.length < 17592186044416 by omega), cond_true, Option.bind_some, List.length_singleton, (blt_iff _ _).2 (show x.length + 1 < 2932031007402 by omega)]
theorem queueB_ok (a : Int) (x : List MsgL) (b : Bool) (m : MsgL) (ok : Bool) (hn : x.length ≤ 1048575) (he : ∀ e ∈ x, e.2.2.2.length ≤ 1048576) (hm : m.2.2.2.length ≤ 1048576) : (queueB a x b m ok).2.1.length ≤ 1048576 ∧ ∀ e ∈ (queueB a x b m ok).2.1, e.2.2.2.length ≤ 1048576 := by
  unfold queueB
  split
  · refine ⟨by simp only [List.length_append, List.length_singleton]; omega, fun e h => ?_⟩
    rcases List.mem_append.1 h with h | h
    · exact he e h
    · rw [List.mem_singleton.1 h]; exact hm
  · exact ⟨by show x.length ≤ 1048576; omega, he⟩
theorem getD_set_self {α : Type} (x : List α) (d e : α) (i : Int) (h0 : 0 ≤ i) (h1 : i < x.length) : (x.set i.toNat e).getD i.toNat d = e := by
  rw [List.getD_eq_getElem?_getD, List.getElem?_set_self (by omega)]; rfl
theorem getD_set_other {α : Type} (x : List α) (d e : α) (i j : Nat) (h : i ≠ j) : (x.set i e).getD j d = x.getD j d := by
  rw [List.getD_eq_getElem?_getD, List.getElem?_set_ne h, List.getD_eq_getElem?_getD]
theorem mh_loop {α : Type} {d : α} {F : Nat → Int → Int → Int → List α → Option (Int × Int × List α)} {H : Nat → List α → Int → Int → Int → Option (Int ⊕ (Int × Int))} {P : α → Prop} {M : Int} (hM : 0 ≤ M)
    (f0 : ∀ n c q i x, ¬ i < (x.length : Int) → F (n + 1) c q i x = some (c, q, x)) (g0 : ∀ n x c q i, ¬ i < (x.length : Int) → H (n + 1) x c q i = some (.inr (c, q)))
    (f1 : ∀ c e, P e → 0 ≤ c → c ≤ 1152921504606846976 → ∃ e' c', c ≤ c' ∧ c' ≤ c + M ∧ (∀ n q i (x : List α), x.length ≤ 1048576 → 0 ≤ i → i < (x.length : Int) → x.getD i.toNat d = e → F (n + 1) c q i x = F n c' q (i + 1) (x.set i.toNat e')) ∧
      ∀ n q i (x : List α), x.length ≤ 1048576 → 0 ≤ i → i < (x.length : Int) → x.getD i.toNat d = e' → H (n + 1) x c q i = H n x c' q (i + 1))
    (k : Nat) : ∀ (n m : Nat) (x : List α) (c q q' i : Int), x.length ≤ 1048576 → (∀ j : Nat, i.toNat ≤ j → j < x.length → P (x.getD j d)) → 0 ≤ c → c + M * k ≤ 1152921504606846976 → 0 ≤ i → i ≤ x.length → (x.length : Int) - i = k → k < n → k < m →
      ∃ y c', F n c q i x = some (c', q, y) ∧ y.length = x.length ∧ c ≤ c' ∧ c' ≤ c + M * k ∧ (∀ j : Nat, j < i.toNat → y.getD j d = x.getD j d) ∧ H m y c q' i = some (.inr (c', q')) := by
  induction k with
  | zero =>
    intro n m x c q q' i hx hp hc0 hc1 h0 h1 hd hn hm
    obtain ⟨n, rfl⟩ := succ_fuel hn
    obtain ⟨m, rfl⟩ := succ_fuel hm
    exact ⟨x, c, f0 n c q i x (by omega), rfl, Int.le_refl _, by omega, fun _ _ => rfl, g0 m x c q' i (by omega)⟩
  | succ k ih =>
    intro n m x c q q' i hx hp hc0 hc1 h0 h1 hd hn hm
    obtain ⟨n, rfl⟩ := succ_fuel hn
    obtain ⟨m, rfl⟩ := succ_fuel hm
    have e1 : M * ((k + 1 : Nat) : Int) = M * (k : Int) + M := by rw [Int.natCast_add, Int.mul_add]; simp
    have e2 : 0 ≤ M * (k : Int) := Int.mul_nonneg hM (by omega)
    rw [e1] at hc1 ⊢
    obtain ⟨e', c1, b1, b2, b3, b4⟩ := f1 c _ (hp i.toNat (Nat.le_refl _) (by omega)) hc0 (by omega)
    obtain ⟨y, c', h2, h3, h4, h5, h6, h7⟩ := ih n m (x.set i.toNat e') c1 q q' (i + 1) (by rw [List.length_set]; exact hx) (fun j h2 h3 => by
      rw [List.length_set] at h3
      rw [getD_set_other x d e' i.toNat j (by omega)]
      exact hp j (by omega) h3) (by omega) (by omega) (by omega) (by rw [List.length_set]; omega) (by rw [List.length_set]; omega) (by omega) (by omega)
    rw [List.length_set] at h3
    refine ⟨y, c', ?_, h3, by omega, by omega, fun j hj => ?_, ?_⟩
    · rw [b3 n q i x hx h0 (by omega) rfl]; exact h2
    · rw [h6 j (by omega)]
      exact getD_set_other x d e' i.toNat j (by omega)
    · rw [b4 m q' i y (by omega) h0 (by omega) (by rw [h6 i.toNat (by omega)]; exact getD_set_self x d e' i h0 (by omega))]
      exact h7
/-- What is marked from c on, holds what was marked. -/
theorem mh_gen {α : Type} {d : α} {F : Nat → Int → Int → Int → List α → Option (Int × Int × List α)} {H : Nat → List α → Int → Int → Int → Option (Int ⊕ (Int × Int))} {P : α → Prop} {M : Int} (hM : 0 ≤ M)
    (f0 : ∀ n c q i x, ¬ i < (x.length : Int) → F (n + 1) c q i x = some (c, q, x)) (g0 : ∀ n x c q i, ¬ i < (x.length : Int) → H (n + 1) x c q i = some (.inr (c, q)))
    (f1 : ∀ c e, P e → 0 ≤ c → c ≤ 1152921504606846976 → ∃ e' c', c ≤ c' ∧ c' ≤ c + M ∧ (∀ n q i (x : List α), x.length ≤ 1048576 → 0 ≤ i → i < (x.length : Int) → x.getD i.toNat d = e → F (n + 1) c q i x = F n c' q (i + 1) (x.set i.toNat e')) ∧
      ∀ n q i (x : List α), x.length ≤ 1048576 → 0 ≤ i → i < (x.length : Int) → x.getD i.toNat d = e' → H (n + 1) x c q i = H n x c' q (i + 1))
    (x : List α) (hx : x.length ≤ 1048576) (hp : ∀ e ∈ x, P e) (c : Int) (h0 : 0 ≤ c) (h1 : c + M * x.length ≤ 1152921504606846976) : ∃ y c', F N c 0 0 x = some (c', 0, y) ∧ y.length = x.length ∧ c ≤ c' ∧ c' ≤ c + M * x.length ∧ H N y c 0 0 = some (.inr (c', 0)) := by
  have hN : x.length < N := Nat.lt_of_le_of_lt hx (Nat.lt_trans (by omega) big)
  obtain ⟨y, c', a1, a2, a3, a4, _, a5⟩ := mh_loop (d := d) hM f0 g0 f1 x.length N N x c 0 0 0 hx (fun j _ hj => hp _ (by
    rw [List.getD_eq_getElem?_getD, List.getElem?_eq_getElem hj]
    exact List.getElem_mem hj)) h0 h1 (by omega) (by omega) (by omega) hN hN
  exact ⟨y, c', a1, a2, a3, a4, a5⟩
theorem mhB_loop {α : Type} {d : α} {F : Nat → Int → Int → Int → List α → Option (Int × Int × List α)} {H : Nat → List α → Int → Int → Int → Option (Int ⊕ (Int × Int))} {P : α → Prop} {M B : Int} (hM : 0 ≤ M)
    (f0 : ∀ n c q i x, ¬ i < (x.length : Int) → F (n + 1) c q i x = some (c, q, x)) (g0 : ∀ n x c q i, ¬ i < (x.length : Int) → H (n + 1) x c q i = some (.inr (c, q)))
    (f1 : ∀ c e, P e → 0 ≤ c → c ≤ B → ∃ e' c', c ≤ c' ∧ c' ≤ c + M ∧ (∀ n q i (x : List α), x.length ≤ 1048576 → 0 ≤ i → i < (x.length : Int) → x.getD i.toNat d = e → F (n + 1) c q i x = F n c' q (i + 1) (x.set i.toNat e')) ∧
      ∀ n q i (x : List α), x.length ≤ 1048576 → 0 ≤ i → i < (x.length : Int) → x.getD i.toNat d = e' → H (n + 1) x c q i = H n x c' q (i + 1))
    (k : Nat) : ∀ (n m : Nat) (x : List α) (c q q' i : Int), x.length ≤ 1048576 → (∀ j : Nat, i.toNat ≤ j → j < x.length → P (x.getD j d)) → 0 ≤ c → c + M * k ≤ B → 0 ≤ i → i ≤ x.length → (x.length : Int) - i = k → k < n → k < m →
      ∃ y c', F n c q i x = some (c', q, y) ∧ y.length = x.length ∧ c ≤ c' ∧ c' ≤ c + M * k ∧ (∀ j : Nat, j < i.toNat → y.getD j d = x.getD j d) ∧ H m y c q' i = some (.inr (c', q')) := by
  induction k with
  | zero =>
    intro n m x c q q' i hx hp hc0 hc1 h0 h1 hd hn hm
    obtain ⟨n, rfl⟩ := succ_fuel hn
    obtain ⟨m, rfl⟩ := succ_fuel hm
    exact ⟨x, c, f0 n c q i x (by omega), rfl, Int.le_refl _, by omega, fun _ _ => rfl, g0 m x c q' i (by omega)⟩
  | succ k ih =>
    intro n m x c q q' i hx hp hc0 hc1 h0 h1 hd hn hm
    obtain ⟨n, rfl⟩ := succ_fuel hn
    obtain ⟨m, rfl⟩ := succ_fuel hm
    have e1 : M * ((k + 1 : Nat) : Int) = M * (k : Int) + M := by rw [Int.natCast_add, Int.mul_add]; simp
    have e2 : 0 ≤ M * (k : Int) := Int.mul_nonneg hM (by omega)
    rw [e1] at hc1 ⊢
    obtain ⟨e', c1, b1, b2, b3, b4⟩ := f1 c _ (hp i.toNat (Nat.le_refl _) (by omega)) hc0 (by omega)
    obtain ⟨y, c', h2, h3, h4, h5, h6, h7⟩ := ih n m (x.set i.toNat e') c1 q q' (i + 1) (by rw [List.length_set]; exact hx) (fun j h2 h3 => by
      rw [List.length_set] at h3
      rw [getD_set_other x d e' i.toNat j (by omega)]
      exact hp j (by omega) h3) (by omega) (by omega) (by omega) (by rw [List.length_set]; omega) (by rw [List.length_set]; omega) (by omega) (by omega)
    rw [List.length_set] at h3
    refine ⟨y, c', ?_, h3, by omega, by omega, fun j hj => ?_, ?_⟩
    · rw [b3 n q i x hx h0 (by omega) rfl]; exact h2
    · rw [h6 j (by omega)]
      exact getD_set_other x d e' i.toNat j (by omega)
    · rw [b4 m q' i y (by omega) h0 (by omega) (by rw [h6 i.toNat (by omega)]; exact getD_set_self x d e' i h0 (by omega))]
      exact h7
/-- (with a bound.) What is marked from c on, holds what was marked. -/
theorem mhB_gen {α : Type} {d : α} {F : Nat → Int → Int → Int → List α → Option (Int × Int × List α)} {H : Nat → List α → Int → Int → Int → Option (Int ⊕ (Int × Int))} {P : α → Prop} {M B : Int} (hM : 0 ≤ M)
    (f0 : ∀ n c q i x, ¬ i < (x.length : Int) → F (n + 1) c q i x = some (c, q, x)) (g0 : ∀ n x c q i, ¬ i < (x.length : Int) → H (n + 1) x c q i = some (.inr (c, q)))
    (f1 : ∀ c e, P e → 0 ≤ c → c ≤ B → ∃ e' c', c ≤ c' ∧ c' ≤ c + M ∧ (∀ n q i (x : List α), x.length ≤ 1048576 → 0 ≤ i → i < (x.length : Int) → x.getD i.toNat d = e → F (n + 1) c q i x = F n c' q (i + 1) (x.set i.toNat e')) ∧
      ∀ n q i (x : List α), x.length ≤ 1048576 → 0 ≤ i → i < (x.length : Int) → x.getD i.toNat d = e' → H (n + 1) x c q i = H n x c' q (i + 1))
    (x : List α) (hx : x.length ≤ 1048576) (hp : ∀ e ∈ x, P e) (c : Int) (h0 : 0 ≤ c) (h1 : c + M * x.length ≤ B) : ∃ y c', F N c 0 0 x = some (c', 0, y) ∧ y.length = x.length ∧ c ≤ c' ∧ c' ≤ c + M * x.length ∧ H N y c 0 0 = some (.inr (c', 0)) := by
  have hN : x.length < N := Nat.lt_of_le_of_lt hx (Nat.lt_trans (by omega) big)
  obtain ⟨y, c', a1, a2, a3, a4, _, a5⟩ := mhB_loop (d := d) hM f0 g0 f1 x.length N N x c 0 0 0 hx (fun j _ hj => hp _ (by
    rw [List.getD_eq_getElem?_getD, List.getElem?_eq_getElem hj]
    exact List.getElem_mem hj)) h0 h1 (by omega) (by omega) (by omega) hN hN
  exact ⟨y, c', a1, a2, a3, a4, a5⟩
theorem markIntB (x : List Int) (hx : x.length ≤ 1048576) (c : Int) (h0 : 0 ≤ c) (h1 : c ≤ 1152921504606846976) : ∃ y c', f_laws_markIntS x c = some (c', y) ∧ y.length = x.length ∧ c ≤ c' ∧ c' ≤ c + x.length ∧ f_laws_heldIntS y c = some c' := by
  obtain ⟨y, c', a1, a2, a3, a4, a5⟩ := mhB_gen (d := (0 : Int)) (F := f_laws_markIntS.l0) (H := f_laws_heldIntS.l0) (P := fun _ => True) (M := 1) (B := 2305843009213693952) (by omega)
    (fun n c q i x h => by simp only [f_laws_markIntS.l0, decide_eq_false h, cond_false]) (fun n x c q i h => by simp only [f_laws_heldIntS.l0, decide_eq_false h, cond_false])
    (fun c e _ h0 h1 => ⟨c, c + 1, by omega, by omega, fun n q i x hx hi0 hi1 _ => by
      simp only [f_laws_markIntS.l0, decide_eq_true hi1, decide_eq_true hi0, cond_true, Bool.and_self, Option.bind_some, w64 (show -9223372036854775808 ≤ c + 1 by omega) (by omega), w64 (show -9223372036854775808 ≤ i + 1 by omega) (by omega)],
      fun n q i x hx hi0 hi1 he => by
      simp only [f_laws_heldIntS.l0, decide_eq_true hi1, decide_eq_true hi0, cond_true, Bool.and_self, he, decide_true, Bool.not_true, cond_false, w64 (show -9223372036854775808 ≤ c + 1 by omega) (by omega), w64 (show -9223372036854775808 ≤ i + 1 by omega) (by omega)]⟩)
    x hx (fun _ _ => trivial) c h0 (by omega)
  refine ⟨y, c', ?_, a2, a3, by omega, ?_⟩
  · unfold f_laws_markIntS; rw [a1]; rfl
  · unfold f_laws_heldIntS; rw [a5]; rfl
theorem markIntS (x : List Int) (hx : x.length ≤ 1048576) (c : Int) (h0 : 0 ≤ c) (h1 : c ≤ 1099511627776) : ∃ y c', f_laws_markIntS x c = some (c', y) ∧ y.length = x.length ∧ c ≤ c' ∧ c' ≤ c + x.length ∧ f_laws_heldIntS y c = some c' := markIntB x hx c h0 (by omega)
theorem markMsgB (x : List MsgL) (hx : x.length ≤ 1048576) (he : ∀ e ∈ x, e.2.2.2.length ≤ 1048576) (c : Int) (h0 : 0 ≤ c) (h1 : c ≤ 288230376151711744) : ∃ y c', f_laws_markMsgS x c = some (c', y) ∧ y.length = x.length ∧ c ≤ c' ∧ c' ≤ c + 1048579 * x.length ∧ f_laws_heldMsgS y c = some c' := by
  obtain ⟨y, c', a1, a2, a3, a4, a5⟩ := mhB_gen (d := ((0 : Int), (0 : Int), false, ([] : List Int))) (F := f_laws_markMsgS.l0) (H := f_laws_heldMsgS.l0) (P := fun e : MsgL => e.2.2.2.length ≤ 1048576) (M := 1048579) (B := 576460752303423488) (by omega)
    (fun n c q i x h => by simp only [f_laws_markMsgS.l0, decide_eq_false h, cond_false]) (fun n x c q i h => by simp only [f_laws_heldMsgS.l0, decide_eq_false h, cond_false])
    (fun c e he h0 h1 => by
      obtain ⟨y, c1, b1, b2, b3, b4, b5⟩ := markIntB e.2.2.2 he (c + 3) (by omega) (by omega)
      refine ⟨(c, c + 1, decide (Int.tmod (c + 2) 3 = 0), y), c1, by omega, by omega, fun n q i x hx hi0 hi1 hxe => ?_, fun n q i x hx hi0 hi1 hxe => ?_⟩
      · simp only [f_laws_markMsgS.l0, decide_eq_true hi1, decide_eq_true hi0, cond_true, Bool.and_self, hxe, Option.bind_some, List.length_set, List.set_set, getD_set_self x _ _ i hi0 hi1, w64 (show -9223372036854775808 ≤ c + 1 by omega) (by omega), w64 (show -9223372036854775808 ≤ i + 1 by omega) (by omega), show c + 1 + 1 = c + 2 by omega, w64 (show -9223372036854775808 ≤ c + 2 by omega) (by omega), show c + 2 + 1 = c + 3 by omega, w64 (show -9223372036854775808 ≤ c + 3 by omega) (by omega), b1]
      · simp only [f_laws_heldMsgS.l0, decide_eq_true hi1, decide_eq_true hi0, cond_true, Bool.and_self, hxe, w64 (show -9223372036854775808 ≤ c + 1 by omega) (by omega), w64 (show -9223372036854775808 ≤ i + 1 by omega) (by omega), show c + 1 + 1 = c + 2 by omega, w64 (show -9223372036854775808 ≤ c + 2 by omega) (by omega), show c + 2 + 1 = c + 3 by omega, w64 (show -9223372036854775808 ≤ c + 3 by omega) (by omega), b5, Option.bind_some, decide_eq_false (show ¬ c1 < 0 by omega), cond_false, decide_true, Bool.not_true, beq_self_eq_true])
    x hx he c h0 (by omega)
  refine ⟨y, c', ?_, a2, a3, a4, ?_⟩
  · unfold f_laws_markMsgS; rw [a1]; rfl
  · unfold f_laws_heldMsgS; rw [a5]; rfl
theorem markSender (a : Int) (x : List MsgL) (hx : x.length ≤ 1048576) (he : ∀ e ∈ x, e.2.2.2.length ≤ 1048576) (c : Int) (h0 : 0 ≤ c) (h1 : c ≤ 288230376151711744) : ∃ y c', f_laws_markSender a x c = some (c', y) ∧ y.length = x.length ∧ c ≤ c' ∧ c' ≤ c + 1048579 * x.length ∧ f_laws_heldSender a y c = some c' := by
  obtain ⟨y, c', a1, a2, a3, a4, a5⟩ := markMsgB x hx he c h0 h1
  refine ⟨y, c', ?_, a2, a3, a4, ?_⟩
  · unfold f_laws_markSender; rw [a1]; rfl
  · unfold f_laws_heldSender; rw [a5]; simp only [Option.bind_some, decide_eq_false (show ¬ c' < 0 by omega), cond_false]
theorem queue (a : Int) (x : List MsgL) (x2 x3 : Int) (x4 : Bool) (x5 : List Int) (hx : x.length ≤ 9223372036854775807) (hb : ∀ e ∈ x, e.2.2.2.length ≤ 9223372036854775807) (hx5 : x5.length ≤ 9223372036854775807) : f_laws_FnExactQueue a x x2 x3 x4 x5 = some true := by
  unfold f_laws_FnExactQueue
  rcases szSender a x 1048576 (by omega) (by omega) hx hb with h | ⟨l, h, l0, l1, hn, he⟩
  · simp only [h, Option.bind_some]; rfl
  · simp only [h, Option.bind_some, decide_eq_false (show ¬ l < 0 by omega), cond_false]
    rcases szMsg x2 x3 x4 x5 l l0 l1 hx5 with h' | ⟨h', k⟩
    · simp only [h', Option.bind_some]; rfl
    · have h5 : x5.length ≤ 1048576 := by omega
      obtain ⟨b, ok, h0, -, -, -, h1, h2⟩ := same_queue a x x2 x3 x4 x5 hn he h5
      have hq : (queueB a x b (x2, x3, x4, x5) ok).2.1.length ≤ 1048576 ∧ ∀ e ∈ (queueB a x b (x2, x3, x4, x5) ok).2.1, e.2.2.2.length ≤ 1048576 := by
        cases b with
        | false => unfold queueB; rw [if_neg (fun h => by cases h.1)]; exact ⟨hn, he⟩
        | true =>
          obtain ⟨f0, f1, f2, f3, -⟩ := senderOk_facts a x hn he h0
          exact queueB_ok a x true (x2, x3, x4, x5) ok (by omega) he h5
      obtain ⟨k1, k2⟩ := hq
      generalize queueB a x b (x2, x3, x4, x5) ok = r at h1 h2 k1 k2
      obtain ⟨y, c, m1, m2, m3, m4, m5⟩ := markSender a x hn he 1 (by omega) (by omega)
      obtain ⟨y1, c1, n1, n2, n3, n4, n5⟩ := markIntB x5 h5 c (by omega) (by omega)
      obtain ⟨y', c', q1, q2, q3, q4, q5⟩ := markSender r.1 r.2.1 k1 k2 1 (by omega) (by omega)
      unfold f_laws_markMsg
      simp only [h', cond_false, Option.bind_some, decide_eq_false (show ¬ l - (x5.length : Int) < 0 by omega), toSender_self a x hn he, toMsg_self x2 x3 x4 x5 h5, h1, h2, eqSender_self a x hn he, eqMsg_self x2 x3 x4 x5 h5, eqSender_self r.1 r.2.1 k1 k2, Bool.not_true, beq_self_eq_true, decide_true, m1, n1, q1, q5, decide_eq_false (show ¬ c1 < 0 by omega), decide_eq_false (show ¬ c' < 0 by omega)]
theorem plain : Pure := fun x h => queue x.1 x.2.1 x.2.2.1 x.2.2.2.1 x.2.2.2.2.1 x.2.2.2.2.2 h.2.1.1 (all_getD (d := (0, 0, false, [])) fun i hi => (h.2.1.2 i hi).2.2.2.1) h.2.2.2.2.2.1
end Go.Abs
