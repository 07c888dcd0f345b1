/- The law FnExactSenderOk returns true for every sender: the program's SenderOk says what the reference's says, and turns nothing. A sender of more than 2^20 messages and words is not asked for. -/
import Derived.Test.YtbecooalhanmeaaMFnExactSenderOk
import Derived.Laws.BitsLemmas
namespace Go.Abs
open Go.RowKit

theorem w64 {n : Int} (h0 : -9223372036854775808 ≤ n) (h1 : n ≤ 9223372036854775807) : IntKind.wrap .i64 n = n := by
  rw [IntKind.wrap_i64]
  omega
theorem succ_fuel {n d : Nat} (h : d < n) : ∃ m, n = m + 1 := ⟨n - 1, by omega⟩
theorem big : (1048577 : Nat) < N := by decide
theorem mem_getD {α : Type} (x : List α) (d : α) (i : Int) (h0 : 0 ≤ i) (h1 : i < x.length) : x.getD i.toNat d ∈ x := by
  have hlt : i.toNat < x.length := by omega
  rw [List.getD_eq_getElem?_getD, List.getElem?_eq_getElem hlt]
  exact List.getElem_mem hlt
theorem drop_getD {α : Type} (x : List α) (d : α) (i : Int) (h0 : 0 ≤ i) (h1 : i < x.length) : x.drop i.toNat = x.getD i.toNat d :: x.drop (i + 1).toNat := by
  have hlt : i.toNat < x.length := by omega
  have e : (i + 1).toNat = i.toNat + 1 := by omega
  rw [e, List.drop_eq_getElem_cons hlt, List.getD_eq_getElem?_getD, List.getElem?_eq_getElem hlt]
  rfl
theorem to_gen {α : Type} {d : α} {F : Nat → List α → Int → List α → Option (List α)} {g : α → Option α}
    (hs : ∀ n x i y, F (n + 1) x i y = bif decide (i < (x.length : Int)) then (bif (decide ((0 : Int) ≤ i) && decide (i < (x.length : Int))) then (g (x.getD i.toNat d)).bind fun e => (bif (decide ((0 : Int) ≤ i) && decide (i < (y.length : Int))) then F n x (IntKind.wrap .i64 (i + 1)) (y.set i.toNat e) else none) else none) else some y)
    (x : List α) (hn : x.length ≤ 1048576) (hg : ∀ e ∈ x, g e = some e) (k : Nat) : ∀ (n : Nat) (y : List α) (i : Int), 0 ≤ i → i ≤ x.length → (x.length : Int) - i = k → k < n → y.length = x.length → y.take i.toNat = x.take i.toNat → F n x i y = some x := by
  induction k with
  | zero =>
    intro n y i h0 h1 hd hk hl ht
    obtain ⟨n, rfl⟩ := succ_fuel hk
    rw [hs, decide_eq_false (by omega), cond_false]
    rw [List.take_of_length_le (by omega), List.take_of_length_le (by omega)] at ht
    rw [ht]
  | succ k ih =>
    intro n y i h0 h1 hd hk hl ht
    obtain ⟨n, rfl⟩ := succ_fuel hk
    have hw : IntKind.wrap .i64 (i + 1) = i + 1 := w64 (by omega) (by omega)
    have hlt : i.toNat < x.length := by omega
    rw [hs, decide_eq_true (show i < (x.length : Int) by omega), decide_eq_true h0, decide_eq_true (show i < (y.length : Int) by omega), hw, hg _ (mem_getD x d i h0 (by omega))]
    simp only [cond_true, Bool.and_self, Option.bind_some]
    refine ih n _ (i + 1) (by omega) (by omega) (by omega) (by omega) (by rw [List.length_set]; exact hl) ?_
    have e : (i + 1).toNat = i.toNat + 1 := by omega
    rw [e, List.take_add_one, List.take_add_one, List.take_set, List.getElem?_set_self (by omega), List.getElem?_eq_getElem hlt]
    have : x.getD i.toNat d = x[i.toNat] := by rw [List.getD_eq_getElem?_getD, List.getElem?_eq_getElem hlt]; rfl
    rw [this, List.set_eq_of_length_le (by rw [List.length_take]; omega), ht]
theorem eq_gen {α : Type} {d : α} {F : Nat → List α → List α → Bool → Int → Option (Bool ⊕ Bool)} {q : α → α → Option Bool}
    (hs : ∀ n x y b i, F (n + 1) x y b i = bif decide (i < (x.length : Int)) then (bif (decide ((0 : Int) ≤ i) && decide (i < (x.length : Int))) then (bif (decide ((0 : Int) ≤ i) && decide (i < (y.length : Int))) then (q (x.getD i.toNat d) (y.getD i.toNat d)).bind fun r => (bif (!r) then some (.inl false) else F n x y b (IntKind.wrap .i64 (i + 1))) else none) else none) else some (.inr b))
    (x : List α) (hn : x.length ≤ 1048576) (hq : ∀ e ∈ x, q e e = some true) (b : Bool) (k : Nat) : ∀ (n : Nat) (i : Int), 0 ≤ i → i ≤ x.length → (x.length : Int) - i = k → k < n → F n x x b i = some (.inr b) := by
  induction k with
  | zero =>
    intro n i h0 h1 hd hk
    obtain ⟨n, rfl⟩ := succ_fuel hk
    rw [hs, decide_eq_false (by omega), cond_false]
  | succ k ih =>
    intro n i h0 h1 hd hk
    obtain ⟨n, rfl⟩ := succ_fuel hk
    have hw : IntKind.wrap .i64 (i + 1) = i + 1 := w64 (by omega) (by omega)
    rw [hs, decide_eq_true (show i < (x.length : Int) by omega), decide_eq_true h0, hw, hq _ (mem_getD x d i h0 (by omega))]
    simp only [cond_true, Bool.and_self, Option.bind_some, Bool.not_true, cond_false]
    exact ih n (i + 1) (by omega) (by omega) (by omega) (by omega)
theorem sz_gen {α : Type} {d : α} {F : Nat → List α → Int → Int → Int → Option (Int ⊕ (Int × Int))} {s : α → Int → Option Int} {Ok : α → Prop}
    (hs : ∀ n x l q i, F (n + 1) x l q i = bif decide (i < (x.length : Int)) then (bif (decide ((0 : Int) ≤ i) && decide (i < (x.length : Int))) then (s (x.getD i.toNat d) l).bind fun r => (bif decide (r < 0) then some (.inl (-1)) else F n x r q (IntKind.wrap .i64 (i + 1))) else none) else some (.inr (l, q)))
    (x : List α) (hn : x.length ≤ 1048576) (he : ∀ e ∈ x, ∀ l, 0 ≤ l → l ≤ 1048576 → s e l = some (-1) ∨ ∃ l', s e l = some l' ∧ 0 ≤ l' ∧ l' ≤ l ∧ Ok e) (q : Int) (k : Nat) :
    ∀ (n : Nat) (l i : Int), 0 ≤ l → l ≤ 1048576 → 0 ≤ i → i ≤ x.length → (x.length : Int) - i = k → k < n → F n x l q i = some (.inl (-1)) ∨ ∃ l', F n x l q i = some (.inr (l', q)) ∧ 0 ≤ l' ∧ l' ≤ l ∧ ∀ e ∈ x.drop i.toNat, Ok e := by
  induction k with
  | zero =>
    intro n l i hl0 hl1 h0 h1 hd hk
    obtain ⟨n, rfl⟩ := succ_fuel hk
    rw [hs, decide_eq_false (show ¬ i < (x.length : Int) by omega), cond_false, List.drop_eq_nil_of_le (by omega)]
    exact .inr ⟨l, rfl, hl0, Int.le_refl _, fun e h => by cases h⟩
  | succ k ih =>
    intro n l i hl0 hl1 h0 h1 hd hk
    obtain ⟨n, rfl⟩ := succ_fuel hk
    have hw : IntKind.wrap .i64 (i + 1) = i + 1 := w64 (by omega) (by omega)
    rw [hs, decide_eq_true (show i < (x.length : Int) by omega), decide_eq_true h0, hw]
    simp only [cond_true, Bool.and_self]
    rcases he _ (mem_getD x d i h0 (by omega)) l hl0 hl1 with h | ⟨l', h, a0, a1, a2⟩
    · rw [h]; exact .inl rfl
    · rw [h, Option.bind_some, decide_eq_false (show ¬ l' < 0 by omega), cond_false]
      rcases ih n l' (i + 1) a0 (by omega) (by omega) (by omega) (by omega) (by omega) with h2 | ⟨l2, h2, b0, b1, b2⟩
      · exact .inl h2
      · refine .inr ⟨l2, h2, b0, by omega, fun e hm => ?_⟩
        rw [drop_getD x d i h0 (by omega)] at hm
        rcases List.mem_cons.1 hm with rfl | hm
        · exact a2
        · exact b2 e hm
theorem lt_N {x : Nat} (h : x ≤ 1048576) : x < N := Nat.lt_of_le_of_lt h (Nat.lt_trans (by omega) big)
theorem all_getD {α : Type} {x : List α} {d : α} {Pr : α → Prop} (h : ∀ i, i < x.length → Pr (x.getD i d)) : ∀ e ∈ x, Pr e := by
  intro e he
  obtain ⟨i, hi, rfl⟩ := List.getElem_of_mem he
  have := h i hi
  rw [List.getD_eq_getElem?_getD, List.getElem?_eq_getElem hi] at this
  exact this
def rng (x m : Int) : Bool := decide ((0 : Int) ≤ x) && decide (x ≤ m)
theorem in_rng (x m : Int) : f_spec_l1In x 0 m = some (rng x m) := by
  unfold f_spec_l1In rng
  cases decide ((0 : Int) ≤ x) <;> rfl
theorem from_rng (x m : Int) : f_impl_from x 0 m = some (rng x m) := by
  unfold f_impl_from rng
  cases decide ((0 : Int) ≤ x) <;> rfl
def rg (x a b : Int) : Bool := decide (a ≤ x) && decide (x ≤ b)
theorem in_rg (x a b : Int) : f_spec_l1In x a b = some (rg x a b) := by
  unfold f_spec_l1In rg
  cases decide (a ≤ x) <;> rfl
theorem from_rg (x a b : Int) : f_impl_from x a b = some (rg x a b) := by
  unfold f_impl_from rg
  cases decide (a ≤ x) <;> rfl
theorem szIntS (x : List Int) (left : Int) (h0 : 0 ≤ left) (h1 : left ≤ 1048576) (hx : x.length ≤ 9223372036854775807) :
    (f_laws_szIntS x left = some (-1)) ∨ (f_laws_szIntS x left = some (left - x.length) ∧ (x.length : Int) ≤ left) := by
  unfold f_laws_szIntS
  rw [w64 (by omega) (by omega)]
  by_cases h : left - (x.length : Int) < 0
  · rw [decide_eq_true h]; exact .inl rfl
  · rw [decide_eq_false h]; exact .inr ⟨rfl, by omega⟩
theorem toIntS_loop (x : List Int) (hn : x.length ≤ 1048576) (d : Nat) : ∀ (n : Nat) (y : List Int) (i : Int), 0 ≤ i → i ≤ x.length → (x.length : Int) - i = d → d < n → y.length = x.length → y.take i.toNat = x.take i.toNat → f_laws_toIntS.l0 n x i y = some x := by
  induction d with
  | zero =>
    intro n y i h0 h1 hd hk hl ht
    obtain ⟨n, rfl⟩ := succ_fuel hk
    simp only [f_laws_toIntS.l0]
    rw [decide_eq_false (by omega), cond_false]
    rw [List.take_of_length_le (by omega), List.take_of_length_le (by omega)] at ht
    rw [ht]
  | succ d ih =>
    intro n y i h0 h1 hd hk hl ht
    obtain ⟨n, rfl⟩ := succ_fuel hk
    have hw : IntKind.wrap .i64 (i + 1) = i + 1 := w64 (by omega) (by omega)
    have hlt : i.toNat < x.length := by omega
    simp only [f_laws_toIntS.l0]
    rw [decide_eq_true (show i < (x.length : Int) by omega), decide_eq_true h0, decide_eq_true (show i < (y.length : Int) by omega), hw]
    simp only [cond_true, Bool.and_self, Option.bind_some]
    refine ih n _ (i + 1) (by omega) (by omega) (by omega) (by omega) (by rw [List.length_set]; exact hl) ?_
    have e : (i + 1).toNat = i.toNat + 1 := by omega
    rw [e, List.take_add_one, List.take_add_one, List.take_set, List.getElem?_set_self (by omega), List.getElem?_eq_getElem hlt]
    have : x.getD i.toNat 0 = x[i.toNat] := by rw [List.getD_eq_getElem?_getD, List.getElem?_eq_getElem hlt]; rfl
    rw [this, List.set_eq_of_length_le (by rw [List.length_take]; omega), ht]
theorem toIntS (x : List Int) (hn : x.length ≤ 1048576) : f_laws_toIntS x = some x := by
  unfold f_laws_toIntS
  rw [decide_eq_true (by omega), show Nat.ble ((x.length : Int).toNat) 17592186044416 = true from Nat.ble_eq_true_of_le (by omega)]
  simp only [Bool.and_self, cond_true]
  rw [toIntS_loop x hn x.length N _ 0 (by omega) (by omega) (by omega) (Nat.lt_of_le_of_lt (by omega) big) (by simp) (by simp)]
  rfl
theorem eqIntS_loop (x : List Int) (hn : x.length ≤ 1048576) (b : Bool) (d : Nat) : ∀ (n : Nat) (i : Int), 0 ≤ i → i ≤ x.length → (x.length : Int) - i = d → d < n → f_laws_eqIntS.l0 n x x b i = some (.inr b) := by
  induction d with
  | zero =>
    intro n i h0 h1 hd hk
    obtain ⟨n, rfl⟩ := succ_fuel hk
    simp only [f_laws_eqIntS.l0]
    rw [decide_eq_false (by omega), cond_false]
  | succ d ih =>
    intro n i h0 h1 hd hk
    obtain ⟨n, rfl⟩ := succ_fuel hk
    have hw : IntKind.wrap .i64 (i + 1) = i + 1 := w64 (by omega) (by omega)
    simp only [f_laws_eqIntS.l0]
    rw [decide_eq_true (show i < (x.length : Int) by omega), decide_eq_true h0, hw]
    simp only [cond_true, Bool.and_self, decide_true, Bool.not_true, cond_false]
    exact ih n (i + 1) (by omega) (by omega) (by omega) (by omega)
theorem eqIntS (x : List Int) (hn : x.length ≤ 1048576) : f_laws_eqIntS x x = some true := by
  unfold f_laws_eqIntS
  simp only [decide_true, Bool.not_true, cond_false]
  rw [eqIntS_loop x hn false x.length N 0 (by omega) (by omega) (by omega) (Nat.lt_of_le_of_lt (by omega) big)]
  rfl
def allW (x : List Int) : Bool := x.all fun w => rng w 65535
theorem drop_step (x : List Int) (i : Int) (h0 : 0 ≤ i) (h1 : i < x.length) : x.drop i.toNat = x.getD i.toNat 0 :: x.drop (i + 1).toNat := by
  have hlt : i.toNat < x.length := by omega
  have e : (i + 1).toNat = i.toNat + 1 := by omega
  rw [e, List.drop_eq_getElem_cons hlt, List.getD_eq_getElem?_getD, List.getElem?_eq_getElem hlt]
  rfl
theorem specWords_loop (x : List Int) (hn : x.length ≤ 1048576) (k : Int) (b : Bool) (d : Nat) : ∀ (n : Nat) (i : Int), 0 ≤ i → i ≤ x.length → (x.length : Int) - i = d → d < n →
    f_spec_l1Words.l0 n x k b i = some (bif allW (x.drop i.toNat) then .inr (x, k, b) else .inl false) := by
  induction d with
  | zero =>
    intro n i h0 h1 hd hk
    obtain ⟨n, rfl⟩ := succ_fuel hk
    simp only [f_spec_l1Words.l0]
    rw [decide_eq_false (by omega), cond_false, List.drop_eq_nil_of_le (by omega)]
    rfl
  | succ d ih =>
    intro n i h0 h1 hd hk
    obtain ⟨n, rfl⟩ := succ_fuel hk
    have hw : IntKind.wrap .i64 (i + 1) = i + 1 := w64 (by omega) (by omega)
    simp only [f_spec_l1Words.l0]
    rw [decide_eq_true (show i < (x.length : Int) by omega), decide_eq_true h0, hw, in_rng, drop_step x i h0 (by omega)]
    simp only [cond_true, Bool.and_self, Option.bind_some]
    unfold allW
    rw [List.all_cons]
    cases hr : rng (x.getD i.toNat 0) 65535 with
    | false => rfl
    | true =>
      simp only [Bool.not_true, cond_false, Bool.true_and]
      exact ih n (i + 1) (by omega) (by omega) (by omega) (by omega)
theorem specWords (x : List Int) (hn : x.length ≤ 1048576) (k : Int) : f_spec_l1Words x k = some (allW x && decide ((x.length : Int) = k)) := by
  unfold f_spec_l1Words
  rw [specWords_loop x hn k false x.length N 0 (by omega) (by omega) (by omega) (Nat.lt_of_le_of_lt (by omega) big)]
  simp only [Int.toNat_zero, List.drop_zero, Option.bind_some]
  cases allW x <;> rfl
theorem implWords_loop (x : List Int) (hn : x.length ≤ 1048576) (q : Int) (d : Nat) : ∀ (n : Nat) (i : Int), 0 ≤ i → i ≤ x.length → (x.length : Int) - i = d → d < n →
    (allW (x.drop i.toNat) = true ∧ f_impl_wordsOk.l0 n x q (x.length : Int) i = some (.inr q)) ∨ (allW (x.drop i.toNat) = false ∧ ∃ j : Int, 0 ≤ j ∧ f_impl_wordsOk.l0 n x q (x.length : Int) i = some (.inl j)) := by
  induction d with
  | zero =>
    intro n i h0 h1 hd hk
    obtain ⟨n, rfl⟩ := succ_fuel hk
    simp only [f_impl_wordsOk.l0]
    rw [decide_eq_false (show ¬ i < (x.length : Int) by omega), cond_false, List.drop_eq_nil_of_le (by omega)]
    exact .inl ⟨rfl, rfl⟩
  | succ d ih =>
    intro n i h0 h1 hd hk
    obtain ⟨n, rfl⟩ := succ_fuel hk
    have hw : IntKind.wrap .i64 (i + 1) = i + 1 := w64 (by omega) (by omega)
    have ih2 := ih n (i + 1) (by omega) (by omega) (by omega) (by omega)
    simp only [f_impl_wordsOk.l0]
    rw [decide_eq_true (show i < (x.length : Int) by omega), decide_eq_true h0, hw, drop_step x i h0 (by omega)]
    unfold f_impl_wordsOk_1 f_impl_isWord
    simp only [cond_true, Bool.and_self, from_rng, Option.bind_some]
    unfold allW at ih2 ⊢
    rw [List.all_cons]
    cases hr : rng (x.getD i.toNat 0) 65535 with
    | false => exact .inr ⟨rfl, i, h0, rfl⟩
    | true =>
      simp only [Bool.not_true, cond_false, Bool.true_and]
      exact ih2
theorem implWords (x : List Int) (hn : x.length ≤ 1048576) (k : Int) : f_impl_wordsOk x k = some (allW x && decide ((x.length : Int) = k)) := by
  unfold f_impl_wordsOk
  have h := implWords_loop x hn 0 x.length N 0 (by omega) (by omega) (by omega) (Nat.lt_of_le_of_lt (by omega) big)
  simp only [Int.toNat_zero, List.drop_zero] at h
  cases decide ((x.length : Int) = k) with
  | false => simp
  | true =>
    rcases h with ⟨h1, h2⟩ | ⟨h1, j, h3, h2⟩
    · simp only [cond_true, h2, Option.bind_some, h1, Bool.and_true]; rfl
    · simp only [cond_true, h2, Option.bind_some, h1, Bool.and_true]
      show some (!(decide ((0 : Int) ≤ j))) = some false
      rw [decide_eq_true h3]; rfl
theorem allW_nil (x : List Int) : (allW x && decide ((x.length : Int) = 0)) = decide ((x.length : Int) = 0) := by
  cases x with
  | nil => rfl
  | cons a x =>
    rw [decide_eq_false (by simp; omega), Bool.and_false]
theorem same_msgOk (x0 x1 : Int) (x2 : Bool) (x3 : List Int) (hn : x3.length ≤ 1048576) : ∃ b, f_spec_MsgOk x0 x1 x2 x3 = some b ∧ f_impl_MsgOk x0 x1 x2 x3 = some b := by
  unfold f_spec_MsgOk f_impl_MsgOk f_impl_isPage
  simp only [specWords x3 hn, implWords x3 hn, in_rg, from_rg, Option.bind_some, allW_nil]
  by_cases h3 : x0 = 3
  · subst h3
    rw [show rg 3 1 7 = true from rfl]
    cases rg x1 0 5 <;> cases x2 <;> exact ⟨_, rfl, rfl⟩
  · by_cases h7 : x0 = 7
    · subst h7
      rw [show rg 7 1 7 = true from rfl]
      cases rg x1 0 5 <;> cases x2 <;> exact ⟨_, rfl, rfl⟩
    · by_cases h6 : x0 = 6
      · subst h6
        rw [show rg 6 1 7 = true from rfl]
        cases rg x1 0 5 <;> cases x2 <;> exact ⟨_, rfl, rfl⟩
      · rw [decide_eq_false h3, decide_eq_false h7, decide_eq_false h6]
        cases rg x0 1 7 <;> cases rg x1 0 5 <;> cases x2 <;> exact ⟨_, rfl, rfl⟩
theorem eqMsg_self (a b : Int) (c : Bool) (x : List Int) (hn : x.length ≤ 1048576) : f_laws_eqMsg a b c x a b c x = some true := by
  unfold f_laws_eqMsg
  simp only [decide_true, Bool.not_true, cond_false, beq_self_eq_true, eqIntS x hn, Option.bind_some]
theorem toMsg_self (a b : Int) (c : Bool) (x : List Int) (hn : x.length ≤ 1048576) : f_laws_toMsg a b c x = some (a, b, c, x) := by
  unfold f_laws_toMsg
  simp only [toIntS x hn, Option.bind_some]
theorem szMsg (a b : Int) (c : Bool) (x : List Int) (left : Int) (h0 : 0 ≤ left) (h1 : left ≤ 1048576) (hx : x.length ≤ 9223372036854775807) :
    (f_laws_szMsg a b c x left = some (-1)) ∨ (f_laws_szMsg a b c x left = some (left - x.length) ∧ (x.length : Int) ≤ left) := by
  unfold f_laws_szMsg
  rcases szIntS x left h0 h1 hx with h | ⟨h, hl⟩
  · simp only [h, Option.bind_some]; exact .inl rfl
  · simp only [h, Option.bind_some]
    rw [decide_eq_false (by omega)]
    exact .inr ⟨rfl, hl⟩
abbrev MsgL := Int × Int × Bool × List Int
theorem szMsgS (x : List MsgL) (left : Int) (h0 : 0 ≤ left) (h1 : left ≤ 1048576) (hx : x.length ≤ 9223372036854775807) (he : ∀ e ∈ x, e.2.2.2.length ≤ 9223372036854775807) :
    f_laws_szMsgS x left = some (-1) ∨ ∃ l, f_laws_szMsgS x left = some l ∧ 0 ≤ l ∧ l ≤ left ∧ x.length ≤ 1048576 ∧ ∀ e ∈ x, e.2.2.2.length ≤ 1048576 := by
  unfold f_laws_szMsgS
  rw [w64 (by omega) (by omega)]
  by_cases h : left - (x.length : Int) < 0
  · rw [decide_eq_true h]; exact .inl rfl
  · rw [decide_eq_false h, cond_false]
    have hn : x.length ≤ 1048576 := by omega
    rcases sz_gen (F := f_laws_szMsgS.l0) (s := fun e l => f_laws_szMsg e.1 e.2.1 e.2.2.1 e.2.2.2 l) (Ok := fun e : MsgL => e.2.2.2.length ≤ 1048576) (d := (0, 0, false, [])) (fun n x l q i => rfl) x hn (fun e hm l a0 a1 => by
        rcases szMsg e.1 e.2.1 e.2.2.1 e.2.2.2 l a0 a1 (he e hm) with h2 | ⟨h2, h3⟩
        · exact .inl h2
        · exact .inr ⟨_, h2, by omega, by omega, by omega⟩) 0 x.length N (left - (x.length : Int)) 0 (by omega) (by omega) (by omega) (by omega) (by omega) (lt_N hn) with h2 | ⟨l, h2, b0, b1, b2⟩
    · rw [h2]; exact .inl rfl
    · rw [h2]
      exact .inr ⟨l, rfl, b0, by omega, hn, fun e hm => b2 e (by simpa using hm)⟩
theorem toMsgS (x : List MsgL) (hn : x.length ≤ 1048576) (he : ∀ e ∈ x, e.2.2.2.length ≤ 1048576) : f_laws_toMsgS x = some x := by
  unfold f_laws_toMsgS
  rw [decide_eq_true (by omega), show Nat.ble ((x.length : Int).toNat) 2932031007402 = true from Nat.ble_eq_true_of_le (by omega)]
  simp only [Bool.and_self, cond_true]
  rw [to_gen (F := f_laws_toMsgS.l0) (g := fun e => f_laws_toMsg e.1 e.2.1 e.2.2.1 e.2.2.2) (d := (0, 0, false, [])) (fun n x i y => rfl) x hn (fun e hm => toMsg_self _ _ _ _ (he e hm)) x.length N _ 0 (by omega) (by omega) (by omega) (lt_N hn) (by simp) (by simp)]
  rfl
theorem eqMsgS (x : List MsgL) (hn : x.length ≤ 1048576) (he : ∀ e ∈ x, e.2.2.2.length ≤ 1048576) : f_laws_eqMsgS x x = some true := by
  unfold f_laws_eqMsgS
  simp only [decide_true, Bool.not_true, cond_false]
  rw [eq_gen (F := f_laws_eqMsgS.l0) (q := fun e f => f_laws_eqMsg e.1 e.2.1 e.2.2.1 e.2.2.2 f.1 f.2.1 f.2.2.1 f.2.2.2) (d := (0, 0, false, [])) (fun n x y b i => rfl) x hn (fun e hm => eqMsg_self _ _ _ _ (he e hm)) false x.length N 0 (by omega) (by omega) (by omega) (lt_N hn)]
  rfl
noncomputable def tM (e : MsgL) : Bool := (f_spec_MsgOk e.1 e.2.1 e.2.2.1 e.2.2.2).getD false
theorem tM_eq (e : MsgL) (h : e.2.2.2.length ≤ 1048576) : f_spec_MsgOk e.1 e.2.1 e.2.2.1 e.2.2.2 = some (tM e) ∧ f_impl_MsgOk e.1 e.2.1 e.2.2.1 e.2.2.2 = some (tM e) := by
  obtain ⟨b, h1, h2⟩ := same_msgOk e.1 e.2.1 e.2.2.1 e.2.2.2 h
  unfold tM
  rw [h1, h2]
  exact ⟨rfl, rfl⟩
theorem senderS_loop (x : List MsgL) (hn : x.length ≤ 1048576) (he : ∀ e ∈ x, e.2.2.2.length ≤ 1048576) (c : Bool) (a : Int) (k : Nat) : ∀ (n : Nat) (i : Int), 0 ≤ i → i ≤ x.length → (x.length : Int) - i = k → k < n →
    f_spec_SenderOk.l0 n c i a x = some (bif (x.drop i.toNat).all tM then .inr (c, a, x) else .inl false) := by
  induction k with
  | zero =>
    intro n i h0 h1 hd hk
    obtain ⟨n, rfl⟩ := succ_fuel hk
    simp only [f_spec_SenderOk.l0]
    rw [decide_eq_false (show ¬ i < (x.length : Int) by omega), cond_false, List.drop_eq_nil_of_le (by omega)]
    rfl
  | succ k ih =>
    intro n i h0 h1 hd hk
    obtain ⟨n, rfl⟩ := succ_fuel hk
    have hw : IntKind.wrap .i64 (i + 1) = i + 1 := w64 (by omega) (by omega)
    simp only [f_spec_SenderOk.l0]
    rw [decide_eq_true (show i < (x.length : Int) by omega), decide_eq_true h0, hw, (tM_eq _ (he _ (mem_getD x (0, 0, false, []) i h0 (by omega)))).1, drop_getD x (0, 0, false, []) i h0 (by omega)]
    simp only [cond_true, Bool.and_self, Option.bind_some, List.all_cons]
    cases tM (x.getD i.toNat (0, 0, false, [])) with
    | false => rfl
    | true =>
      simp only [Bool.not_true, cond_false, Bool.true_and]
      exact ih n (i + 1) (by omega) (by omega) (by omega) (by omega)
theorem senderI_loop (x : List MsgL) (hn : x.length ≤ 1048576) (he : ∀ e ∈ x, e.2.2.2.length ≤ 1048576) (q a : Int) (k : Nat) : ∀ (n : Nat) (i : Int), 0 ≤ i → i ≤ x.length → (x.length : Int) - i = k → k < n →
    ((x.drop i.toNat).all tM = true ∧ f_impl_SenderOk.l0 n x q (x.length : Int) i a x = some (.inr (q, a, x))) ∨ ((x.drop i.toNat).all tM = false ∧ ∃ j : Int, 0 ≤ j ∧ f_impl_SenderOk.l0 n x q (x.length : Int) i a x = some (.inl (j, a, x))) := by
  induction k with
  | zero =>
    intro n i h0 h1 hd hk
    obtain ⟨n, rfl⟩ := succ_fuel hk
    simp only [f_impl_SenderOk.l0]
    rw [decide_eq_false (show ¬ i < (x.length : Int) by omega), cond_false, List.drop_eq_nil_of_le (by omega)]
    exact .inl ⟨rfl, rfl⟩
  | succ k ih =>
    intro n i h0 h1 hd hk
    obtain ⟨n, rfl⟩ := succ_fuel hk
    have hw : IntKind.wrap .i64 (i + 1) = i + 1 := w64 (by omega) (by omega)
    have ih2 := ih n (i + 1) (by omega) (by omega) (by omega) (by omega)
    simp only [f_impl_SenderOk.l0, f_impl_SenderOk_1]
    rw [decide_eq_true (show i < (x.length : Int) by omega), decide_eq_true h0, hw, (tM_eq _ (he _ (mem_getD x (0, 0, false, []) i h0 (by omega)))).2, drop_getD x (0, 0, false, []) i h0 (by omega)]
    simp only [cond_true, Bool.and_self, Option.bind_some, List.all_cons]
    cases tM (x.getD i.toNat (0, 0, false, [])) with
    | false => exact .inr ⟨rfl, i, h0, rfl⟩
    | true =>
      simp only [Bool.not_true, cond_false, Bool.true_and]
      exact ih2
theorem same_senderOk (a : Int) (x : List MsgL) (hn : x.length ≤ 1048576) (he : ∀ e ∈ x, e.2.2.2.length ≤ 1048576) : ∃ b, f_spec_SenderOk a x = some b ∧ f_impl_SenderOk a x = some b := by
  unfold f_spec_SenderOk f_impl_SenderOk f_impl_isSeq
  rw [senderS_loop x hn he false a x.length N 0 (by omega) (by omega) (by omega) (lt_N hn)]
  have hi := senderI_loop x hn he 0 a x.length N 0 (by omega) (by omega) (by omega) (lt_N hn)
  simp only [Int.toNat_zero, List.drop_zero, in_rg, from_rg, Option.bind_some] at hi ⊢
  rcases hi with ⟨h1, h2⟩ | ⟨h1, j, h3, h2⟩
  · rw [h1, h2]
    simp only [cond_true, cs, Option.bind_some]
    cases rg a 0 100000 <;> cases decide ((x.length : Int) ≤ 30) <;> cases decide (IntKind.wrap .i64 (a + (x.length : Int)) ≤ 100000) <;> exact ⟨_, rfl, rfl⟩
  · rw [h1, h2]
    simp only [cond_false, cs, Option.bind_some, decide_eq_true h3]
    cases rg a 0 100000 <;> cases decide ((x.length : Int) ≤ 30) <;> cases decide (IntKind.wrap .i64 (a + (x.length : Int)) ≤ 100000) <;> exact ⟨_, rfl, rfl⟩
theorem szSender (a : Int) (x : List MsgL) (left : Int) (h0 : 0 ≤ left) (h1 : left ≤ 1048576) (hx : x.length ≤ 9223372036854775807) (he : ∀ e ∈ x, e.2.2.2.length ≤ 9223372036854775807) :
    f_laws_szSender a x left = some (-1) ∨ ∃ l, f_laws_szSender a x left = some l ∧ 0 ≤ l ∧ l ≤ left ∧ x.length ≤ 1048576 ∧ ∀ e ∈ x, e.2.2.2.length ≤ 1048576 := by
  unfold f_laws_szSender
  rcases szMsgS x left h0 h1 hx he with h | ⟨l, h, l0, l1, hn, hb⟩
  · simp only [h, Option.bind_some]; exact .inl rfl
  · simp only [h, Option.bind_some]
    rw [decide_eq_false (by omega)]
    exact .inr ⟨l, rfl, l0, l1, hn, hb⟩
theorem toSender_self (a : Int) (x : List MsgL) (hn : x.length ≤ 1048576) (he : ∀ e ∈ x, e.2.2.2.length ≤ 1048576) : f_laws_toSender a x = some (a, x) := by
  unfold f_laws_toSender
  rw [toMsgS x hn he]; rfl
theorem eqSender_self (a : Int) (x : List MsgL) (hn : x.length ≤ 1048576) (he : ∀ e ∈ x, e.2.2.2.length ≤ 1048576) : f_laws_eqSender a x a x = some true := by
  unfold f_laws_eqSender
  simp only [decide_true, Bool.not_true, cond_false, eqMsgS x hn he, Option.bind_some]
theorem senderOk (a : Int) (x : List MsgL) (hx : x.length ≤ 9223372036854775807) (he : ∀ e ∈ x, e.2.2.2.length ≤ 9223372036854775807) : f_laws_FnExactSenderOk a x = some true := by
  unfold f_laws_FnExactSenderOk
  rcases szSender a x 1048576 (by omega) (by omega) hx he with h | ⟨l, h, l0, l1, hn, hb⟩
  · simp only [h, Option.bind_some]; rfl
  · obtain ⟨b, h1, h2⟩ := same_senderOk a x hn hb
    simp only [h, cond_false, Option.bind_some, decide_eq_false (show ¬ l < 0 by omega), toSender_self a x hn hb, h1, h2, eqSender_self a x hn hb, beq_self_eq_true, Bool.not_true]
theorem plain : Pure := fun x h => senderOk x.1 x.2 h.2.1 (all_getD (d := (0, 0, false, [])) fun i hi => (h.2.2 i hi).2.2.2.1)
end Go.Abs
