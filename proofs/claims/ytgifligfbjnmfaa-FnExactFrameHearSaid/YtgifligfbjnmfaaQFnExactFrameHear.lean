/- The law FnExactFrameHear returns true for every frame and message: the program's FrameHear gives what the reference's gives, in rows of its own, and turns nothing that it was handed. More than 2^20 words are not asked for. -/
import Derived.Test.YtgifligfbjnmfaaMFnExactFrameHear
import Derived.Laws.BitsLemmas
namespace Go.Abs
open Go.RowKit

theorem w64 {n : Int} (h0 : -9223372036854775808 ≤ n) (h1 : n ≤ 9223372036854775807) : IntKind.wrap .i64 n = n := by
  rw [IntKind.wrap_i64]
  omega
theorem succ_fuel {n d : Nat} (h : d < n) : ∃ m, n = m + 1 := ⟨n - 1, by omega⟩
theorem big : (1048577 : Nat) < N := by decide
def rng (x m : Int) : Bool := decide ((0 : Int) ≤ x) && decide (x ≤ m)
theorem in_rng (x m : Int) : f_spec_l1In x 0 m = some (rng x m) := by
  unfold f_spec_l1In rng
  cases decide ((0 : Int) ≤ x) <;> rfl
theorem from_rng (x m : Int) : f_impl_from x 0 m = some (rng x m) := by
  unfold f_impl_from rng
  cases decide ((0 : Int) ≤ x) <;> rfl
def rg (x a b : Int) : Bool := decide (a ≤ x) && decide (x ≤ b)
theorem in_rg (x a b : Int) : f_spec_l1In x a b = some (rg x a b) := by
  unfold f_spec_l1In rg
  cases decide (a ≤ x) <;> rfl
theorem from_rg (x a b : Int) : f_impl_from x a b = some (rg x a b) := by
  unfold f_impl_from rg
  cases decide (a ≤ x) <;> rfl
theorem szIntS (x : List Int) (left : Int) (h0 : 0 ≤ left) (h1 : left ≤ 1048576) (hx : x.length ≤ 9223372036854775807) :
    (f_laws_szIntS x left = some (-1)) ∨ (f_laws_szIntS x left = some (left - x.length) ∧ (x.length : Int) ≤ left) := by
  unfold f_laws_szIntS
  rw [w64 (by omega) (by omega)]
  by_cases h : left - (x.length : Int) < 0
  · rw [decide_eq_true h]; exact .inl rfl
  · rw [decide_eq_false h]; exact .inr ⟨rfl, by omega⟩
theorem toIntS_loop (x : List Int) (hn : x.length ≤ 1048576) (d : Nat) : ∀ (n : Nat) (y : List Int) (i : Int), 0 ≤ i → i ≤ x.length → (x.length : Int) - i = d → d < n → y.length = x.length → y.take i.toNat = x.take i.toNat → f_laws_toIntS.l0 n x i y = some x := by
  induction d with
  | zero =>
    intro n y i h0 h1 hd hk hl ht
    obtain ⟨n, rfl⟩ := succ_fuel hk
    simp only [f_laws_toIntS.l0]
    rw [decide_eq_false (by omega), cond_false]
    rw [List.take_of_length_le (by omega), List.take_of_length_le (by omega)] at ht
    rw [ht]
  | succ d ih =>
    intro n y i h0 h1 hd hk hl ht
    obtain ⟨n, rfl⟩ := succ_fuel hk
    have hw : IntKind.wrap .i64 (i + 1) = i + 1 := w64 (by omega) (by omega)
    have hlt : i.toNat < x.length := by omega
    simp only [f_laws_toIntS.l0]
    rw [decide_eq_true (show i < (x.length : Int) by omega), decide_eq_true h0, decide_eq_true (show i < (y.length : Int) by omega), hw]
    simp only [cond_true, Bool.and_self, Option.bind_some]
    refine ih n _ (i + 1) (by omega) (by omega) (by omega) (by omega) (by rw [List.length_set]; exact hl) ?_
    have e : (i + 1).toNat = i.toNat + 1 := by omega
    rw [e, List.take_add_one, List.take_add_one, List.take_set, List.getElem?_set_self (by omega), List.getElem?_eq_getElem hlt]
    have : x.getD i.toNat 0 = x[i.toNat] := by rw [List.getD_eq_getElem?_getD, List.getElem?_eq_getElem hlt]; rfl
    rw [this, List.set_eq_of_length_le (by rw [List.length_take]; omega), ht]
theorem toIntS (x : List Int) (hn : x.length ≤ 1048576) : f_laws_toIntS x = some x := by
  unfold f_laws_toIntS
  rw [decide_eq_true (by omega), show Nat.ble ((x.length : Int).toNat) 17592186044416 = true from Nat.ble_eq_true_of_le (by omega)]
  simp only [Bool.and_self, cond_true]
  rw [toIntS_loop x hn x.length N _ 0 (by omega) (by omega) (by omega) (Nat.lt_of_le_of_lt (by omega) big) (by simp) (by simp)]
  rfl
theorem eqIntS_loop (x : List Int) (hn : x.length ≤ 1048576) (b : Bool) (d : Nat) : ∀ (n : Nat) (i : Int), 0 ≤ i → i ≤ x.length → (x.length : Int) - i = d → d < n → f_laws_eqIntS.l0 n x x b i = some (.inr b) := by
  induction d with
  | zero =>
    intro n i h0 h1 hd hk
    obtain ⟨n, rfl⟩ := succ_fuel hk
    simp only [f_laws_eqIntS.l0]
    rw [decide_eq_false (by omega), cond_false]
  | succ d ih =>
    intro n i h0 h1 hd hk
    obtain ⟨n, rfl⟩ := succ_fuel hk
    have hw : IntKind.wrap .i64 (i + 1) = i + 1 := w64 (by omega) (by omega)
    simp only [f_laws_eqIntS.l0]
    rw [decide_eq_true (show i < (x.length : Int) by omega), decide_eq_true h0, hw]
    simp only [cond_true, Bool.and_self, decide_true, Bool.not_true, cond_false]
    exact ih n (i + 1) (by omega) (by omega) (by omega) (by omega)
theorem eqIntS (x : List Int) (hn : x.length ≤ 1048576) : f_laws_eqIntS x x = some true := by
  unfold f_laws_eqIntS
  simp only [decide_true, Bool.not_true, cond_false]
  rw [eqIntS_loop x hn false x.length N 0 (by omega) (by omega) (by omega) (Nat.lt_of_le_of_lt (by omega) big)]
  rfl
def allW (x : List Int) : Bool := x.all fun w => rng w 65535
theorem drop_step (x : List Int) (i : Int) (h0 : 0 ≤ i) (h1 : i < x.length) : x.drop i.toNat = x.getD i.toNat 0 :: x.drop (i + 1).toNat := by
  have hlt : i.toNat < x.length := by omega
  have e : (i + 1).toNat = i.toNat + 1 := by omega
  rw [e, List.drop_eq_getElem_cons hlt, List.getD_eq_getElem?_getD, List.getElem?_eq_getElem hlt]
  rfl
theorem specWords_loop (x : List Int) (hn : x.length ≤ 1048576) (k : Int) (b : Bool) (d : Nat) : ∀ (n : Nat) (i : Int), 0 ≤ i → i ≤ x.length → (x.length : Int) - i = d → d < n →
    f_spec_l1Words.l0 n x k b i = some (bif allW (x.drop i.toNat) then .inr (x, k, b) else .inl false) := by
  induction d with
  | zero =>
    intro n i h0 h1 hd hk
    obtain ⟨n, rfl⟩ := succ_fuel hk
    simp only [f_spec_l1Words.l0]
    rw [decide_eq_false (by omega), cond_false, List.drop_eq_nil_of_le (by omega)]
    rfl
  | succ d ih =>
    intro n i h0 h1 hd hk
    obtain ⟨n, rfl⟩ := succ_fuel hk
    have hw : IntKind.wrap .i64 (i + 1) = i + 1 := w64 (by omega) (by omega)
    simp only [f_spec_l1Words.l0]
    rw [decide_eq_true (show i < (x.length : Int) by omega), decide_eq_true h0, hw, in_rng, drop_step x i h0 (by omega)]
    simp only [cond_true, Bool.and_self, Option.bind_some]
    unfold allW
    rw [List.all_cons]
    cases hr : rng (x.getD i.toNat 0) 65535 with
    | false => rfl
    | true =>
      simp only [Bool.not_true, cond_false, Bool.true_and]
      exact ih n (i + 1) (by omega) (by omega) (by omega) (by omega)
theorem specWords (x : List Int) (hn : x.length ≤ 1048576) (k : Int) : f_spec_l1Words x k = some (allW x && decide ((x.length : Int) = k)) := by
  unfold f_spec_l1Words
  rw [specWords_loop x hn k false x.length N 0 (by omega) (by omega) (by omega) (Nat.lt_of_le_of_lt (by omega) big)]
  simp only [Int.toNat_zero, List.drop_zero, Option.bind_some]
  cases allW x <;> rfl
theorem implWords_loop (x : List Int) (hn : x.length ≤ 1048576) (q : Int) (d : Nat) : ∀ (n : Nat) (i : Int), 0 ≤ i → i ≤ x.length → (x.length : Int) - i = d → d < n →
    (allW (x.drop i.toNat) = true ∧ f_impl_wordsOk.l0 n x q (x.length : Int) i = some (.inr q)) ∨ (allW (x.drop i.toNat) = false ∧ ∃ j : Int, 0 ≤ j ∧ f_impl_wordsOk.l0 n x q (x.length : Int) i = some (.inl j)) := by
  induction d with
  | zero =>
    intro n i h0 h1 hd hk
    obtain ⟨n, rfl⟩ := succ_fuel hk
    simp only [f_impl_wordsOk.l0]
    rw [decide_eq_false (show ¬ i < (x.length : Int) by omega), cond_false, List.drop_eq_nil_of_le (by omega)]
    exact .inl ⟨rfl, rfl⟩
  | succ d ih =>
    intro n i h0 h1 hd hk
    obtain ⟨n, rfl⟩ := succ_fuel hk
    have hw : IntKind.wrap .i64 (i + 1) = i + 1 := w64 (by omega) (by omega)
    have ih2 := ih n (i + 1) (by omega) (by omega) (by omega) (by omega)
    simp only [f_impl_wordsOk.l0]
    rw [decide_eq_true (show i < (x.length : Int) by omega), decide_eq_true h0, hw, drop_step x i h0 (by omega)]
    unfold f_impl_wordsOk_1 f_impl_isWord
    simp only [cond_true, Bool.and_self, from_rng, Option.bind_some]
    unfold allW at ih2 ⊢
    rw [List.all_cons]
    cases hr : rng (x.getD i.toNat 0) 65535 with
    | false => exact .inr ⟨rfl, i, h0, rfl⟩
    | true =>
      simp only [Bool.not_true, cond_false, Bool.true_and]
      exact ih2
theorem implWords (x : List Int) (hn : x.length ≤ 1048576) (k : Int) : f_impl_wordsOk x k = some (allW x && decide ((x.length : Int) = k)) := by
  unfold f_impl_wordsOk
  have h := implWords_loop x hn 0 x.length N 0 (by omega) (by omega) (by omega) (Nat.lt_of_le_of_lt (by omega) big)
  simp only [Int.toNat_zero, List.drop_zero] at h
  cases decide ((x.length : Int) = k) with
  | false => simp
  | true =>
    rcases h with ⟨h1, h2⟩ | ⟨h1, j, h3, h2⟩
    · simp only [cond_true, h2, Option.bind_some, h1, Bool.and_true]; rfl
    · simp only [cond_true, h2, Option.bind_some, h1, Bool.and_true]
      show some (!(decide ((0 : Int) ≤ j))) = some false
      rw [decide_eq_true h3]; rfl
theorem same_frameOk (x0 : Int) (x1 : List Int) (x2 : Bool) (hn : x1.length ≤ 1048576) : ∃ b, f_spec_FrameOk x0 x1 x2 = some b ∧ f_impl_FrameOk x0 x1 x2 = some b := by
  unfold f_spec_FrameOk f_impl_FrameOk
  simp only [specWords x1 hn, implWords x1 hn, in_rng, Option.bind_some]
  by_cases h0 : x0 = 0
  · rw [decide_eq_true h0]; exact ⟨_, rfl, rfl⟩
  · rw [decide_eq_false h0]
    by_cases h1 : x0 = 1
    · subst h1; exact ⟨_, rfl, rfl⟩
    · by_cases h2 : x0 = 2
      · subst h2; exact ⟨_, rfl, rfl⟩
      · have hr : rng x0 2 = false := by
          unfold rng
          by_cases h3 : 0 ≤ x0
          · rw [decide_eq_true h3, decide_eq_false (by omega)]; rfl
          · rw [decide_eq_false h3]; rfl
        rw [hr, decide_eq_false h1, decide_eq_false h2]
        exact ⟨_, rfl, rfl⟩
theorem toFrame_self (a : Int) (x : List Int) (c : Bool) (hn : x.length ≤ 1048576) : f_laws_toFrame a x c = some (a, x, c) := by
  unfold f_laws_toFrame
  simp only [toIntS x hn, Option.bind_some]
theorem eqFrame_self (a : Int) (x : List Int) (c : Bool) (hn : x.length ≤ 1048576) : f_laws_eqFrame a x c a x c = some true := by
  unfold f_laws_eqFrame
  simp only [decide_true, Bool.not_true, cond_false, beq_self_eq_true, eqIntS x hn, Option.bind_some]
theorem allW_nil (x : List Int) : (allW x && decide ((x.length : Int) = 0)) = decide ((x.length : Int) = 0) := by
  cases x with
  | nil => rfl
  | cons a x =>
    rw [decide_eq_false (by simp; omega), Bool.and_false]
theorem same_msgOk (x0 x1 : Int) (x2 : Bool) (x3 : List Int) (hn : x3.length ≤ 1048576) : ∃ b, f_spec_MsgOk x0 x1 x2 x3 = some b ∧ f_impl_MsgOk x0 x1 x2 x3 = some b := by
  unfold f_spec_MsgOk f_impl_MsgOk f_impl_isPage
  simp only [specWords x3 hn, implWords x3 hn, in_rg, from_rg, Option.bind_some, allW_nil]
  by_cases h3 : x0 = 3
  · subst h3
    rw [show rg 3 1 7 = true from rfl]
    cases rg x1 0 5 <;> cases x2 <;> exact ⟨_, rfl, rfl⟩
  · by_cases h7 : x0 = 7
    · subst h7
      rw [show rg 7 1 7 = true from rfl]
      cases rg x1 0 5 <;> cases x2 <;> exact ⟨_, rfl, rfl⟩
    · by_cases h6 : x0 = 6
      · subst h6
        rw [show rg 6 1 7 = true from rfl]
        cases rg x1 0 5 <;> cases x2 <;> exact ⟨_, rfl, rfl⟩
      · rw [decide_eq_false h3, decide_eq_false h7, decide_eq_false h6]
        cases rg x0 1 7 <;> cases rg x1 0 5 <;> cases x2 <;> exact ⟨_, rfl, rfl⟩
theorem eqMsg_self (a b : Int) (c : Bool) (x : List Int) (hn : x.length ≤ 1048576) : f_laws_eqMsg a b c x a b c x = some true := by
  unfold f_laws_eqMsg
  simp only [decide_true, Bool.not_true, cond_false, beq_self_eq_true, eqIntS x hn, Option.bind_some]
theorem toMsg_self (a b : Int) (c : Bool) (x : List Int) (hn : x.length ≤ 1048576) : f_laws_toMsg a b c x = some (a, b, c, x) := by
  unfold f_laws_toMsg
  simp only [toIntS x hn, Option.bind_some]
theorem szMsg (a b : Int) (c : Bool) (x : List Int) (left : Int) (h0 : 0 ≤ left) (h1 : left ≤ 1048576) (hx : x.length ≤ 9223372036854775807) :
    (f_laws_szMsg a b c x left = some (-1)) ∨ (f_laws_szMsg a b c x left = some (left - x.length) ∧ (x.length : Int) ≤ left) := by
  unfold f_laws_szMsg
  rcases szIntS x left h0 h1 hx with h | ⟨h, hl⟩
  · simp only [h, Option.bind_some]; exact .inl rfl
  · simp only [h, Option.bind_some]
    rw [decide_eq_false (by omega)]
    exact .inr ⟨rfl, hl⟩
theorem szFrame (a : Int) (x : List Int) (b : Bool) (left : Int) (h0 : 0 ≤ left) (h1 : left ≤ 1048576) (hx : x.length ≤ 9223372036854775807) :
    (f_laws_szFrame a x b left = some (-1)) ∨ (f_laws_szFrame a x b left = some (left - x.length) ∧ (x.length : Int) ≤ left) := by
  unfold f_laws_szFrame
  rcases szIntS x left h0 h1 hx with h | ⟨h, hl⟩
  · simp only [h, Option.bind_some]; exact .inl rfl
  · simp only [h, Option.bind_some]
    rw [decide_eq_false (by omega)]
    exact .inr ⟨rfl, hl⟩
theorem getD_set_self {α : Type} (x : List α) (d e : α) (i : Int) (h0 : 0 ≤ i) (h1 : i < x.length) : (x.set i.toNat e).getD i.toNat d = e := by
  rw [List.getD_eq_getElem?_getD, List.getElem?_set_self (by omega)]; rfl
theorem getD_set_other {α : Type} (x : List α) (d e : α) (i j : Nat) (h : i ≠ j) : (x.set i e).getD j d = x.getD j d := by
  rw [List.getD_eq_getElem?_getD, List.getElem?_set_ne h, List.getD_eq_getElem?_getD]
theorem mh_loop {α : Type} {d : α} {F : Nat → Int → Int → Int → List α → Option (Int × Int × List α)} {H : Nat → List α → Int → Int → Int → Option (Int ⊕ (Int × Int))} {P : α → Prop} {M : Int} (hM : 0 ≤ M)
    (f0 : ∀ n c q i x, ¬ i < (x.length : Int) → F (n + 1) c q i x = some (c, q, x)) (g0 : ∀ n x c q i, ¬ i < (x.length : Int) → H (n + 1) x c q i = some (.inr (c, q)))
    (f1 : ∀ c e, P e → 0 ≤ c → c ≤ 1152921504606846976 → ∃ e' c', c ≤ c' ∧ c' ≤ c + M ∧ (∀ n q i (x : List α), x.length ≤ 1048576 → 0 ≤ i → i < (x.length : Int) → x.getD i.toNat d = e → F (n + 1) c q i x = F n c' q (i + 1) (x.set i.toNat e')) ∧
      ∀ n q i (x : List α), x.length ≤ 1048576 → 0 ≤ i → i < (x.length : Int) → x.getD i.toNat d = e' → H (n + 1) x c q i = H n x c' q (i + 1))
    (k : Nat) : ∀ (n m : Nat) (x : List α) (c q q' i : Int), x.length ≤ 1048576 → (∀ j : Nat, i.toNat ≤ j → j < x.length → P (x.getD j d)) → 0 ≤ c → c + M * k ≤ 1152921504606846976 → 0 ≤ i → i ≤ x.length → (x.length : Int) - i = k → k < n → k < m →
      ∃ y c', F n c q i x = some (c', q, y) ∧ y.length = x.length ∧ c ≤ c' ∧ c' ≤ c + M * k ∧ (∀ j : Nat, j < i.toNat → y.getD j d = x.getD j d) ∧ H m y c q' i = some (.inr (c', q')) := by
  induction k with
  | zero =>
    intro n m x c q q' i hx hp hc0 hc1 h0 h1 hd hn hm
    obtain ⟨n, rfl⟩ := succ_fuel hn
    obtain ⟨m, rfl⟩ := succ_fuel hm
    exact ⟨x, c, f0 n c q i x (by omega), rfl, Int.le_refl _, by omega, fun _ _ => rfl, g0 m x c q' i (by omega)⟩
  | succ k ih =>
    intro n m x c q q' i hx hp hc0 hc1 h0 h1 hd hn hm
    obtain ⟨n, rfl⟩ := succ_fuel hn
    obtain ⟨m, rfl⟩ := succ_fuel hm
    have e1 : M * ((k + 1 : Nat) : Int) = M * (k : Int) + M := by rw [Int.natCast_add, Int.mul_add]; simp
    have e2 : 0 ≤ M * (k : Int) := Int.mul_nonneg hM (by omega)
    rw [e1] at hc1 ⊢
    obtain ⟨e', c1, b1, b2, b3, b4⟩ := f1 c _ (hp i.toNat (Nat.le_refl _) (by omega)) hc0 (by omega)
    obtain ⟨y, c', h2, h3, h4, h5, h6, h7⟩ := ih n m (x.set i.toNat e') c1 q q' (i + 1) (by rw [List.length_set]; exact hx) (fun j h2 h3 => by
      rw [List.length_set] at h3
      rw [getD_set_other x d e' i.toNat j (by omega)]
      exact hp j (by omega) h3) (by omega) (by omega) (by omega) (by rw [List.length_set]; omega) (by rw [List.length_set]; omega) (by omega) (by omega)
    rw [List.length_set] at h3
    refine ⟨y, c', ?_, h3, by omega, by omega, fun j hj => ?_, ?_⟩
    · rw [b3 n q i x hx h0 (by omega) rfl]; exact h2
    · rw [h6 j (by omega)]
      exact getD_set_other x d e' i.toNat j (by omega)
    · rw [b4 m q' i y (by omega) h0 (by omega) (by rw [h6 i.toNat (by omega)]; exact getD_set_self x d e' i h0 (by omega))]
      exact h7
/-- What is marked from c on, holds what was marked. -/
theorem mh_gen {α : Type} {d : α} {F : Nat → Int → Int → Int → List α → Option (Int × Int × List α)} {H : Nat → List α → Int → Int → Int → Option (Int ⊕ (Int × Int))} {P : α → Prop} {M : Int} (hM : 0 ≤ M)
    (f0 : ∀ n c q i x, ¬ i < (x.length : Int) → F (n + 1) c q i x = some (c, q, x)) (g0 : ∀ n x c q i, ¬ i < (x.length : Int) → H (n + 1) x c q i = some (.inr (c, q)))
    (f1 : ∀ c e, P e → 0 ≤ c → c ≤ 1152921504606846976 → ∃ e' c', c ≤ c' ∧ c' ≤ c + M ∧ (∀ n q i (x : List α), x.length ≤ 1048576 → 0 ≤ i → i < (x.length : Int) → x.getD i.toNat d = e → F (n + 1) c q i x = F n c' q (i + 1) (x.set i.toNat e')) ∧
      ∀ n q i (x : List α), x.length ≤ 1048576 → 0 ≤ i → i < (x.length : Int) → x.getD i.toNat d = e' → H (n + 1) x c q i = H n x c' q (i + 1))
    (x : List α) (hx : x.length ≤ 1048576) (hp : ∀ e ∈ x, P e) (c : Int) (h0 : 0 ≤ c) (h1 : c + M * x.length ≤ 1152921504606846976) : ∃ y c', F N c 0 0 x = some (c', 0, y) ∧ y.length = x.length ∧ c ≤ c' ∧ c' ≤ c + M * x.length ∧ H N y c 0 0 = some (.inr (c', 0)) := by
  have hN : x.length < N := Nat.lt_of_le_of_lt hx (Nat.lt_trans (by omega) big)
  obtain ⟨y, c', a1, a2, a3, a4, _, a5⟩ := mh_loop (d := d) hM f0 g0 f1 x.length N N x c 0 0 0 hx (fun j _ hj => hp _ (by
    rw [List.getD_eq_getElem?_getD, List.getElem?_eq_getElem hj]
    exact List.getElem_mem hj)) h0 h1 (by omega) (by omega) (by omega) hN hN
  exact ⟨y, c', a1, a2, a3, a4, a5⟩
theorem markIntS (x : List Int) (hx : x.length ≤ 1048576) (c : Int) (h0 : 0 ≤ c) (h1 : c ≤ 1099511627776) : ∃ y c', f_laws_markIntS x c = some (c', y) ∧ y.length = x.length ∧ c ≤ c' ∧ c' ≤ c + x.length ∧ f_laws_heldIntS y c = some c' := by
  obtain ⟨y, c', a1, a2, a3, a4, a5⟩ := mh_gen (d := (0 : Int)) (F := f_laws_markIntS.l0) (H := f_laws_heldIntS.l0) (P := fun _ => True) (M := 1) (by omega)
    (fun n c q i x h => by simp only [f_laws_markIntS.l0, decide_eq_false h, cond_false]) (fun n x c q i h => by simp only [f_laws_heldIntS.l0, decide_eq_false h, cond_false])
    (fun c e _ h0 h1 => ⟨c, c + 1, by omega, by omega, fun n q i x hx hi0 hi1 _ => by
      simp only [f_laws_markIntS.l0, decide_eq_true hi1, decide_eq_true hi0, cond_true, Bool.and_self, Option.bind_some, w64 (show -9223372036854775808 ≤ c + 1 by omega) (by omega), w64 (show -9223372036854775808 ≤ i + 1 by omega) (by omega)],
      fun n q i x hx hi0 hi1 he => by
      simp only [f_laws_heldIntS.l0, decide_eq_true hi1, decide_eq_true hi0, cond_true, Bool.and_self, he, decide_true, Bool.not_true, cond_false, w64 (show -9223372036854775808 ≤ c + 1 by omega) (by omega), w64 (show -9223372036854775808 ≤ i + 1 by omega) (by omega)]⟩)
    x hx (fun _ _ => trivial) c h0 (by omega)
  refine ⟨y, c', ?_, a2, a3, by omega, ?_⟩
  · unfold f_laws_markIntS; rw [a1]; rfl
  · unfold f_laws_heldIntS; rw [a5]; rfl
theorem markFrame (a : Int) (x : List Int) (b : Bool) (hx : x.length ≤ 1048576) (c : Int) (h0 : 0 ≤ c) (h1 : c ≤ 1099511627776) : ∃ y c', f_laws_markFrame a x b c = some (c', y) ∧ y.length = x.length ∧ c ≤ c' ∧ c' ≤ c + x.length ∧ f_laws_heldFrame a y b c = some c' := by
  obtain ⟨y, c', a1, a2, a3, a4, a5⟩ := markIntS x hx c h0 h1
  refine ⟨y, c', ?_, a2, a3, a4, ?_⟩
  · unfold f_laws_markFrame; rw [a1]; rfl
  · unfold f_laws_heldFrame; rw [a5]; simp only [Option.bind_some, decide_eq_false (show ¬ c' < 0 by omega), cond_false]
theorem markMsg (a b : Int) (d : Bool) (x : List Int) (hx : x.length ≤ 1048576) (c : Int) (h0 : 0 ≤ c) (h1 : c ≤ 1099511627776) : ∃ y c', f_laws_markMsg a b d x c = some (c', y) ∧ y.length = x.length ∧ c ≤ c' ∧ c' ≤ c + x.length ∧ f_laws_heldMsg a b d y c = some c' := by
  obtain ⟨y, c', a1, a2, a3, a4, a5⟩ := markIntS x hx c h0 h1
  refine ⟨y, c', ?_, a2, a3, a4, ?_⟩
  · unfold f_laws_markMsg; rw [a1]; rfl
  · unfold f_laws_heldMsg; rw [a5]; simp only [Option.bind_some, decide_eq_false (show ¬ c' < 0 by omega), cond_false]
theorem same_frameHear (x0 : Int) (x1 : List Int) (x2 : Bool) (x3 x4 : Int) (x5 : Bool) (x6 : List Int) (h1 : x1.length ≤ 1048576) (h6 : x6.length ≤ 1048576) : ∃ r, f_spec_FrameHear x0 x1 x2 x3 x4 x5 x6 = some r ∧ f_impl_FrameHear x0 x1 x2 x3 x4 x5 x6 = some r ∧ r.2.1.length ≤ 1048576 ∧ r.2.2.2.2.2.2.1.length ≤ 1048576 := by
  obtain ⟨b, e1, e2⟩ := same_frameOk x0 x1 x2 h1
  obtain ⟨b', f1, f2⟩ := same_msgOk x3 x4 x5 x6 h6
  unfold f_spec_FrameHear f_impl_FrameHear f_spec_l3Copy f_impl_copyFrame f_slices_Clone_int_int f_spec_l1Bit
  simp only [List.length_nil, Nat.zero_add, (blt_iff _ _).2 (show x1.length < 17592186044416 by omega), (blt_iff _ _).2 (show x6.length < 17592186044416 by omega), cond_true, List.nil_append, Option.bind_some, e1, e2, f1, f2]
  cases b with
  | false => exact ⟨_, rfl, rfl, h1, by simp⟩
  | true =>
    cases b' with
    | false => exact ⟨_, rfl, rfl, h1, by simp⟩
    | true =>
      simp only [Bool.not_true, cond_false]
      cases decide (x3 = 3) with
      | true =>
        cases x5 with
        | true => exact ⟨(2, x6, false, 0, 0, false, [], false), by simp only [cond_true, Option.bind_some, w64 (show (-9223372036854775808 : Int) ≤ 1 + 1 by omega) (by omega)]; rfl, rfl, h6, by simp⟩
        | false => exact ⟨(1, x6, false, 0, 0, false, [], false), by simp only [cond_true, cond_false, Option.bind_some, w64 (show (-9223372036854775808 : Int) ≤ 1 + 0 by omega) (by omega)]; rfl, rfl, h6, by simp⟩
      | false =>
        simp only [cond_false]
        cases decide (x3 = 4) with
        | true => exact ⟨_, rfl, rfl, by simp, by simp⟩
        | false =>
          simp only [cond_false]
          cases decide (x3 = 6) with
          | false => exact ⟨_, rfl, rfl, h1, by simp⟩
          | true =>
            simp only [cond_true]
            cases decide (x0 = 2) with
            | false => exact ⟨_, rfl, rfl, h1, by simp⟩
            | true =>
              cases x5 with
              | true => exact ⟨_, rfl, rfl, by simp, h1⟩
              | false => exact ⟨_, rfl, rfl, h1, h1⟩
theorem frameHear (x0 : Int) (x1 : List Int) (x2 : Bool) (x3 x4 : Int) (x5 : Bool) (x6 : List Int) (b1 : x1.length ≤ 9223372036854775807) (b6 : x6.length ≤ 9223372036854775807) : f_laws_FnExactFrameHear x0 x1 x2 x3 x4 x5 x6 = some true := by
  unfold f_laws_FnExactFrameHear
  rcases szFrame x0 x1 x2 1048576 (by omega) (by omega) b1 with h | ⟨h, hl⟩
  · rw [h]; rfl
  · rw [h]
    simp only [Option.bind_some, decide_eq_false (show ¬ (1048576 : Int) - (x1.length : Int) < 0 by omega), cond_false]
    rcases szMsg x3 x4 x5 x6 (1048576 - x1.length) (by omega) (by omega) b6 with h' | ⟨h', hl'⟩
    · rw [h']; rfl
    · have h1 : x1.length ≤ 1048576 := by omega
      have h6 : x6.length ≤ 1048576 := by omega
      obtain ⟨r, s1, s2, s3, s4⟩ := same_frameHear x0 x1 x2 x3 x4 x5 x6 h1 h6
      obtain ⟨y, c, m1, m2, m3, m4, m5⟩ := markFrame x0 x1 x2 h1 1 (by omega) (by omega)
      obtain ⟨y', c', n1, n2, n3, n4, n5⟩ := markMsg x3 x4 x5 x6 h6 c (by omega) (by omega)
      obtain ⟨z, d, k1, k2, k3, k4, k5⟩ := markFrame r.1 r.2.1 r.2.2.1 s3 1 (by omega) (by omega)
      obtain ⟨z', d', l1, l2, l3, l4, l5⟩ := markMsg r.2.2.2.1 r.2.2.2.2.1 r.2.2.2.2.2.1 r.2.2.2.2.2.2.1 s4 d (by omega) (by omega)
      simp only [h', Option.bind_some, decide_eq_false (show ¬ (1048576 : Int) - (x1.length : Int) - (x6.length : Int) < 0 by omega), cond_false, toFrame_self _ _ _ h1, toMsg_self _ _ _ _ h6, s1, s2, eqFrame_self _ _ _ s3, eqMsg_self _ _ _ _ s4, eqFrame_self _ _ _ h1, eqMsg_self _ _ _ _ h6, beq_self_eq_true, Bool.not_true, m1, n1, k1, l1, k5, l5,
        decide_eq_false (show ¬ c' < 0 by omega), decide_eq_false (show ¬ d < 0 by omega), decide_eq_false (show ¬ d' < 0 by omega), decide_true]
theorem plain : Pure := fun x h => frameHear x.1 x.2.1 x.2.2.1 x.2.2.2.1 x.2.2.2.2.1 x.2.2.2.2.2.1 x.2.2.2.2.2.2 h.2.1.1 h.2.2.2.2.2.2.1
end Go.Abs
