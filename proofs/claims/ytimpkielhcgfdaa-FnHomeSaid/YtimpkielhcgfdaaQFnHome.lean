/- The law FnHome returns true for all codes: what the program's homes answer to a drawn message, to a drawn home and to a drawn size is what the reference's answer; what they tell is right; what they leave is right. No condition. -/
import Derived.Test.YtimpkielhcgfdaaMFnHome
import Derived.Laws.BitsLemmas
namespace Go.Abs
open Go.RowKit
set_option linter.unusedVariables false
set_option linter.unusedSimpArgs false

theorem w64 {n : Int} (h0 : -9223372036854775808 ≤ n) (h1 : n ≤ 9223372036854775807) : IntKind.wrap .i64 n = n := by
  rw [IntKind.wrap_i64]
  omega
theorem succ_fuel {n d : Nat} (h : d < n) : ∃ m, n = m + 1 := ⟨n - 1, by omega⟩
theorem big : (1048577 : Nat) < N := by decide
theorem mem_getD {α : Type} (x : List α) (d : α) (i : Int) (h0 : 0 ≤ i) (h1 : i < x.length) : x.getD i.toNat d ∈ x := by
  have hlt : i.toNat < x.length := by omega
  rw [List.getD_eq_getElem?_getD, List.getElem?_eq_getElem hlt]
  exact List.getElem_mem hlt
theorem drop_getD {α : Type} (x : List α) (d : α) (i : Int) (h0 : 0 ≤ i) (h1 : i < x.length) : x.drop i.toNat = x.getD i.toNat d :: x.drop (i + 1).toNat := by
  have hlt : i.toNat < x.length := by omega
  have e : (i + 1).toNat = i.toNat + 1 := by omega
  rw [e, List.drop_eq_getElem_cons hlt, List.getD_eq_getElem?_getD, List.getElem?_eq_getElem hlt]
  rfl
def rng (x m : Int) : Bool := decide ((0 : Int) ≤ x) && decide (x ≤ m)
theorem in_rng (x m : Int) : f_spec_l1In x 0 m = some (rng x m) := by
  unfold f_spec_l1In rng
  cases decide ((0 : Int) ≤ x) <;> rfl
theorem from_rng (x m : Int) : f_impl_from x 0 m = some (rng x m) := by
  unfold f_impl_from rng
  cases decide ((0 : Int) ≤ x) <;> rfl
def rg (x a b : Int) : Bool := decide (a ≤ x) && decide (x ≤ b)
theorem in_rg (x a b : Int) : f_spec_l1In x a b = some (rg x a b) := by
  unfold f_spec_l1In rg
  cases decide (a ≤ x) <;> rfl
theorem from_rg (x a b : Int) : f_impl_from x a b = some (rg x a b) := by
  unfold f_impl_from rg
  cases decide (a ≤ x) <;> rfl
def allW (x : List Int) : Bool := x.all fun w => rng w 65535
theorem drop_step (x : List Int) (i : Int) (h0 : 0 ≤ i) (h1 : i < x.length) : x.drop i.toNat = x.getD i.toNat 0 :: x.drop (i + 1).toNat := by
  have hlt : i.toNat < x.length := by omega
  have e : (i + 1).toNat = i.toNat + 1 := by omega
  rw [e, List.drop_eq_getElem_cons hlt, List.getD_eq_getElem?_getD, List.getElem?_eq_getElem hlt]
  rfl
theorem specWords_loop (x : List Int) (hn : x.length ≤ 1048576) (k : Int) (b : Bool) (d : Nat) : ∀ (n : Nat) (i : Int), 0 ≤ i → i ≤ x.length → (x.length : Int) - i = d → d < n →
    f_spec_l1Words.l0 n x k b i = some (bif allW (x.drop i.toNat) then .inr (x, k, b) else .inl false) := by
  induction d with
  | zero =>
    intro n i h0 h1 hd hk
    obtain ⟨n, rfl⟩ := succ_fuel hk
    simp only [f_spec_l1Words.l0]
    rw [decide_eq_false (by omega), cond_false, List.drop_eq_nil_of_le (by omega)]
    rfl
  | succ d ih =>
    intro n i h0 h1 hd hk
    obtain ⟨n, rfl⟩ := succ_fuel hk
    have hw : IntKind.wrap .i64 (i + 1) = i + 1 := w64 (by omega) (by omega)
    simp only [f_spec_l1Words.l0]
    rw [decide_eq_true (show i < (x.length : Int) by omega), decide_eq_true h0, hw, in_rng, drop_step x i h0 (by omega)]
    simp only [cond_true, Bool.and_self, Option.bind_some]
    unfold allW
    rw [List.all_cons]
    cases hr : rng (x.getD i.toNat 0) 65535 with
    | false => rfl
    | true =>
      simp only [Bool.not_true, cond_false, Bool.true_and]
      exact ih n (i + 1) (by omega) (by omega) (by omega) (by omega)
theorem specWords (x : List Int) (hn : x.length ≤ 1048576) (k : Int) : f_spec_l1Words x k = some (allW x && decide ((x.length : Int) = k)) := by
  unfold f_spec_l1Words
  rw [specWords_loop x hn k false x.length N 0 (by omega) (by omega) (by omega) (Nat.lt_of_le_of_lt (by omega) big)]
  simp only [Int.toNat_zero, List.drop_zero, Option.bind_some]
  cases allW x <;> rfl
theorem implWords_loop (x : List Int) (hn : x.length ≤ 1048576) (q : Int) (d : Nat) : ∀ (n : Nat) (i : Int), 0 ≤ i → i ≤ x.length → (x.length : Int) - i = d → d < n →
    (allW (x.drop i.toNat) = true ∧ f_impl_wordsOk.l0 n x q (x.length : Int) i = some (.inr q)) ∨ (allW (x.drop i.toNat) = false ∧ ∃ j : Int, 0 ≤ j ∧ f_impl_wordsOk.l0 n x q (x.length : Int) i = some (.inl j)) := by
  induction d with
  | zero =>
    intro n i h0 h1 hd hk
    obtain ⟨n, rfl⟩ := succ_fuel hk
    simp only [f_impl_wordsOk.l0]
    rw [decide_eq_false (show ¬ i < (x.length : Int) by omega), cond_false, List.drop_eq_nil_of_le (by omega)]
    exact .inl ⟨rfl, rfl⟩
  | succ d ih =>
    intro n i h0 h1 hd hk
    obtain ⟨n, rfl⟩ := succ_fuel hk
    have hw : IntKind.wrap .i64 (i + 1) = i + 1 := w64 (by omega) (by omega)
    have ih2 := ih n (i + 1) (by omega) (by omega) (by omega) (by omega)
    simp only [f_impl_wordsOk.l0]
    rw [decide_eq_true (show i < (x.length : Int) by omega), decide_eq_true h0, hw, drop_step x i h0 (by omega)]
    unfold f_impl_wordsOk_1 f_impl_isWord
    simp only [cond_true, Bool.and_self, from_rng, Option.bind_some]
    unfold allW at ih2 ⊢
    rw [List.all_cons]
    cases hr : rng (x.getD i.toNat 0) 65535 with
    | false => exact .inr ⟨rfl, i, h0, rfl⟩
    | true =>
      simp only [Bool.not_true, cond_false, Bool.true_and]
      exact ih2
theorem implWords (x : List Int) (hn : x.length ≤ 1048576) (k : Int) : f_impl_wordsOk x k = some (allW x && decide ((x.length : Int) = k)) := by
  unfold f_impl_wordsOk
  have h := implWords_loop x hn 0 x.length N 0 (by omega) (by omega) (by omega) (Nat.lt_of_le_of_lt (by omega) big)
  simp only [Int.toNat_zero, List.drop_zero] at h
  cases decide ((x.length : Int) = k) with
  | false => simp
  | true =>
    rcases h with ⟨h1, h2⟩ | ⟨h1, j, h3, h2⟩
    · simp only [cond_true, h2, Option.bind_some, h1, Bool.and_true]; rfl
    · simp only [cond_true, h2, Option.bind_some, h1, Bool.and_true]
      show some (!(decide ((0 : Int) ≤ j))) = some false
      rw [decide_eq_true h3]; rfl
theorem allW_nil (x : List Int) : (allW x && decide ((x.length : Int) = 0)) = decide ((x.length : Int) = 0) := by
  cases x with
  | nil => rfl
  | cons a x =>
    rw [decide_eq_false (by simp; omega), Bool.and_false]
theorem same_msgOk (x0 x1 : Int) (x2 : Bool) (x3 : List Int) (hn : x3.length ≤ 1048576) : ∃ b, f_spec_MsgOk x0 x1 x2 x3 = some b ∧ f_impl_MsgOk x0 x1 x2 x3 = some b := by
  unfold f_spec_MsgOk f_impl_MsgOk f_impl_isPage
  simp only [specWords x3 hn, implWords x3 hn, in_rg, from_rg, Option.bind_some, allW_nil]
  by_cases h3 : x0 = 3
  · subst h3
    rw [show rg 3 1 7 = true from rfl]
    cases rg x1 0 5 <;> cases x2 <;> exact ⟨_, rfl, rfl⟩
  · by_cases h7 : x0 = 7
    · subst h7
      rw [show rg 7 1 7 = true from rfl]
      cases rg x1 0 5 <;> cases x2 <;> exact ⟨_, rfl, rfl⟩
    · by_cases h6 : x0 = 6
      · subst h6
        rw [show rg 6 1 7 = true from rfl]
        cases rg x1 0 5 <;> cases x2 <;> exact ⟨_, rfl, rfl⟩
      · rw [decide_eq_false h3, decide_eq_false h7, decide_eq_false h6]
        cases rg x0 1 7 <;> cases rg x1 0 5 <;> cases x2 <;> exact ⟨_, rfl, rfl⟩
structure HomeS (x0 : List Int) (x2 : List Bool) (x7 : List (Int × Bool)) : Prop where
  g0 : x0.length ≤ 1048576
  g2 : x2.length ≤ 1048576
  g7 : x7.length ≤ 1048576
theorem all_loop {α β : Type} {d : α} {F : Nat → Int → Option (Bool ⊕ β)} {q : α → Bool} {b : β} (x : List α) (hx : x.length ≤ 1048576) (h0 : ∀ n i, ¬ i < (x.length : Int) → F (n + 1) i = some (.inr b))
    (h1 : ∀ n i, 0 ≤ i → i < (x.length : Int) → x.getD i.toNat d ∈ x → F (n + 1) i = bif q (x.getD i.toNat d) then F n (i + 1) else some (.inl false)) : F N 0 = some (bif x.all q then .inr b else .inl false) := by
  have step : ∀ (k n : Nat) (i : Int), 0 ≤ i → i ≤ x.length → (x.length : Int) - i = k → k < n → F n i = some (bif (x.drop i.toNat).all q then .inr b else .inl false) := by
    intro k
    induction k with
    | zero =>
      intro n i a0 a1 hd hn
      obtain ⟨n, rfl⟩ := succ_fuel hn
      rw [h0 n i (by omega), List.drop_eq_nil_of_le (by omega)]
      rfl
    | succ k ih =>
      intro n i a0 a1 hd hn
      obtain ⟨n, rfl⟩ := succ_fuel hn
      rw [h1 n i a0 (by omega) (mem_getD x d i a0 (by omega)), drop_getD x d i a0 (by omega), List.all_cons]
      cases q (x.getD i.toNat d) with
      | false => rfl
      | true => simp only [cond_true, Bool.true_and]; exact ih n (i + 1) (by omega) (by omega) (by omega) (by omega)
  have := step x.length N 0 (by omega) (by omega) (by omega) (Nat.lt_of_le_of_lt hx (Nat.lt_trans (by omega) big))
  simpa using this
theorem any_loop {α β γ : Type} {d : α} {F : Nat → Int → Option (β ⊕ γ)} {q : α → Bool} {g : Int → β} {e : γ} (x : List α) (hx : x.length ≤ 1048576) (h0 : ∀ n i, ¬ i < (x.length : Int) → F (n + 1) i = some (.inr e))
    (h1 : ∀ n i, 0 ≤ i → i < (x.length : Int) → x.getD i.toNat d ∈ x → F (n + 1) i = bif q (x.getD i.toNat d) then F n (i + 1) else some (.inl (g i))) : (x.all q = true ∧ F N 0 = some (.inr e)) ∨ (x.all q = false ∧ ∃ j : Int, 0 ≤ j ∧ j < x.length ∧ F N 0 = some (.inl (g j))) := by
  have step : ∀ (k n : Nat) (i : Int), 0 ≤ i → i ≤ x.length → (x.length : Int) - i = k → k < n → ((x.drop i.toNat).all q = true ∧ F n i = some (.inr e)) ∨ ((x.drop i.toNat).all q = false ∧ ∃ j : Int, 0 ≤ j ∧ j < x.length ∧ F n i = some (.inl (g j))) := by
    intro k
    induction k with
    | zero =>
      intro n i a0 a1 hd hn
      obtain ⟨n, rfl⟩ := succ_fuel hn
      rw [h0 n i (by omega), List.drop_eq_nil_of_le (by omega)]
      exact .inl ⟨rfl, rfl⟩
    | succ k ih =>
      intro n i a0 a1 hd hn
      obtain ⟨n, rfl⟩ := succ_fuel hn
      rw [h1 n i a0 (by omega) (mem_getD x d i a0 (by omega)), drop_getD x d i a0 (by omega), List.all_cons]
      cases q (x.getD i.toNat d) with
      | false => exact .inr ⟨rfl, i, a0, by omega, rfl⟩
      | true => simp only [cond_true, Bool.true_and]; exact ih n (i + 1) (by omega) (by omega) (by omega) (by omega)
  have := step x.length N 0 (by omega) (by omega) (by omega) (Nat.lt_of_le_of_lt hx (Nat.lt_trans (by omega) big))
  simpa using this
def rng2 (a x m : Int) : Bool := decide (a ≤ x) && decide (x ≤ m)
theorem in_rng2 (a x m : Int) : f_spec_l1In x a m = some (rng2 a x m) := by
  unfold f_spec_l1In rng2
  cases decide (a ≤ x) <;> rfl
theorem from_rng2 (a x m : Int) : f_impl_from x a m = some (rng2 a x m) := by
  unfold f_impl_from rng2
  cases decide (a ≤ x) <;> rfl
def homeOkB (x0 : List Int) (x1 : Int) (x2 : List Bool) (x4 x6 : Int) (x7 : List (Int × Bool)) (x8 : Int) : Bool :=
  rng2 1 x8 4 && (allW x0 && decide ((x0.length : Int) = 4)) && rng2 (-1) x1 (x8 - 1) && decide ((x2.length : Int) = x8) && rng2 0 x4 (x8 - 1) && rng2 0 x6 x8 && decide ((x7.length : Int) ≤ 12) && x7.all fun e => rng2 0 e.1 (x8 - 1)
theorem isOf_rng (x k : Int) (h0 : 1 ≤ k) (h1 : k ≤ 4) : f_impl_isOf x k = some (rng2 0 x (k - 1)) := by
  unfold f_impl_isOf
  have e : rng2 1 k 4 = true := by unfold rng2; rw [decide_eq_true h0, decide_eq_true h1]; rfl
  simp only [from_rng2, e, cond_true, w64 (show -9223372036854775808 ≤ k - 1 by omega) (by omega), Option.bind_some]
theorem specHomeOk (x0 : List Int) (x1 : Int) (x2 : List Bool) (x3 : Bool) (x4 : Int) (x5 : Bool) (x6 : Int) (x7 : List (Int × Bool)) (x8 : Int) (h : HomeS x0 x2 x7) : f_spec_HomeOk x0 x1 x2 x3 x4 x5 x6 x7 x8 = some (homeOkB x0 x1 x2 x4 x6 x7 x8) := by
  unfold f_spec_HomeOk homeOkB
  rw [in_rng2]
  cases hr : rng2 1 x8 4 with
  | false => rfl
  | true =>
    have hr' := hr
    unfold rng2 at hr'
    simp only [Bool.and_eq_true, decide_eq_true_eq] at hr'
    have hl := all_loop (d := ((0 : Int), false)) (F := fun n i => f_spec_HomeOk.l0 n x8 false i x0 x1 x2 x3 x4 x5 x6 x7) (q := fun e => rng2 0 e.1 (x8 - 1)) (b := false) x7 h.g7
      (fun n i hi => by simp only [f_spec_HomeOk.l0, decide_eq_false hi, cond_false])
      (fun n i h0 h1 _ => by
        have := h.g7
        simp only [f_spec_HomeOk.l0, decide_eq_true h1, decide_eq_true h0, cond_true, Bool.and_self, in_rng2, Option.bind_some, w64 (show -9223372036854775808 ≤ x8 - 1 by omega) (by omega), w64 (show -9223372036854775808 ≤ i + 1 by omega) (by omega)]
        cases rng2 0 ((x7.getD i.toNat (0, false)).1) (x8 - 1) <;> rfl)
    simp only [in_rng2, specWords x0 h.g0, Option.bind_some, w64 (show -9223372036854775808 ≤ x8 - 1 by omega) (by omega), hl]
    cases allW x0 && decide ((x0.length : Int) = 4) <;> cases rng2 (-1) x1 (x8 - 1) <;> cases decide ((x2.length : Int) = x8) <;> cases rng2 0 x4 (x8 - 1) <;> cases rng2 0 x6 x8 <;> try rfl
    by_cases h12 : (x7.length : Int) ≤ 12
    · rw [decide_eq_true h12, decide_eq_false (by omega)]
      cases x7.all fun e => rng2 0 e.1 (x8 - 1) <;> rfl
    · rw [decide_eq_false h12, decide_eq_true (by omega)]; rfl
theorem implHomeOk (x0 : List Int) (x1 : Int) (x2 : List Bool) (x3 : Bool) (x4 : Int) (x5 : Bool) (x6 : Int) (x7 : List (Int × Bool)) (x8 : Int) (h : HomeS x0 x2 x7) : f_impl_HomeOk x0 x1 x2 x3 x4 x5 x6 x7 x8 = some (homeOkB x0 x1 x2 x4 x6 x7 x8) := by
  unfold f_impl_HomeOk homeOkB
  rw [from_rng2]
  cases hr : rng2 1 x8 4 with
  | false => rfl
  | true =>
    have hr' := hr
    unfold rng2 at hr'
    simp only [Bool.and_eq_true, decide_eq_true_eq] at hr'
    have hl := any_loop (d := ((0 : Int), false)) (F := fun n i => f_impl_HomeOk.l0 n x7 0 (x7.length : Int) i x0 x1 x2 x3 x4 x5 x6 x7 x8) (q := fun e => rng2 0 e.1 (x8 - 1)) (g := fun i => (i, x0, x1, x2, x3, x4, x5, x6, x7, x8)) (e := (0, x0, x1, x2, x3, x4, x5, x6, x7, x8)) x7 h.g7
      (fun n i hi => by simp only [f_impl_HomeOk.l0, decide_eq_false hi, cond_false])
      (fun n i h0 h1 _ => by
        have := h.g7
        simp only [f_impl_HomeOk.l0, f_impl_HomeOk_1, decide_eq_true h1, decide_eq_true h0, cond_true, Bool.and_self, isOf_rng _ _ hr'.1 hr'.2, Option.bind_some, w64 (show -9223372036854775808 ≤ i + 1 by omega) (by omega)]
        cases rng2 0 ((x7.getD i.toNat (0, false)).1) (x8 - 1) <;> rfl)
    simp only [from_rng2, implWords x0 h.g0, Option.bind_some, isOf_rng _ _ hr'.1 hr'.2, w64 (show -9223372036854775808 ≤ x8 - 1 by omega) (by omega)]
    cases allW x0 && decide ((x0.length : Int) = 4) <;> cases rng2 (-1) x1 (x8 - 1) <;> cases decide ((x2.length : Int) = x8) <;> cases rng2 0 x4 (x8 - 1) <;> cases rng2 0 x6 x8 <;> try rfl
    cases decide ((x7.length : Int) ≤ 12) with
    | false => rfl
    | true =>
      rcases hl with ⟨e1, e2⟩ | ⟨e1, j, e3, _, e2⟩
      · simp only [e2, e1]; rfl
      · simp only [e2, e1, Option.bind_some]
        show some (!(decide ((0 : Int) ≤ j))) = some false
        rw [decide_eq_true e3]; rfl
abbrev HomeT := List Int × Int × List Bool × Bool × Int × Bool × Int × List (Int × Bool)
theorem msgOk_facts (k p : Int) (c : Bool) (w : List Int) (hn : w.length ≤ 1048576) (h : f_spec_MsgOk k p c w = some true) : 1 ≤ k ∧ k ≤ 7 ∧ 0 ≤ p ∧ p ≤ 5 ∧ allW w = true ∧ w.length = (if k = 3 ∨ k = 7 then 4 else 0) := by
  unfold f_spec_MsgOk at h
  simp only [specWords w hn, in_rg, Option.bind_some] at h
  have key : rg k 1 7 = true ∧ rg p 0 5 = true ∧ allW w = true ∧ (w.length : Int) = (if k = 3 ∨ k = 7 then 4 else 0) := by
    by_cases h3 : k = 3
    · subst h3
      rw [show rg 3 1 7 = true from rfl] at h ⊢
      cases hp : rg p 0 5 <;> simp [hp] at h ⊢
      exact ⟨h.1, by omega⟩
    · by_cases h7 : k = 7
      · subst h7
        rw [show rg 7 1 7 = true from rfl] at h ⊢
        cases hp : rg p 0 5 <;> cases c <;> simp [hp] at h ⊢
        exact ⟨h.1, by omega⟩
      · rw [decide_eq_false h3, decide_eq_false h7] at h
        cases hr : rg k 1 7 <;> cases hp : rg p 0 5 <;> cases hk : decide (k = 6) <;> cases c <;> simp [hr, hp, hk, h3, h7] at h ⊢ <;> exact ⟨h.1, h.2⟩
  obtain ⟨k1, k2, k3, k4⟩ := key
  unfold rg at k1 k2
  simp only [Bool.and_eq_true, decide_eq_true_eq] at k1 k2
  refine ⟨k1.1, k1.2, k2.1, k2.2, k3, ?_⟩
  by_cases hk : k = 3 ∨ k = 7
  · rw [if_pos hk] at k4 ⊢; omega
  · rw [if_neg hk] at k4 ⊢; omega
def homeNew (k : Int) : HomeT := (List.replicate 4 0, -1, List.replicate k.toNat false, false, 0, false, 0, [])
theorem specHomeNew (k : Int) (h0 : 1 ≤ k) (h1 : k ≤ 4) : f_spec_HomeNew k = some (homeNew k) := by
  unfold f_spec_HomeNew homeNew
  have hr : rg k 1 4 = true := by unfold rg; rw [decide_eq_true h0, decide_eq_true h1]; rfl
  simp only [in_rg, hr, Option.bind_some, Bool.not_true, cond_false, decide_eq_true (show 0 ≤ k by omega), show Nat.ble k.toNat 140737488355328 = true from Nat.ble_eq_true_of_le (by omega), Bool.and_self, cond_true]
theorem implHomeNew (k : Int) (h0 : 1 ≤ k) (h1 : k ≤ 4) : f_impl_HomeNew k = some (homeNew k) := by
  unfold f_impl_HomeNew homeNew
  have hr : rg k 1 4 = true := by unfold rg; rw [decide_eq_true h0, decide_eq_true h1]; rfl
  simp only [from_rg, hr, Option.bind_some, Bool.not_true, cond_false, decide_eq_true (show 0 ≤ k by omega), show Nat.ble k.toNat 140737488355328 = true from Nat.ble_eq_true_of_le (by omega), Bool.and_self, cond_true]
abbrev ToldT := Int × Int × Int × Bool × List Int
abbrev KT := List Int × Int × List Bool × Bool × Int × Bool × Int × List (Int × Bool) × Int × List ToldT
def okT (k : Int) (e : ToldT) : Prop := 0 ≤ e.1 ∧ e.1 ≤ k - 1 ∧ e.2.2.2.2.length ≤ 4 ∧ f_spec_MsgOk e.2.1 e.2.2.1 e.2.2.2.1 e.2.2.2.2 = some true
structure HK (k : Int) (w : List Int) (own : Int) (seen : List Bool) (who need : Int) (wait : List (Int × Bool)) (page : Int) (told : List ToldT) : Prop where
  k0 : 1 ≤ k
  k1 : k ≤ 4
  w4 : w.length = 4
  ww : allW w = true
  o0 : -1 ≤ own
  o1 : own ≤ k - 1
  sl : (seen.length : Int) = k
  h0 : 0 ≤ who
  h1 : who ≤ k - 1
  n0 : 0 ≤ need
  n1 : need ≤ k
  q : ∀ e ∈ wait, 0 ≤ e.1 ∧ e.1 ≤ k - 1
  ql : wait.length ≤ 12
  p0 : 0 ≤ page
  p1 : page ≤ 5
  t : ∀ e ∈ told, okT k e
  tl : told.length + 8 * wait.length ≤ 120
structure SI (own : Int) (seen : List Bool) (busy : Bool) (who : Int) (ex : Bool) (need : Int) : Prop where
  a : 0 ≤ own → ∀ j : Nat, seen.getD j false = false
  b : busy = true → (0 ≤ own ∧ need = 0) ∨ (own = -1 ∧ 0 < need ∧ ex = true ∧ ∀ j : Nat, (j : Int) ≠ who → seen.getD j false = false)
  c : busy = false → need = 0
theorem msg_data (page : Int) (p0 : 0 ≤ page) (p1 : page ≤ 5) (ex : Bool) (w : List Int) (h4 : w.length = 4) (hw : allW w = true) : f_spec_MsgOk 3 page ex w = some true := by
  unfold f_spec_MsgOk
  have h1 : f_spec_l1In 3 1 7 = some true := rfl
  have h2 : f_spec_l1In page 0 5 = some true := by unfold f_spec_l1In; rw [decide_eq_true p0, decide_eq_true p1]; rfl
  simp only [decide_true, cond_true, h1, h2, Option.bind_some, specWords w (by omega), hw, h4, Bool.true_and]
  rfl
theorem msg_none (kind page : Int) (hk : kind = 4 ∨ kind = 6) (p0 : 0 ≤ page) (p1 : page ≤ 5) (ex : Bool) (he : ex = true → kind = 6) : f_spec_MsgOk kind page ex [] = some true := by
  have h2 : f_spec_l1In page 0 5 = some true := by unfold f_spec_l1In; rw [decide_eq_true p0, decide_eq_true p1]; rfl
  have h3 : f_spec_l1Words [] 0 = some true := by rw [specWords [] (by simp)]; rfl
  rcases hk with rfl | rfl
  · have e : ex = false := by cases ex with
      | false => rfl
      | true => exact absurd (he rfl) (by omega)
    subst e
    have h1 : f_spec_l1In 4 1 7 = some true := rfl
    unfold f_spec_MsgOk
    simp only [decide_eq_false (show ¬ (4 : Int) = 3 by omega), decide_eq_false (show ¬ (4 : Int) = 6 by omega), decide_eq_false (show ¬ (4 : Int) = 7 by omega), cond_false, cond_true, h1, h2, h3, Option.bind_some, Bool.not_false, List.length_nil]
    try rfl
  · have h1 : f_spec_l1In 6 1 7 = some true := rfl
    unfold f_spec_MsgOk
    simp only [decide_eq_false (show ¬ (6 : Int) = 3 by omega), decide_eq_true (show (6 : Int) = 6 by omega), decide_eq_false (show ¬ (6 : Int) = 7 by omega), cond_false, cond_true, h1, h2, h3, Option.bind_some, Bool.not_false, List.length_nil]
    try rfl
/-- The page is given. -/
def giveB (w : List Int) (own : Int) (seen : List Bool) (who : Int) (ex : Bool) (need : Int) (wait : List (Int × Bool)) (page : Int) (told : List ToldT) : KT := (w, if ex = true then who else own, seen.set who.toNat (!ex), false, 0, false, need, wait, page, told ++ [(who, 3, page, ex, w)])
theorem give_eq {k : Int} {w : List Int} {own : Int} {seen : List Bool} {who need : Int} {wait : List (Int × Bool)} {page : Int} {told : List ToldT} (h : HK k w own seen who need wait page told) (busy ex : Bool) :
    f_spec_l4Give w own seen busy who ex need wait page told = some (giveB w own seen who ex need wait page told) ∧ f_impl_keeper_give w own seen busy who ex need wait page told = some (giveB w own seen who ex need wait page told) := by
  have h4 := h.w4
  have ht := h.tl
  have hs := h.sl
  have h0 := h.h0
  have h1 := h.h1
  unfold f_spec_l4Give f_impl_keeper_give giveB
  constructor
  · simp only [f_spec_l4Tell, List.length_nil, Nat.zero_add, (blt_iff _ _).2 (show w.length < 17592186044416 by omega), cond_true, List.nil_append, Option.bind_some, List.length_singleton, (blt_iff _ _).2 (show told.length + 1 < 2513169434916 by omega), decide_eq_true h0, decide_eq_true (show who < (seen.length : Int) by omega), Bool.and_self]
    cases ex <;> rfl
  · simp only [f_slices_Clone_int_int, Nat.zero_add, (blt_iff _ _).2 (show w.length < 17592186044416 by omega), cond_true, Option.bind_some, List.length_singleton, (blt_iff _ _).2 (show told.length + 1 < 2513169434916 by omega), decide_eq_true h0, decide_eq_true (show who < (seen.length : Int) by omega), Bool.and_self]
    cases ex <;> rfl
theorem give_ok {k : Int} {w : List Int} {own : Int} {seen : List Bool} {who need : Int} {wait : List (Int × Bool)} {page : Int} {told : List ToldT} (h : HK k w own seen who need wait page told) (ex : Bool) (ht : told.length + 8 * wait.length ≤ 119) :
    HK k w (if ex = true then who else own) (seen.set who.toNat (!ex)) 0 need wait page (told ++ [(who, 3, page, ex, w)]) := by
  have h0 := h.h0
  have h1 := h.h1
  have o0 := h.o0
  have o1 := h.o1
  have k0 := h.k0
  refine ⟨h.k0, h.k1, h.w4, h.ww, ?_, ?_, by rw [List.length_set]; exact h.sl, Int.le_refl _, by omega, h.n0, h.n1, h.q, h.ql, h.p0, h.p1, fun e he => ?_, by rw [List.length_append, List.length_singleton]; omega⟩
  · cases ex <;> simp <;> omega
  · cases ex <;> simp <;> omega
  · rcases List.mem_append.1 he with he | he
    · exact h.t e he
    · rw [List.mem_singleton.1 he]
      exact ⟨h0, h1, by show w.length ≤ 4; have := h.w4; omega, msg_data page h.p0 h.p1 ex w h.w4 h.ww⟩
/-- Those who read are told that it is gone. -/
def scanL (who page : Int) : Int → List Bool → List Bool × List ToldT
  | _, [] => ([], [])
  | i, b :: x => if b = true ∧ i ≠ who then (false :: (scanL who page (i + 1) x).1, (i, 4, page, false, []) :: (scanL who page (i + 1) x).2) else (b :: (scanL who page (i + 1) x).1, (scanL who page (i + 1) x).2)
theorem scanL_len (who page : Int) : ∀ (x : List Bool) (i : Int), (scanL who page i x).1.length = x.length ∧ (scanL who page i x).2.length ≤ x.length
  | [], i => ⟨rfl, Nat.le_refl _⟩
  | b :: x, i => by
    obtain ⟨h1, h2⟩ := scanL_len who page x (i + 1)
    unfold scanL
    split <;> simp only [List.length_cons] <;> omega
theorem scanL_mem (who page : Int) : ∀ (x : List Bool) (i : Int), ∀ e ∈ (scanL who page i x).2, i ≤ e.1 ∧ e.1 < i + x.length ∧ e.2 = (4, page, false, [])
  | [], i, e, he => by cases he
  | b :: x, i, e, he => by
    have ih := scanL_mem who page x (i + 1)
    have low : ∀ e ∈ (scanL who page (i + 1) x).2, i ≤ e.1 ∧ e.1 < i + ((b :: x).length : Nat) ∧ e.2 = (4, page, false, []) := by
      intro e he
      obtain ⟨h1, h2, h3⟩ := ih e he
      simp only [List.length_cons]
      exact ⟨by omega, by omega, h3⟩
    unfold scanL at he
    split at he
    · rcases List.mem_cons.1 he with rfl | he
      · exact ⟨Int.le_refl _, by simp only [List.length_cons]; omega, rfl⟩
      · exact low e he
    · exact low e he
theorem scanL_other (who page : Int) : ∀ (x : List Bool) (i : Int) (j : Nat), i + (j : Int) ≠ who → (scanL who page i x).1.getD j false = false
  | [], i, j, _ => by simp [scanL]
  | b :: x, i, 0, h => by
    unfold scanL
    split
    · rfl
    · rename_i hn
      cases b with
      | false => rfl
      | true => exact absurd ⟨rfl, by omega⟩ hn
  | b :: x, i, j + 1, h => by
    have ih := scanL_other who page x (i + 1) j (by omega)
    unfold scanL
    split <;> simpa using ih
theorem spec_scan (own : Int) (busy : Bool) (who : Int) (page : Int) (w : List Int) (wait : List (Int × Bool)) : ∀ (r n : Nat) (pre x : List Bool) (need : Int) (told : List ToldT), x.length = r → r < n → pre.length + x.length ≤ 4 → 0 ≤ need → need + x.length ≤ 100 → told.length + x.length ≤ 1000 →
    f_spec_l4Next.l0 n (pre.length : Int) own busy who true need page w (pre ++ x) wait told = some (own, busy, who, true, need + ((scanL who page pre.length x).2.length : Int), page, w, pre ++ (scanL who page pre.length x).1, wait, told ++ (scanL who page pre.length x).2) := by
  intro r
  induction r with
  | zero =>
    intro n pre x need told hx hn hl hn0 hn1 ht
    obtain ⟨n, rfl⟩ := succ_fuel hn
    obtain rfl := List.eq_nil_of_length_eq_zero hx
    simp only [f_spec_l4Next.l0, List.append_nil, decide_eq_false (show ¬ (pre.length : Int) < (pre.length : Int) by omega), cond_false, scanL, List.length_nil, Int.natCast_zero, Int.add_zero]
  | succ r ih =>
    intro n pre x need told hx hn hl hn0 hn1 ht
    obtain ⟨n, rfl⟩ := succ_fuel hn
    cases x with
    | nil => cases hx
    | cons b x =>
      simp only [List.length_cons] at hx hl hn1 ht
      have hg : (pre ++ b :: x).getD pre.length false = b := by simp [List.getD_eq_getElem?_getD]
      have hs : (pre ++ b :: x).set pre.length false = (pre ++ [false]) ++ x := by simp
      have hb : (pre ++ b :: x) = (pre ++ [b]) ++ x := by simp
      have hlen : ((pre ++ b :: x).length : Int) = pre.length + 1 + x.length := by simp; omega
      simp only [f_spec_l4Next.l0, hlen, decide_eq_true (show (pre.length : Int) < (pre.length : Int) + 1 + (x.length : Int) by omega), decide_eq_true (show 0 ≤ (pre.length : Int) by omega), cond_true, Bool.and_self, Int.toNat_natCast, hg, f_spec_l4Tell, List.length_singleton, (blt_iff _ _).2 (show told.length + 1 < 2513169434916 by omega), Option.bind_some, hs, w64 (show -9223372036854775808 ≤ (pre.length : Int) + 1 by omega) (by omega), w64 (show -9223372036854775808 ≤ need + 1 by omega) (by omega)]
      cases b with
      | false =>
        have := ih n (pre ++ [false]) x need told (by omega) (by omega) (by simp; omega) hn0 (by omega) (by omega)
        simp only [List.length_append, List.length_singleton, Int.natCast_add, Int.natCast_one] at this
        simp only [cond_false]
        rw [hb, this]
        simp only [scanL, Bool.false_eq_true, false_and, if_false, List.append_assoc, List.singleton_append]
      | true =>
        by_cases hw : (pre.length : Int) = who
        · have := ih n (pre ++ [true]) x need told (by omega) (by omega) (by simp; omega) hn0 (by omega) (by omega)
          simp only [List.length_append, List.length_singleton, Int.natCast_add, Int.natCast_one] at this
          simp only [cond_true, decide_eq_true hw, Bool.not_true, cond_false]
          rw [hb, this]
          simp only [scanL, ne_eq, hw, not_true_eq_false, and_false, if_false, List.append_assoc, List.singleton_append]
        · have := ih n (pre ++ [false]) x (need + 1) (told ++ [((pre.length : Int), 4, page, false, [])]) (by omega) (by omega) (by simp; omega) (by omega) (by omega) (by simp; omega)
          simp only [List.length_append, List.length_singleton, Int.natCast_add, Int.natCast_one] at this
          simp only [cond_true, decide_eq_false hw, Bool.not_false, this]
          simp only [scanL, ne_eq, hw, not_false_eq_true, and_self, if_true, List.append_assoc, List.singleton_append, List.length_cons, Int.natCast_add, Int.natCast_one]
          rw [show need + 1 + ((scanL who page ((pre.length : Int) + 1) x).2.length : Int) = need + (((scanL who page ((pre.length : Int) + 1) x).2.length : Int) + 1) by omega]
theorem impl_scan (own : Int) (busy : Bool) (who : Int) (page : Int) (w : List Int) (wait : List (Int × Bool)) (vo vl : Int) (len : Int) : ∀ (r n : Nat) (pre x : List Bool) (need : Int) (told : List ToldT), x.length = r → r < n → pre.length + x.length ≤ 4 → len = pre.length + x.length → 0 ≤ need → need + x.length ≤ 100 → told.length + x.length ≤ 1000 →
    f_impl_keeper_begin.l0 n len (pre.length : Int) own busy who true need vo vl page (pre ++ x) w wait told = some (own, busy, who, true, need + ((scanL who page pre.length x).2.length : Int), vo, vl, page, w, pre ++ (scanL who page pre.length x).1, wait, told ++ (scanL who page pre.length x).2) := by
  intro r
  induction r with
  | zero =>
    intro n pre x need told hx hn hl hlen hn0 hn1 ht
    obtain ⟨n, rfl⟩ := succ_fuel hn
    obtain rfl := List.eq_nil_of_length_eq_zero hx
    simp only [List.length_nil] at hlen
    simp only [f_impl_keeper_begin.l0, List.append_nil, decide_eq_false (show ¬ (pre.length : Int) < len by omega), cond_false, scanL, List.length_nil, Int.natCast_zero, Int.add_zero]
  | succ r ih =>
    intro n pre x need told hx hn hl hlen hn0 hn1 ht
    obtain ⟨n, rfl⟩ := succ_fuel hn
    cases x with
    | nil => cases hx
    | cons b x =>
      simp only [List.length_cons] at hx hl hn1 ht hlen
      have hg : (pre ++ b :: x).getD pre.length false = b := by simp [List.getD_eq_getElem?_getD]
      have hs : (pre ++ b :: x).set pre.length false = (pre ++ [false]) ++ x := by simp
      have hb : (pre ++ b :: x) = (pre ++ [b]) ++ x := by simp
      have hlen2 : ((pre ++ b :: x).length : Int) = pre.length + 1 + x.length := by simp; omega
      simp only [f_impl_keeper_begin.l0, hlen2, decide_eq_true (show (pre.length : Int) < len by omega), decide_eq_true (show (pre.length : Int) < (pre.length : Int) + 1 + (x.length : Int) by omega), decide_eq_true (show 0 ≤ (pre.length : Int) by omega), cond_true, Bool.and_self, Int.toNat_natCast, hg, List.length_singleton, (blt_iff _ _).2 (show told.length + 1 < 2513169434916 by omega), Option.bind_some, hs, w64 (show -9223372036854775808 ≤ (pre.length : Int) + 1 by omega) (by omega), w64 (show -9223372036854775808 ≤ need + 1 by omega) (by omega)]
      cases b with
      | false =>
        have := ih n (pre ++ [false]) x need told (by omega) (by omega) (by simp; omega) (by simp; omega) hn0 (by omega) (by omega)
        simp only [List.length_append, List.length_singleton, Int.natCast_add, Int.natCast_one] at this
        simp only [cond_false]
        rw [hb, this]
        simp only [scanL, Bool.false_eq_true, false_and, if_false, List.append_assoc, List.singleton_append]
      | true =>
        by_cases hw : (pre.length : Int) = who
        · have := ih n (pre ++ [true]) x need told (by omega) (by omega) (by simp; omega) (by simp; omega) hn0 (by omega) (by omega)
          simp only [List.length_append, List.length_singleton, Int.natCast_add, Int.natCast_one] at this
          simp only [cond_true, decide_eq_true hw, Bool.not_true, cond_false]
          rw [hb, this]
          simp only [scanL, ne_eq, hw, not_true_eq_false, and_false, if_false, List.append_assoc, List.singleton_append]
        · have := ih n (pre ++ [false]) x (need + 1) (told ++ [((pre.length : Int), 4, page, false, [])]) (by omega) (by omega) (by simp; omega) (by simp; omega) (by omega) (by omega) (by simp; omega)
          simp only [List.length_append, List.length_singleton, Int.natCast_add, Int.natCast_one] at this
          simp only [cond_true, decide_eq_false hw, Bool.not_false, this]
          simp only [scanL, ne_eq, hw, not_false_eq_true, and_self, if_true, List.append_assoc, List.singleton_append, List.length_cons, Int.natCast_add, Int.natCast_one]
          rw [show need + 1 + ((scanL who page ((pre.length : Int) + 1) x).2.length : Int) = need + (((scanL who page ((pre.length : Int) + 1) x).2.length : Int) + 1) by omega]
theorem impl_skip (own : Int) (busy : Bool) (who : Int) (page : Int) (w : List Int) (wait : List (Int × Bool)) (vo vl need : Int) (seen : List Bool) (told : List ToldT) (hs : seen.length ≤ 4) : ∀ (r n : Nat) (i : Nat), i + r = seen.length → r < n →
    f_impl_keeper_begin.l0 n (seen.length : Int) (i : Int) own busy who false need vo vl page seen w wait told = some (own, busy, who, false, need, vo, vl, page, w, seen, wait, told) := by
  intro r
  induction r with
  | zero =>
    intro n i hi hn
    obtain ⟨n, rfl⟩ := succ_fuel hn
    simp only [f_impl_keeper_begin.l0, decide_eq_false (show ¬ (i : Int) < (seen.length : Int) by omega), cond_false]
  | succ r ih =>
    intro n i hi hn
    obtain ⟨n, rfl⟩ := succ_fuel hn
    simp only [f_impl_keeper_begin.l0, decide_eq_true (show (i : Int) < (seen.length : Int) by omega), decide_eq_true (show 0 ≤ (i : Int) by omega), cond_true, cond_false, Bool.and_self, w64 (show -9223372036854775808 ≤ (i : Int) + 1 by omega) (by omega)]
    rw [show (i : Int) + 1 = ((i + 1 : Nat) : Int) by omega]
    exact ih n (i + 1) (by omega) (by omega)
/-- The first one that waits. -/
def nextB (w : List Int) (own : Int) (seen : List Bool) (who : Int) (ex : Bool) (need : Int) (wait : List (Int × Bool)) (page : Int) (told : List ToldT) : KT :=
  if 0 ≤ own then (w, own, seen, true, who, ex, need, wait, page, told ++ [(own, 6, page, ex, [])])
  else if ex = true then
    if (scanL who page 0 seen).2.length = 0 then giveB w own (scanL who page 0 seen).1 who true 0 wait page (told ++ (scanL who page 0 seen).2)
    else (w, own, (scanL who page 0 seen).1, true, who, true, ((scanL who page 0 seen).2.length : Int), wait, page, told ++ (scanL who page 0 seen).2)
  else giveB w own seen who false 0 wait page told
theorem scan_ok {k : Int} {w : List Int} {own : Int} {seen : List Bool} {who need : Int} {wait : List (Int × Bool)} {page : Int} {told : List ToldT} (h : HK k w own seen who need wait page told) (ht : told.length + 8 * wait.length ≤ 112) :
    HK k w own (scanL who page 0 seen).1 who ((scanL who page 0 seen).2.length : Int) wait page (told ++ (scanL who page 0 seen).2) := by
  obtain ⟨l1, l2⟩ := scanL_len who page seen 0
  have hs := h.sl
  have hk := h.k1
  refine ⟨h.k0, h.k1, h.w4, h.ww, h.o0, h.o1, by rw [l1]; exact hs, h.h0, h.h1, by omega, by omega, h.q, h.ql, h.p0, h.p1, fun e he => ?_, by rw [List.length_append]; omega⟩
  rcases List.mem_append.1 he with he | he
  · exact h.t e he
  · obtain ⟨a, b, c⟩ := scanL_mem who page seen 0 e he
    refine ⟨a, by omega, ?_, ?_⟩
    · rw [c]; exact Nat.zero_le _
    · rw [c]; exact msg_none 4 page (.inl rfl) h.p0 h.p1 false (fun h => by cases h)
theorem next_eq {k : Int} {w : List Int} {own : Int} {seen : List Bool} {who need : Int} {i : Int} {ex : Bool} {wt : List (Int × Bool)} {page : Int} {told : List ToldT} (h : HK k w own seen who need ((i, ex) :: wt) page told) (busy ex0 : Bool) :
    f_spec_l4Next w own seen busy who ex0 need ((i, ex) :: wt) page told = some (nextB w own seen i ex need wt page told) ∧ f_impl_keeper_begin w own seen busy who ex0 need ((i, ex) :: wt) page told = some (nextB w own seen i ex need wt page told) := by
  have ht := h.tl
  have hq := h.ql
  have hs := h.sl
  have hk := h.k1
  have hi := h.q (i, ex) (.head _)
  simp only [List.length_cons] at ht hq
  have h' : HK k w own seen i 0 wt page told := ⟨h.k0, h.k1, h.w4, h.ww, h.o0, h.o1, h.sl, hi.1, hi.2, Int.le_refl _, by have := h.k0; omega, fun e he => h.q e (.tail _ he), by omega, h.p0, h.p1, h.t, by omega⟩
  have hsc := scan_ok h' (by omega)
  have e1 : (((i, ex) :: wt).drop 1).take ((((i, ex) :: wt).length : Int) - 1).toNat = wt := by simp
  have e2 : ((i, ex) :: wt).getD 0 (0, false) = (i, ex) := rfl
  have fuel : seen.length < N := Nat.lt_of_le_of_lt (show seen.length ≤ 4 by omega) (Nat.lt_trans (by omega) big)
  unfold f_spec_l4Next f_impl_keeper_begin nextB
  simp only [decide_eq_true (show (0 : Int) < (((i, ex) :: wt).length : Int) by simp only [List.length_cons]; omega), decide_eq_true (show (1 : Int) ≤ (((i, ex) :: wt).length : Int) by simp only [List.length_cons]; omega), cond_true, e1, e2, List.length_nil, Nat.zero_add, (blt_iff _ _).2 (show wt.length < 8796093022208 by omega), List.nil_append, Option.bind_some]
  by_cases ho : 0 ≤ own
  · simp only [decide_eq_true ho, cond_true, if_pos ho, f_spec_l4Tell, List.length_singleton, (blt_iff _ _).2 (show told.length + 1 < 2513169434916 by omega), Option.bind_some]
    exact ⟨trivial, trivial⟩
  · simp only [decide_eq_false ho, cond_false, if_neg ho]
    cases ex with
    | true =>
      have s1 := spec_scan own true i page w wt seen.length N [] seen 0 told rfl fuel (by simp; omega) (by omega) (by omega) (by omega)
      have s2 := impl_scan own true i page w ((i, true) :: wt) 1 ((((i, true) :: wt).length : Int) - 1) (seen.length : Int) seen.length N [] seen 0 told rfl fuel (by simp; omega) (by simp) (by omega) (by omega) (by omega)
      simp only [List.length_nil, Int.natCast_zero, List.nil_append, Int.zero_add] at s1 s2
      simp only [s1, s2, Option.bind_some, if_true, show ((1 : Int)).toNat = 1 from rfl, e1]
      by_cases hz : (scanL i page 0 seen).2.length = 0
      · simp only [hz, Int.natCast_zero, decide_true, cond_true, if_true]
        rw [hz] at hsc
        obtain ⟨g1, g2⟩ := give_eq hsc true true
        simp only [Int.natCast_zero] at g1 g2
        rw [g1, g2]
        exact ⟨rfl, rfl⟩
      · simp only [decide_eq_false (show ¬ ((scanL i page 0 seen).2.length : Int) = 0 by omega), cond_false, if_neg hz]
        exact ⟨trivial, trivial⟩
    | false =>
      obtain ⟨n, hn⟩ : ∃ n, N = n + 1 := ⟨N - 1, rfl⟩
      have s1 : f_spec_l4Next.l0 N 0 own true i false 0 page w seen wt told = some (own, true, i, false, 0, page, w, seen, wt, told) := by
        rw [hn]
        simp only [f_spec_l4Next.l0, cond_false]
        cases decide (0 < (seen.length : Int)) <;> rfl
      have s2 := impl_skip own true i page w ((i, false) :: wt) 1 ((((i, false) :: wt).length : Int) - 1) 0 seen told (by omega) seen.length N 0 (by omega) fuel
      simp only [Int.natCast_zero] at s2
      obtain ⟨g1, g2⟩ := give_eq h' true false
      simp only [s1, s2, Option.bind_some, show ((1 : Int)).toNat = 1 from rfl, e1, decide_true, cond_true, g1, g2, Bool.false_eq_true, if_false]
      exact ⟨trivial, trivial⟩
def HKs (k : Int) (s : KT) : Prop := HK k s.1 s.2.1 s.2.2.1 s.2.2.2.2.1 s.2.2.2.2.2.2.1 s.2.2.2.2.2.2.2.1 s.2.2.2.2.2.2.2.2.1 s.2.2.2.2.2.2.2.2.2
def SIs (s : KT) : Prop := SI s.2.1 s.2.2.1 s.2.2.2.1 s.2.2.2.2.1 s.2.2.2.2.2.1 s.2.2.2.2.2.2.1
theorem give_si {w : List Int} {own : Int} {seen : List Bool} {who : Int} {ex : Bool} {wait : List (Int × Bool)} {page : Int} {told : List ToldT} (h0 : 0 ≤ who) (ho : own < 0) (hx : ex = true → ∀ j : Nat, (j : Int) ≠ who → seen.getD j false = false) : SIs (giveB w own seen who ex 0 wait page told) := by
  refine ⟨fun ha j => ?_, fun hb => (by cases hb), fun _ => rfl⟩
  show (seen.set who.toNat (!ex)).getD j false = false
  have ha : 0 ≤ (if ex = true then who else own) := ha
  cases ex with
  | false => simp at ha; omega
  | true =>
    by_cases hj : (j : Int) = who
    · rw [List.getD_eq_getElem?_getD, List.getElem?_set]
      rw [if_pos (show who.toNat = j by omega)]
      split <;> rfl
    · rw [List.getD_eq_getElem?_getD, List.getElem?_set, if_neg (by omega), ← List.getD_eq_getElem?_getD]
      exact hx rfl j hj
theorem next_ok {k : Int} {w : List Int} {own : Int} {seen : List Bool} {who need : Int} {i : Int} {ex : Bool} {wt : List (Int × Bool)} {page : Int} {told : List ToldT} (h : HK k w own seen who need ((i, ex) :: wt) page told) :
    HKs k (nextB w own seen i ex need wt page told) ∧ (nextB w own seen i ex need wt page told).2.2.2.2.2.2.2.1 = wt ∧ (∀ ex0, SI own seen false who ex0 need → SIs (nextB w own seen i ex need wt page told)) := by
  have ht := h.tl
  have hq := h.ql
  have hs := h.sl
  have hk := h.k1
  have k0 := h.k0
  have o0 := h.o0
  have hi := h.q (i, ex) (.head _)
  simp only [List.length_cons] at ht hq
  have h' : ∀ m, 0 ≤ m → m ≤ k → HK k w own seen i m wt page told := fun m m0 m1 => ⟨h.k0, h.k1, h.w4, h.ww, h.o0, h.o1, h.sl, hi.1, hi.2, m0, m1, fun e he => h.q e (.tail _ he), by omega, h.p0, h.p1, h.t, by omega⟩
  unfold nextB
  by_cases ho : 0 ≤ own
  · rw [if_pos ho]
    have o1 := h.o1
    refine ⟨?_, rfl, fun ex0 si => ⟨si.a, fun _ => .inl ⟨ho, si.c rfl⟩, fun hb => (by cases hb)⟩⟩
    have := h' need h.n0 h.n1
    refine ⟨this.k0, this.k1, this.w4, this.ww, this.o0, this.o1, this.sl, this.h0, this.h1, this.n0, this.n1, this.q, this.ql, this.p0, this.p1, fun e he => ?_, by simp; omega⟩
    rcases List.mem_append.1 he with he | he
    · exact h.t e he
    · rw [List.mem_singleton.1 he]
      exact ⟨ho, o1, Nat.zero_le _, msg_none 6 page (.inr rfl) h.p0 h.p1 ex (fun _ => rfl)⟩
  · rw [if_neg ho]
    cases ex with
    | true =>
      rw [if_pos rfl]
      have hsc := scan_ok (h' 0 (by omega) (by omega)) (by omega)
      obtain ⟨l1, l2⟩ := scanL_len i page seen 0
      by_cases hz : (scanL i page 0 seen).2.length = 0
      · rw [if_pos hz]
        rw [hz] at hsc
        refine ⟨?_, rfl, fun ex0 si => give_si hi.1 (by omega) fun _ j hj => scanL_other i page seen 0 j (by omega)⟩
        exact give_ok hsc true (by rw [List.length_append]; omega)
      · rw [if_neg hz]
        refine ⟨hsc, rfl, fun ex0 si => ⟨fun ha => absurd ha ho, fun _ => .inr ⟨by show own = -1; omega, by show (0 : Int) < ((scanL i page 0 seen).2.length : Int); omega, rfl, fun j hj => scanL_other i page seen 0 j (by have hj : (j : Int) ≠ i := hj; omega)⟩, fun hb => (by cases hb)⟩⟩
    | false =>
      rw [if_neg (by simp)]
      refine ⟨give_ok (h' 0 (by omega) (by omega)) false (by omega), rfl, fun ex0 si => give_si hi.1 (by omega) fun hx => (by cases hx)⟩
/-- As long as it is not busy and somebody waits. -/
theorem hear_loop {k : Int} (j1 : Int) (j2 : Bool) (j3 : Int) (j4 : Bool) (j5 : Int) (l1 : List Int) (l2 : List Bool) (l3 : List (Int × Bool)) : ∀ (m : Nat) (w : List Int) (own : Int) (seen : List Bool) (busy : Bool) (who : Int) (ex : Bool) (need : Int) (wait : List (Int × Bool)) (page : Int) (told : List ToldT), wait.length = m → HK k w own seen who need wait page told →
    ∃ s : KT, HKs k s ∧ (SI own seen busy who ex need → SIs s) ∧ ∀ n, m < n →
      f_spec_HomeHear.l0 n j1 j2 j3 j4 j5 own busy who ex need page l1 l2 l3 w seen wait told = some (j1, j2, j3, j4, j5, s.2.1, s.2.2.2.1, s.2.2.2.2.1, s.2.2.2.2.2.1, s.2.2.2.2.2.2.1, s.2.2.2.2.2.2.2.2.1, l1, l2, l3, s.1, s.2.2.1, s.2.2.2.2.2.2.2.1, s.2.2.2.2.2.2.2.2.2) ∧
      f_impl_HomeHear.l1 n j1 j2 j3 j4 j5 own busy who ex need page l1 l2 l3 w seen wait told = some (j1, j2, j3, j4, j5, s.2.1, s.2.2.2.1, s.2.2.2.2.1, s.2.2.2.2.2.1, s.2.2.2.2.2.2.1, s.2.2.2.2.2.2.2.2.1, l1, l2, l3, s.1, s.2.2.1, s.2.2.2.2.2.2.2.1, s.2.2.2.2.2.2.2.2.2) := by
  intro m
  induction m with
  | zero =>
    intro w own seen busy who ex need wait page told hm h
    obtain rfl := List.eq_nil_of_length_eq_zero hm
    refine ⟨(w, own, seen, busy, who, ex, need, [], page, told), h, fun h => h, fun n hn => ?_⟩
    obtain ⟨n, rfl⟩ := succ_fuel hn
    simp only [f_spec_HomeHear.l0, f_impl_HomeHear.l1, List.length_nil, decide_eq_false (show ¬ (0 : Int) < ((0 : Nat) : Int) by omega), cond_false]
    cases busy <;> exact ⟨rfl, rfl⟩
  | succ m ih =>
    intro w own seen busy who ex need wait page told hm h
    cases busy with
    | true =>
      refine ⟨(w, own, seen, true, who, ex, need, wait, page, told), h, fun h => h, fun n hn => ?_⟩
      obtain ⟨n, rfl⟩ := succ_fuel hn
      simp only [f_spec_HomeHear.l0, f_impl_HomeHear.l1, Bool.not_true, cond_false]
      exact ⟨trivial, trivial⟩
    | false =>
      cases wait with
      | nil => cases hm
      | cons e wt =>
        obtain ⟨i, ex'⟩ := e
        simp only [List.length_cons, Nat.add_right_cancel_iff] at hm
        obtain ⟨e1, e2⟩ := next_eq h false ex
        obtain ⟨k1, k2, k3⟩ := next_ok h
        generalize nextB w own seen i ex' need wt page told = s at e1 e2 k1 k2 k3
        obtain ⟨s', a1, a2, a3⟩ := ih s.1 s.2.1 s.2.2.1 s.2.2.2.1 s.2.2.2.2.1 s.2.2.2.2.2.1 s.2.2.2.2.2.2.1 s.2.2.2.2.2.2.2.1 s.2.2.2.2.2.2.2.2.1 s.2.2.2.2.2.2.2.2.2 (by rw [k2]; exact hm) k1
        refine ⟨s', a1, fun si => a2 (k3 ex si), fun n hn => ?_⟩
        obtain ⟨n, rfl⟩ := succ_fuel hn
        obtain ⟨b1, b2⟩ := a3 n (by omega)
        simp only [f_spec_HomeHear.l0, f_impl_HomeHear.l1, List.length_cons, decide_eq_true (show (0 : Int) < ((wt.length + 1 : Nat) : Int) by omega), Bool.not_false, cond_true, e1, e2, Option.bind_some, b1, b2]
        exact ⟨trivial, trivial⟩
/-- What a message says to a home; none: nothing. -/
def hear0 (w : List Int) (own : Int) (seen : List Bool) (busy : Bool) (who : Int) (ex : Bool) (need : Int) (wait : List (Int × Bool)) (page : Int) (src kind : Int) (ws : List Int) : Option KT :=
  if kind = 1 ∨ kind = 2 then (if wait.length = 12 then none else some (w, own, seen, busy, who, ex, need, wait ++ [(src, decide (kind = 2))], page, []))
  else if kind = 5 then (if busy = true ∧ need ≠ 0 then (if need - 1 = 0 then some (giveB w own seen who ex 0 wait page []) else some (w, own, seen, busy, who, ex, need - 1, wait, page, [])) else none)
  else if kind = 7 then (if busy = true ∧ need = 0 ∧ src = own then some (giveB ws (-1) (seen.set src.toNat (!ex)) who ex need wait page []) else none)
  else none
/-- Where the two differ: an owner that reads, when the page comes back for one who is to own it. -/
def NB (own : Int) (seen : List Bool) (busy : Bool) (ex : Bool) (need : Int) : Prop := busy = true → need = 0 → ex = true → 0 ≤ own → seen.getD own.toNat false = false
theorem setB_same {x : List Bool} {i : Nat} (h : x.getD i false = false) : x.set i false = x := by
  refine List.ext_getElem? fun j => ?_
  rw [List.getElem?_set]
  split
  · rename_i hj
    subst hj
    split
    · rename_i hi
      rw [List.getD_eq_getElem?_getD, List.getElem?_eq_getElem hi] at h
      rw [List.getElem?_eq_getElem hi]
      exact congrArg some h.symm
    · rename_i hi
      rw [List.getElem?_eq_none (by omega)]
  · rfl
theorem hear0_ok {k : Int} {w : List Int} {own : Int} {seen : List Bool} {busy : Bool} {who : Int} {ex : Bool} {need : Int} {wait : List (Int × Bool)} {page : Int} (h : HK k w own seen who need wait page []) (src kind : Int) (c : Bool) (ws : List Int) (s0 : 0 ≤ src) (s1 : src ≤ k - 1)
    (hn : ws.length ≤ 1048576) (hm : f_spec_MsgOk kind page c ws = some true) {s : KT} (hs : hear0 w own seen busy who ex need wait page src kind ws = some s) : HKs k s ∧ (SI own seen busy who ex need → SIs s) := by
  have ql := h.ql
  have n1 := h.n1
  have n0 := h.n0
  have k0 := h.k0
  unfold hear0 at hs
  split at hs
  · split at hs
    · cases hs
    · rename_i hw
      have := Option.some.inj hs
      subst this
      refine ⟨⟨h.k0, h.k1, h.w4, h.ww, h.o0, h.o1, h.sl, h.h0, h.h1, h.n0, h.n1, fun e he => ?_, by simp; omega, h.p0, h.p1, h.t, by simp; omega⟩, fun si => si⟩
      rcases List.mem_append.1 he with he | he
      · exact h.q e he
      · rw [List.mem_singleton.1 he]; exact ⟨s0, s1⟩
  · split at hs
    · split at hs
      · rename_i hb
        split at hs
        · rename_i hz
          have := Option.some.inj hs
          subst this
          have h' : HK k w own seen who 0 wait page [] := ⟨h.k0, h.k1, h.w4, h.ww, h.o0, h.o1, h.sl, h.h0, h.h1, Int.le_refl _, by omega, h.q, h.ql, h.p0, h.p1, h.t, h.tl⟩
          refine ⟨give_ok h' ex (by simp; omega), fun si => ?_⟩
          rcases si.b hb.1 with ⟨_, h0⟩ | ⟨h1, _, _, h2⟩
          · exact absurd h0 hb.2
          · exact give_si h.h0 (by omega) fun _ => h2
        · rename_i hz
          have := Option.some.inj hs
          subst this
          refine ⟨⟨h.k0, h.k1, h.w4, h.ww, h.o0, h.o1, h.sl, h.h0, h.h1, by show 0 ≤ need - 1; have := hb.2; omega, by show need - 1 ≤ k; omega, h.q, h.ql, h.p0, h.p1, h.t, h.tl⟩, fun si => ⟨si.a, fun hb' => ?_, fun hb' => ?_⟩⟩
          · rcases si.b hb.1 with ⟨_, h0⟩ | ⟨h1, h2, h3, h4⟩
            · exact absurd h0 hb.2
            · exact .inr ⟨h1, by show 0 < need - 1; omega, h3, h4⟩
          · have hb' : busy = false := hb'
            rw [hb.1] at hb'; cases hb'
      · cases hs
    · split at hs
      · split at hs
        · rename_i _ _ hk hb
          have := Option.some.inj hs
          subst this
          subst hk
          obtain ⟨hb1, rfl, hb3⟩ := hb
          obtain ⟨-, -, -, -, m5, m6⟩ := msgOk_facts _ _ _ _ hn hm
          rw [if_pos (.inr rfl)] at m6
          have h' : HK k ws (-1) (seen.set src.toNat (!ex)) who 0 wait page [] := ⟨h.k0, h.k1, m6, m5, by omega, by omega, by rw [List.length_set]; exact h.sl, h.h0, h.h1, Int.le_refl _, by omega, h.q, h.ql, h.p0, h.p1, h.t, h.tl⟩
          refine ⟨give_ok h' ex (by simp; omega), fun si => give_si h.h0 (by omega) fun hx j hj => ?_⟩
          rw [hx, Bool.not_true, setB_same (si.a (by omega) _)]
          exact si.a (by omega) j
        · cases hs
      · cases hs
theorem copyS (x0 : List Int) (x1 : Int) (x2 : List Bool) (x3 : Bool) (x4 : Int) (x5 : Bool) (x6 : Int) (x7 : List (Int × Bool)) (h : HomeS x0 x2 x7) : f_spec_l4Copy x0 x1 x2 x3 x4 x5 x6 x7 = some (x0, x1, x2, x3, x4, x5, x6, x7) ∧ f_impl_copyHome x0 x1 x2 x3 x4 x5 x6 x7 = some (x0, x1, x2, x3, x4, x5, x6, x7) := by
  have g0 := h.g0
  have g2 := h.g2
  have g7 := h.g7
  unfold f_spec_l4Copy f_impl_copyHome
  simp only [f_slices_Clone_int_int, f_slices_Clone_bool_bool, f_slices_Clone_impl_Wait_impl_Wait, List.length_nil, Nat.zero_add, (blt_iff _ _).2 (show x0.length < 17592186044416 by omega), (blt_iff _ _).2 (show x2.length < 140737488355328 by omega), (blt_iff _ _).2 (show x7.length < 8796093022208 by omega), cond_true, List.nil_append, Option.bind_some]
  exact ⟨trivial, trivial⟩
theorem spec_hear0 {k : Int} {w : List Int} {own : Int} {seen : List Bool} {busy : Bool} {who : Int} {ex : Bool} {need : Int} {wait : List (Int × Bool)} {page : Int} (h : HK k w own seen who need wait page []) (src kind pg : Int) (c : Bool) (ws : List Int) (s0 : 0 ≤ src) (s1 : src ≤ k - 1)
    (hn : ws.length ≤ 1048576) (hm : f_spec_MsgOk kind page c ws = some true) : f_spec_l4Hear w own seen busy who ex need wait page [] src kind pg c ws = some (match hear0 w own seen busy who ex need wait page src kind ws with
      | some s => (true, s)
      | none => (false, w, own, seen, busy, who, ex, need, wait, page, [])) := by
  have ql := h.ql
  have n0 := h.n0
  have n1 := h.n1
  have hs := h.sl
  have k1 := h.k1
  have k0 := h.k0
  unfold f_spec_l4Hear hear0
  by_cases h1 : kind = 1
  · subst h1
    by_cases hw : wait.length = 12
    · simp only [decide_true, cond_true, hw, decide_eq_true (show ((12 : Nat) : Int) = 12 by omega), true_or, if_true]
    · simp only [decide_true, cond_true, decide_eq_false (show ¬ (wait.length : Int) = 12 by omega), cond_false, true_or, if_true, if_neg hw, List.length_singleton, (blt_iff _ _).2 (show wait.length + 1 < 8796093022208 by omega), Option.bind_some]
  · by_cases h2 : kind = 2
    · subst h2
      by_cases hw : wait.length = 12
      · simp only [decide_true, cond_true, cond_false, decide_eq_false (show ¬ (2 : Int) = 1 by omega), hw, decide_eq_true (show ((12 : Nat) : Int) = 12 by omega), or_true, if_true]
      · simp only [decide_true, cond_true, cond_false, decide_eq_false (show ¬ (2 : Int) = 1 by omega), decide_eq_false (show ¬ (wait.length : Int) = 12 by omega), or_true, if_true, if_neg hw, List.length_singleton, (blt_iff _ _).2 (show wait.length + 1 < 8796093022208 by omega), Option.bind_some]
    · simp only [decide_eq_false h1, decide_eq_false h2, cond_false, if_neg (show ¬ (kind = 1 ∨ kind = 2) by omega)]
      by_cases h5 : kind = 5
      · simp only [decide_eq_true h5, cond_true, if_pos h5]
        cases busy with
        | false => simp only [Bool.not_false, cond_true, Bool.false_eq_true, false_and, if_false]
        | true =>
          by_cases hz : need = 0
          · subst hz
            simp only [Bool.not_true, cond_false, decide_true, cond_true, ne_eq, not_true_eq_false, and_false, if_false]
          · rw [if_pos (⟨rfl, hz⟩ : true = true ∧ need ≠ 0)]
            simp only [Bool.not_true, cond_false, decide_eq_false hz, w64 (show -9223372036854775808 ≤ need - 1 by omega) (by omega)]
            by_cases hy : need - 1 = 0
            · have h' : HK k w own seen who 0 wait page [] := ⟨h.k0, h.k1, h.w4, h.ww, h.o0, h.o1, h.sl, h.h0, h.h1, Int.le_refl _, by omega, h.q, h.ql, h.p0, h.p1, h.t, h.tl⟩
              simp only [hy, decide_true, cond_true, (give_eq h' true ex).1, Option.bind_some, if_true]
            · simp only [decide_eq_false hy, cond_false, if_neg hy]
      · by_cases h7 : kind = 7
        · subst h7
          simp only [decide_eq_false h5, cond_false, if_neg h5, decide_true, cond_true, if_true]
          cases busy with
          | false => simp only [Bool.not_false, cond_true, Bool.false_eq_true, false_and, if_false]
          | true =>
            by_cases hz : need = 0
            · subst hz
              by_cases ho : src = own
              · obtain rfl : own = src := ho.symm
                obtain ⟨-, -, -, -, m5, m6⟩ := msgOk_facts _ _ _ _ hn hm
                rw [if_pos (.inr rfl)] at m6
                have h' : HK k ws (-1) (seen.set own.toNat (!ex)) who 0 wait page [] := ⟨h.k0, h.k1, m6, m5, by omega, by omega, by rw [List.length_set]; exact h.sl, h.h0, h.h1, Int.le_refl _, by omega, h.q, h.ql, h.p0, h.p1, h.t, h.tl⟩
                rw [if_pos (⟨rfl, rfl, rfl⟩ : true = true ∧ (0 : Int) = 0 ∧ own = own)]
                simp only [Bool.not_true, cond_false, decide_eq_false (show ¬ (0 : Int) < 0 by omega), decide_true, List.length_nil, Nat.zero_add, (blt_iff _ _).2 (show ws.length < 17592186044416 by omega), cond_true, List.nil_append, Option.bind_some, decide_eq_true s0, decide_eq_true (show own < (seen.length : Int) by omega), Bool.and_self, (give_eq h' true ex).1]
              · rw [if_neg (fun h => ho h.2.2)]
                simp only [Bool.not_true, cond_false, decide_eq_false (show ¬ (0 : Int) < 0 by omega), decide_eq_false ho, Bool.not_false, cond_true]
            · rw [if_neg (fun h => hz h.2.1)]
              simp only [Bool.not_true, cond_false, decide_eq_true (show 0 < need by omega), cond_true]
        · simp only [decide_eq_false h5, decide_eq_false h7, cond_false, if_neg h5, if_neg h7]
theorem impl_hear0 {k : Int} {w : List Int} {own : Int} {seen : List Bool} {busy : Bool} {who : Int} {ex : Bool} {need : Int} {wait : List (Int × Bool)} {page : Int} (h : HK k w own seen who need wait page []) (nb : NB own seen busy ex need) (src kind pg : Int) (c : Bool) (ws : List Int) (s0 : 0 ≤ src) (s1 : src ≤ k - 1)
    (hn : ws.length ≤ 1048576) (hm : f_spec_MsgOk kind page c ws = some true) (fl : Bool) (hfl : fl = (decide (kind = 1 ∨ kind = 2) && decide ((wait.length : Int) < 12))) (j1 : Int) (j2 : Bool) (j3 : Int) (j4 : Bool) (j5 : Int) (l1 : List Int) (l2 : List Bool) (l3 : List (Int × Bool)) :
    f_impl_HomeHear.j0 src fl w own seen busy who ex need wait kind pg c ws j1 j2 j3 j4 j5 own busy who ex need page l1 l2 l3 w seen wait [] = some (match hear0 w own seen busy who ex need wait page src kind ws with
      | some s => .inl (j1, j2, j3, j4, j5, s.2.1, s.2.2.2.1, s.2.2.2.2.1, s.2.2.2.2.2.1, s.2.2.2.2.2.2.1, s.2.2.2.2.2.2.2.2.1, l1, l2, l3, s.1, s.2.2.1, s.2.2.2.2.2.2.2.1, s.2.2.2.2.2.2.2.2.2)
      | none => .inr (own, busy, who, ex, need, w, seen, wait)) := by
  have ql := h.ql
  have n0 := h.n0
  have n1 := h.n1
  have hs := h.sl
  have k1 := h.k1
  have k0 := h.k0
  have w4 := h.w4
  have hS : HomeS w seen wait := ⟨by omega, by omega, by omega⟩
  have hc := (copyS w own seen busy who ex need wait hS).2
  have h' : HK k w own seen who 0 wait page [] := ⟨h.k0, h.k1, h.w4, h.ww, h.o0, h.o1, h.sl, h.h0, h.h1, Int.le_refl _, by omega, h.q, h.ql, h.p0, h.p1, h.t, h.tl⟩
  unfold f_impl_HomeHear.j0 hear0
  by_cases h12 : kind = 1 ∨ kind = 2
  · rw [if_pos h12]
    rw [decide_eq_true h12, Bool.true_and] at hfl
    subst hfl
    by_cases hw : wait.length = 12
    · rw [if_pos hw]
      simp only [decide_eq_false (show ¬ (wait.length : Int) < 12 by omega), cond_false, decide_eq_false (show ¬ kind = 5 by omega), decide_eq_false (show ¬ kind = 7 by omega), hc, Option.bind_some]
    · rw [if_neg hw]
      simp only [decide_eq_true (show (wait.length : Int) < 12 by omega), cond_true, List.length_singleton, (blt_iff _ _).2 (show wait.length + 1 < 8796093022208 by omega), Option.bind_some]
  · rw [if_neg h12]
    rw [decide_eq_false h12, Bool.false_and] at hfl
    subst hfl
    simp only [cond_false]
    by_cases h5 : kind = 5
    · rw [if_pos h5]
      simp only [decide_eq_true h5, cond_true, decide_eq_false (show ¬ kind = 7 by omega), cond_false, hc, Option.bind_some]
      cases busy with
      | false => rw [if_neg (fun h => by cases h.1)]; rfl
      | true =>
        by_cases hz : need = 0
        · rw [if_neg (fun h => h.2 hz)]
          simp only [cond_true, decide_eq_false (show ¬ (0 : Int) < need by omega), cond_false]
        · rw [if_pos (⟨rfl, hz⟩ : true = true ∧ need ≠ 0)]
          simp only [cond_true, decide_eq_true (show (0 : Int) < need by omega), w64 (show -9223372036854775808 ≤ need - 1 by omega) (by omega)]
          by_cases hy : need - 1 = 0
          · simp only [hy, decide_true, cond_true, (give_eq h' true ex).2, Option.bind_some, if_true]
          · simp only [decide_eq_false hy, cond_false, if_neg hy]
    · rw [if_neg h5]
      simp only [decide_eq_false h5, cond_false]
      by_cases h7 : kind = 7
      · rw [if_pos h7]
        simp only [decide_eq_true h7, cond_true, hc, Option.bind_some]
        cases busy with
        | false => rw [if_neg (fun h => by cases h.1)]; rfl
        | true =>
          by_cases ho : src = own
          · by_cases hz : need = 0
            · subst h7
              subst hz
              obtain rfl : own = src := ho.symm
              obtain ⟨-, -, -, -, m5, m6⟩ := msgOk_facts _ _ _ _ hn hm
              rw [if_pos (.inr rfl)] at m6
              have h7' : HK k ws (-1) (seen.set own.toNat (!ex)) who 0 wait page [] := ⟨h.k0, h.k1, m6, m5, by omega, by omega, by rw [List.length_set]; exact h.sl, h.h0, h.h1, Int.le_refl _, by omega, h.q, h.ql, h.p0, h.p1, h.t, h.tl⟩
              rw [if_pos (⟨rfl, rfl, rfl⟩ : true = true ∧ (0 : Int) = 0 ∧ own = own)]
              simp only [decide_true, cond_true, f_slices_Clone_int_int, Nat.zero_add, (blt_iff _ _).2 (show ws.length < 17592186044416 by omega), Option.bind_some]
              cases ex with
              | false =>
                simp only [Bool.not_false, cond_true, decide_eq_true s0, decide_eq_true (show own < (seen.length : Int) by omega), Bool.and_self]
                have := (give_eq h7' true false).2
                simp only [Bool.not_false] at this
                simp only [this, Option.bind_some]
              | true =>
                have e := setB_same (nb rfl rfl rfl s0)
                have := (give_eq h7' true true).2
                simp only [Bool.not_true, e] at this
                simp only [Bool.not_true, cond_false, this, Option.bind_some, e]
            · rw [if_neg (fun h => hz h.2.1)]
              simp only [decide_eq_true ho, cond_true, decide_eq_false hz, cond_false]
          · rw [if_neg (fun h => ho h.2.2)]
            simp only [cond_true, decide_eq_false ho, cond_false]
      · rw [if_neg h7]
        simp only [decide_eq_false h7, cond_false, hc, Option.bind_some]
theorem HK_of {x0 : List Int} {x1 : Int} {x2 : List Bool} {x4 x6 : Int} {x7 : List (Int × Bool)} {k : Int} (h : homeOkB x0 x1 x2 x4 x6 x7 k = true) (page : Int) (p0 : 0 ≤ page) (p1 : page ≤ 5) : HK k x0 x1 x2 x4 x6 x7 page [] := by
  unfold homeOkB rng2 at h
  simp only [Bool.and_eq_true, decide_eq_true_eq, List.all_eq_true] at h
  obtain ⟨⟨⟨⟨⟨⟨⟨h1, h2, h3⟩, h4⟩, h5⟩, h6⟩, h7⟩, h8⟩, h9⟩ := h
  exact ⟨h1.1, h1.2, by omega, h2, h4.1, h4.2, h5, h6.1, h6.2, h7.1, h7.2, h9, by omega, p0, p1, fun e he => (by cases he), by simp; omega⟩
theorem HK_to {w : List Int} {own : Int} {seen : List Bool} {who need : Int} {wait : List (Int × Bool)} {page : Int} {told : List ToldT} {k : Int} (h : HK k w own seen who need wait page told) : homeOkB w own seen who need wait k = true := by
  unfold homeOkB rng2
  simp only [Bool.and_eq_true, decide_eq_true_eq, List.all_eq_true]
  have := h.w4
  have := h.ql
  exact ⟨⟨⟨⟨⟨⟨⟨⟨h.k0, h.k1⟩, h.ww, by omega⟩, h.o0, h.o1⟩, h.sl⟩, h.h0, h.h1⟩, h.n0, h.n1⟩, by omega⟩, h.q⟩
abbrev HR := List Int × Int × List Bool × Bool × Int × Bool × Int × List (Int × Bool) × List ToldT
def HearR (x0 : List Int) (x1 : Int) (x2 : List Bool) (x3 : Bool) (x4 : Int) (x5 : Bool) (x6 : Int) (x7 : List (Int × Bool)) (k : Int) (f g : Option HR) : Prop :=
    ∃ r : HR, f = some r ∧ (NB x1 x2 x3 x5 x6 → g = some r) ∧
      (homeOkB x0 x1 x2 x4 x6 x7 k = true → homeOkB r.1 r.2.1 r.2.2.1 r.2.2.2.2.1 r.2.2.2.2.2.2.1 r.2.2.2.2.2.2.2.1 k = true ∧ (SI x1 x2 x3 x4 x5 x6 → SI r.2.1 r.2.2.1 r.2.2.2.1 r.2.2.2.2.1 r.2.2.2.2.2.1 r.2.2.2.2.2.2.1)) ∧
      HomeS r.1 r.2.2.1 r.2.2.2.2.2.2.2.1 ∧ r.2.2.2.2.2.2.2.2.length ≤ 120 ∧ (∀ e ∈ r.2.2.2.2.2.2.2.2, okT k e) ∧ (homeOkB x0 x1 x2 x4 x6 x7 k = false → r.2.2.2.2.2.2.2.2 = [])
theorem same_hear (x0 : List Int) (x1 : Int) (x2 : List Bool) (x3 : Bool) (x4 : Int) (x5 : Bool) (x6 : Int) (x7 : List (Int × Bool)) (k page src kind pg : Int) (c : Bool) (ws : List Int) (hS : HomeS x0 x2 x7) (hn : ws.length ≤ 1048576) :
    HearR x0 x1 x2 x3 x4 x5 x6 x7 k (f_spec_HomeHear x0 x1 x2 x3 x4 x5 x6 x7 k page src kind pg c ws) (f_impl_HomeHear x0 x1 x2 x3 x4 x5 x6 x7 k page src kind pg c ws) := by
  obtain ⟨c1, c2⟩ := copyS x0 x1 x2 x3 x4 x5 x6 x7 hS
  obtain ⟨b, m1, m2⟩ := same_msgOk kind pg c ws hn
  unfold f_spec_HomeHear f_impl_HomeHear
  simp only [c1, c2, specHomeOk x0 x1 x2 x3 x4 x5 x6 x7 k hS, implHomeOk x0 x1 x2 x3 x4 x5 x6 x7 k hS, m1, m2, in_rng2, Option.bind_some]
  have same : ∀ f g : Option HR, f = some (x0, x1, x2, x3, x4, x5, x6, x7, []) → (NB x1 x2 x3 x5 x6 → g = some (x0, x1, x2, x3, x4, x5, x6, x7, [])) → HearR x0 x1 x2 x3 x4 x5 x6 x7 k f g :=
    fun f g hf hg => ⟨_, hf, hg, fun h => ⟨h, fun h => h⟩, hS, Nat.zero_le _, fun e he => (by cases he), fun _ => rfl⟩
  cases hok : homeOkB x0 x1 x2 x4 x6 x7 k with
  | false => simp only [Bool.not_false, cond_true]; exact same _ _ rfl fun _ => rfl
  | true =>
    simp only [Bool.not_true, cond_false]
    cases b with
    | false => simp only [Bool.not_false, cond_true]; exact same _ _ rfl fun _ => rfl
    | true =>
      obtain ⟨f1, f2, p0, p1, -, -⟩ := msgOk_facts _ _ _ _ hn m1
      have hk := HK_of hok pg p0 p1
      have k0 := hk.k0
      have k1 := hk.k1
      simp only [Bool.not_true, cond_false, isOf_rng src k k0 k1, w64 (show -9223372036854775808 ≤ k - 1 by omega) (by omega), Option.bind_some]
      cases hr : rng2 0 src (k - 1) with
      | false => simp only [Bool.not_false, cond_true]; exact same _ _ rfl fun _ => rfl
      | true =>
        unfold rng2 at hr
        simp only [Bool.and_eq_true, decide_eq_true_eq] at hr
        by_cases hp : page = pg
        · subst hp
          simp only [decide_true, Bool.not_true, cond_false, spec_hear0 hk src kind page c ws hr.1 hr.2 hn m1, Option.bind_some]
          have ij := fun nb fl hfl => impl_hear0 hk (busy := x3) (ex := x5) nb src kind page c ws hr.1 hr.2 hn m1 fl hfl 0 false 0 false 0 [] [] []
          have ok0 := fun s => @hear0_ok k x0 x1 x2 x3 x4 x5 x6 x7 page hk src kind c ws hr.1 hr.2 hn m1 s
          generalize hear0 x0 x1 x2 x3 x4 x5 x6 x7 page src kind ws = o at ij ok0
          cases o with
          | none =>
            simp only [Bool.not_false, cond_true]
            refine same _ _ rfl fun nb => ?_
            by_cases k1' : kind = 1
            · simp only [decide_eq_true k1', cond_true, ij nb _ (by rw [decide_eq_true (.inl k1'), Bool.true_and]), Option.bind_some, cs]
            · by_cases k2' : kind = 2
              · simp only [decide_eq_false k1', decide_eq_true k2', cond_true, cond_false, ij nb _ (by rw [decide_eq_true (.inr k2'), Bool.true_and]), Option.bind_some, cs]
              · simp only [decide_eq_false k1', decide_eq_false k2', cond_false, ij nb false (by rw [decide_eq_false (show ¬ (kind = 1 ∨ kind = 2) by omega), Bool.false_and]), Option.bind_some, cs]
          | some s =>
            obtain ⟨a1, a2⟩ := ok0 s rfl
            obtain ⟨s', b1, b2, b3⟩ := hear_loop 0 false 0 false 0 [] [] [] s.2.2.2.2.2.2.2.1.length s.1 s.2.1 s.2.2.1 s.2.2.2.1 s.2.2.2.2.1 s.2.2.2.2.2.1 s.2.2.2.2.2.2.1 s.2.2.2.2.2.2.2.1 s.2.2.2.2.2.2.2.2.1 s.2.2.2.2.2.2.2.2.2 rfl a1
            have hfu := a1.ql
            obtain ⟨d1, d2⟩ := b3 N (Nat.lt_of_le_of_lt hfu (Nat.lt_trans (by omega) big))
            refine ⟨(s'.1, s'.2.1, s'.2.2.1, s'.2.2.2.1, s'.2.2.2.2.1, s'.2.2.2.2.2.1, s'.2.2.2.2.2.2.1, s'.2.2.2.2.2.2.2.1, s'.2.2.2.2.2.2.2.2.2), ?_, fun nb => ?_, fun _ => ⟨HK_to b1, fun si => b2 (a2 si)⟩, ?_, ?_, b1.t, fun h => (by rw [hok] at h; cases h)⟩
            · simp only [Bool.not_true, cond_false, d1, Option.bind_some]
            · by_cases k1' : kind = 1
              · simp only [decide_eq_true k1', cond_true, ij nb _ (by rw [decide_eq_true (.inl k1'), Bool.true_and]), Option.bind_some, cs, d2]
              · by_cases k2' : kind = 2
                · simp only [decide_eq_false k1', decide_eq_true k2', cond_true, cond_false, ij nb _ (by rw [decide_eq_true (.inr k2'), Bool.true_and]), Option.bind_some, cs, d2]
                · simp only [decide_eq_false k1', decide_eq_false k2', cond_false, ij nb false (by rw [decide_eq_false (show ¬ (kind = 1 ∨ kind = 2) by omega), Bool.false_and]), Option.bind_some, cs, d2]
            · have := b1.w4; have := b1.sl; have := b1.ql
              exact ⟨by show s'.1.length ≤ _; omega, by show s'.2.2.1.length ≤ _; omega, by show s'.2.2.2.2.2.2.2.1.length ≤ _; omega⟩
            · have := b1.tl
              show s'.2.2.2.2.2.2.2.2.2.length ≤ 120
              omega
        · simp only [decide_eq_false hp, decide_eq_false (show ¬ pg = page from fun h => hp h.symm), Bool.not_false, cond_true]
          exact same _ _ rfl fun _ => rfl
theorem and8 (n : Int) : bitI .and .i64 n 255 = n % 256 := by
  have h : (BitVec.ofInt 64 n &&& BitVec.ofInt 64 255).toNat = (n % 18446744073709551616).toNat % 256 := by
    rw [BitVec.toNat_and, BitVec.toNat_ofInt]
    show (n % 18446744073709551616).toNat &&& (2 ^ 8 - 1) = _
    rw [Nat.and_two_pow_sub_one_eq_mod]
  show IntKind.wrap .i64 ((BitVec.ofInt 64 n &&& BitVec.ofInt 64 255).toNat : Int) = _
  rw [h, w64 (by omega) (by omega)]
  omega
theorem draw_byte (x : List Int) (hn : x.length ≤ 1048576) (p s : Int) (hp : 0 ≤ p) : ∃ b p' s', f_spec_l1Byte x p s = some (b, p', s') ∧ 0 ≤ b ∧ b ≤ 255 ∧ 0 ≤ p' := by
  unfold f_spec_l1Byte
  simp only [and8]
  by_cases h : p < (x.length : Int)
  · rw [decide_eq_true h, decide_eq_true hp, w64 (show -9223372036854775808 ≤ p + 1 by omega) (by omega)]
    exact ⟨_, _, _, rfl, by omega, by omega, by omega⟩
  · rw [decide_eq_false h]
    exact ⟨_, _, _, rfl, by omega, by omega, hp⟩
theorem draw_below (x : List Int) (hn : x.length ≤ 1048576) (p s n : Int) (hp : 0 ≤ p) : ∃ r p' s', f_spec_l1Below x p s n = some (r, p', s') ∧ 0 ≤ p' ∧ 0 ≤ r ∧ (0 < n → r < n) ∧ (n ≤ 0 → r = 0) := by
  unfold f_spec_l1Below
  by_cases h0 : n ≤ 0
  · rw [decide_eq_true h0]
    exact ⟨_, _, _, rfl, hp, Int.le_refl _, fun h => by omega, fun _ => rfl⟩
  · rw [decide_eq_false h0, cond_false, decide_eq_false (show ¬ n = 0 by omega)]
    have hm : ∀ b, 0 ≤ b → 0 ≤ Int.tmod b n ∧ Int.tmod b n < n := fun b hb => by
      rw [Int.tmod_eq_emod_of_nonneg hb]
      exact ⟨Int.emod_nonneg _ (by omega), Int.emod_lt_of_pos _ (by omega)⟩
    by_cases h1 : n ≤ 256
    · obtain ⟨b, p', s', e, b0, b1, q⟩ := draw_byte x hn p s hp
      rw [decide_eq_true h1, e]
      exact ⟨_, _, _, rfl, q, (hm b b0).1, fun _ => (hm b b0).2, fun h => absurd h h0⟩
    · obtain ⟨b, p1, s1, e1, b0, b1, q1⟩ := draw_byte x hn p s hp
      obtain ⟨c, p2, s2, e2, c0, c1, q2⟩ := draw_byte x hn p1 s1 q1
      obtain ⟨d, p3, s3, e3, d0, d1, q3⟩ := draw_byte x hn p2 s2 q2
      obtain ⟨e, p4, s4, e4, f0, f1, q4⟩ := draw_byte x hn p3 s3 q3
      rw [decide_eq_false h1, cond_false, e1, Option.bind_some]
      simp only [e2, e3, e4, Option.bind_some, cond_false]
      rw [w64 (show -9223372036854775808 ≤ b * 16777216 by omega) (by omega), w64 (show -9223372036854775808 ≤ c * 65536 by omega) (by omega), w64 (show -9223372036854775808 ≤ d * 256 by omega) (by omega), w64 (show -9223372036854775808 ≤ b * 16777216 + c * 65536 by omega) (by omega), w64 (show -9223372036854775808 ≤ b * 16777216 + c * 65536 + d * 256 by omega) (by omega), w64 (show -9223372036854775808 ≤ b * 16777216 + c * 65536 + d * 256 + e by omega) (by omega)]
      have := hm (b * 16777216 + c * 65536 + d * 256 + e) (by omega)
      exact ⟨_, _, _, rfl, q4, this.1, fun _ => this.2, fun h => absurd h h0⟩
/-- The head of a draw: the bytes that it was handed, and a number out of them. -/
theorem draw_new {τ : Type} {F : Nat → List Int → Int → Int → Option τ} {G : List Int → Int → τ}
    (hs : ∀ n x s i, F (n + 1) x s i = bif (decide (i < (x.length : Int))) then bif (decide (i < (4000 : Int))) then bif ((decide ((0 : Int) ≤ i)) && (decide (i < (x.length : Int)))) then
      F n x (bitI .and .i64 (IntKind.wrap .i64 ((IntKind.wrap .i64 ((IntKind.wrap .i64 (s * (131 : Int))) + (IntKind.wrap .i64 ((x.getD i.toNat 0))))) + (7 : Int))) (1073741823 : Int)) (IntKind.wrap .i64 (i + (1 : Int))) else none else some (G x s) else some (G x s))
    (x : List Int) (hn : x.length ≤ 1048576) : ∀ s, ∃ s', F N x s 0 = some (G x s') := by
  have key : ∀ (k n : Nat) (s i : Int), 0 ≤ i → (x.length : Int) - i ≤ k → k < n → ∃ s', F n x s i = some (G x s') := by
    intro k
    induction k with
    | zero =>
      intro n s i h0 h1 hk
      obtain ⟨n, rfl⟩ := succ_fuel hk
      rw [hs, decide_eq_false (by omega)]
      exact ⟨_, rfl⟩
    | succ k ih =>
      intro n s i h0 h1 hk
      obtain ⟨n, rfl⟩ := succ_fuel hk
      rw [hs]
      by_cases h : i < (x.length : Int)
      · rw [decide_eq_true h, decide_eq_true h0, w64 (show -9223372036854775808 ≤ i + 1 by omega) (by omega)]
        cases decide (i < 4000)
        · exact ⟨_, rfl⟩
        · exact ih n _ (i + 1) (by omega) (by omega) (by omega)
      · rw [decide_eq_false h]; exact ⟨_, rfl⟩
  intro s
  exact key x.length N s 0 (Int.le_refl _) (by omega) (Nat.lt_of_le_of_lt hn (Nat.lt_trans (by omega) big))
theorem draw_pick (x : List Int) (hn : x.length ≤ 1048576) (p s : Int) (hp : 0 ≤ p) (l : List Int) (hl : 0 < (l.length : Int)) : ∃ e p' s', f_spec_l1PickInt x p s l = some (e, p', s') ∧ e ∈ l ∧ 0 ≤ p' := by
  unfold f_spec_l1PickInt
  obtain ⟨r, p', s', e, q, r0, r1, -⟩ := draw_below x hn p s (l.length : Int) hp
  rw [e, Option.bind_some]
  have r2 := r1 hl
  have hlt : r.toNat < l.length := by omega
  simp only [decide_eq_true r0, decide_eq_true r2, Bool.and_self, cond_true]
  refine ⟨_, _, _, rfl, ?_, q⟩
  rw [List.getD_eq_getElem?_getD, List.getElem?_eq_getElem hlt]
  exact List.getElem_mem hlt
theorem draw_once (x : List Int) (hn : x.length ≤ 1048576) (p s n : Int) (hp : 0 ≤ p) : ∃ b p' s', f_spec_l1Once x p s n = some (b, p', s') ∧ 0 ≤ p' := by
  unfold f_spec_l1Once
  obtain ⟨r, p', s', e, q, -⟩ := draw_below x hn p s n hp
  rw [e]
  exact ⟨_, _, _, rfl, q⟩
theorem drawList_loop (x : List Int) (hn : x.length ≤ 1048576) : ∀ (k n : Nat) (i p s : Int) (y : List Int), 0 ≤ i → 4 - i = k → k < n → 0 ≤ p → (y.length : Int) = i →
    ∃ p' s' y', f_spec_l1DrawList.l0 n i x p s y = some (x, p', s', y') ∧ 0 ≤ p' ∧ y'.length = 4 := by
  intro k
  induction k with
  | zero =>
    intro n i p s y h0 hk hn' hp hy
    obtain ⟨n, rfl⟩ := succ_fuel hn'
    simp only [f_spec_l1DrawList.l0, decide_eq_false (show ¬ i < 4 by omega), cond_false]
    exact ⟨_, _, _, rfl, hp, by omega⟩
  | succ k ih =>
    intro n i p s y h0 hk hn' hp hy
    obtain ⟨n, rfl⟩ := succ_fuel hn'
    obtain ⟨v, p1, s1, e1, -, q1⟩ := draw_pick x hn p s hp ([0, 1, 5, 300, 65535] : List Int) (by simp)
    simp only [f_spec_l1DrawList.l0, decide_eq_true (show i < 4 by omega), cond_true, e1, Option.bind_some, (blt_iff _ _).2 (show y.length + ([v] : List Int).length < 17592186044416 by simp; omega), w64 (show -9223372036854775808 ≤ i + 1 by omega) (by omega)]
    exact ih n (i + 1) p1 s1 _ (by omega) (by omega) (by omega) q1 (by rw [List.length_append]; simp; omega)
theorem drawList (x : List Int) (hn : x.length ≤ 1048576) (p s : Int) (hp : 0 ≤ p) : ∃ y p' s', f_spec_l1DrawList x p s = some (y, p', s') ∧ 0 ≤ p' ∧ y.length = 4 := by
  unfold f_spec_l1DrawList
  obtain ⟨p2, s2, y, e2, q2, hy⟩ := drawList_loop x hn 4 N 0 p s [] (Int.le_refl _) rfl (Nat.lt_of_lt_of_le (by omega) (Nat.le_of_lt big)) hp rfl
  rw [e2]
  exact ⟨_, _, _, rfl, q2, hy⟩
theorem drawMsgRight (x : List Int) (hn : x.length ≤ 1048576) (p s : Int) (hp : 0 ≤ p) : ∃ a b c y p' s', f_spec_l1DrawRight x p s = some (a, b, c, y, p', s') ∧ 0 ≤ p' ∧ y.length ≤ 4 := by
  unfold f_spec_l1DrawRight
  obtain ⟨r, p1, s1, e1, q1, -⟩ := draw_below x hn p s 7 hp
  obtain ⟨r2, p2, s2, e2, q2, -⟩ := draw_below x hn p1 s1 6 q1
  obtain ⟨b, p3, s3, e3, q3⟩ := draw_once x hn p2 s2 2 q2
  obtain ⟨y4, p4, s4, e4, q4, hy4⟩ := drawList x hn p3 s3 q3
  obtain ⟨y5, p5, s5, e5, q5, hy5⟩ := drawList x hn p2 s2 q2
  rw [e1, Option.bind_some]
  simp only [e2, e3, e4, e5, Option.bind_some]
  cases decide (IntKind.wrap .i64 (1 + r) = 3) <;> cases decide (IntKind.wrap .i64 (1 + r) = 6) <;> cases decide (IntKind.wrap .i64 (1 + r) = 7) <;> simp only [cond_true, cond_false] <;>
    first | exact ⟨_, _, _, _, _, _, rfl, q4, by omega⟩ | exact ⟨_, _, _, _, _, _, rfl, q5, by omega⟩ | exact ⟨_, _, _, _, _, _, rfl, q3, by simp⟩ | exact ⟨_, _, _, _, _, _, rfl, q2, by simp⟩
theorem drawMsg (x : List Int) (hn : x.length ≤ 1048576) (p s : Int) (hp : 0 ≤ p) : ∃ a b c y p' s', f_spec_l1Draw x p s = some (a, b, c, y, p', s') ∧ 0 ≤ p' ∧ y.length ≤ 5 := by
  unfold f_spec_l1Draw
  obtain ⟨a, b, c, y, p1, s1, e1, q1, hy⟩ := drawMsgRight x hn p s hp
  obtain ⟨r2, p2, s2, e2, q2, -⟩ := draw_below x hn p1 s1 12 q1
  obtain ⟨r3, p3, s3, e3, q3, -⟩ := draw_below x hn p2 s2 9 q2
  obtain ⟨r4, p4, s4, e4, -, q4⟩ := draw_pick x hn p2 s2 q2 ([-1, 6] : List Int) (by simp)
  obtain ⟨r5, p5, s5, e5, -, q5⟩ := draw_pick x hn p2 s2 q2 ([-1, 3, 65536] : List Int) (by simp)
  rw [e1, Option.bind_some]
  simp only [e2, e3, e4, e5, Option.bind_some, List.length_singleton, (blt_iff _ _).2 (show y.length + 1 < 17592186044416 by omega), cond_true]
  cases decide (r2 = 0)
  · cases decide (r2 = 1)
    · cases decide (r2 = 2)
      · cases decide (r2 = 3)
        · exact ⟨_, _, _, _, _, _, rfl, q2, by omega⟩
        · exact ⟨_, _, _, _, _, _, rfl, q5, by rw [List.length_append, List.length_singleton]; omega⟩
      · exact ⟨_, _, _, _, _, _, rfl, q2, by omega⟩
    · exact ⟨_, _, _, _, _, _, rfl, q4, by omega⟩
  · exact ⟨_, _, _, _, _, _, rfl, q3, by omega⟩
abbrev H8 := List Int × Int × List Bool × Bool × Int × Bool × Int × List (Int × Bool)
def goodH (h : H8) : Prop := homeOkB h.1 h.2.1 h.2.2.1 h.2.2.2.2.1 h.2.2.2.2.2.2.1 h.2.2.2.2.2.2.2 3 = true ∧ SI h.2.1 h.2.2.1 h.2.2.2.1 h.2.2.2.2.1 h.2.2.2.2.2.1 h.2.2.2.2.2.2.1 ∧ HomeS h.1 h.2.2.1 h.2.2.2.2.2.2.2
theorem hear_good (h : H8) (g : goodH h) (src kind : Int) (ws : List Int) (hn : ws.length ≤ 1048576) : ∃ r : HR, f_spec_HomeHear h.1 h.2.1 h.2.2.1 h.2.2.2.1 h.2.2.2.2.1 h.2.2.2.2.2.1 h.2.2.2.2.2.2.1 h.2.2.2.2.2.2.2 3 0 src kind 0 false ws = some r ∧ goodH (r.1, r.2.1, r.2.2.1, r.2.2.2.1, r.2.2.2.2.1, r.2.2.2.2.2.1, r.2.2.2.2.2.2.1, r.2.2.2.2.2.2.2.1) := by
  obtain ⟨r, e, -, h1, h2, -⟩ := same_hear h.1 h.2.1 h.2.2.1 h.2.2.2.1 h.2.2.2.2.1 h.2.2.2.2.2.1 h.2.2.2.2.2.2.1 h.2.2.2.2.2.2.2 3 0 src kind 0 false ws g.2.2 hn
  obtain ⟨h3, h4⟩ := h1 g.1
  exact ⟨r, e, h3, h4 g.2.1, h2⟩
theorem draw4_loop (x : List Int) (hn : x.length ≤ 1048576) (m : Int) (hm : m ≤ 8) : ∀ (k n : Nat) (i p s : Int) (h : H8), 0 ≤ i → m - i ≤ k → k < n → 0 ≤ p → goodH h → ∃ (p' s' : Int) (h' : H8), 0 ≤ p' ∧ goodH h' ∧
    f_spec_l4DrawRight.l0 n m i x p s 0 false 0 false 0 h.2.1 h.2.2.2.1 h.2.2.2.2.1 h.2.2.2.2.2.1 h.2.2.2.2.2.2.1 [] [] [] h.1 h.2.2.1 h.2.2.2.2.2.2.2 = some (x, p', s', 0, false, 0, false, 0, h'.2.1, h'.2.2.2.1, h'.2.2.2.2.1, h'.2.2.2.2.2.1, h'.2.2.2.2.2.2.1, [], [], [], h'.1, h'.2.2.1, h'.2.2.2.2.2.2.2) := by
  intro k
  induction k with
  | zero =>
    intro n i p s h i0 hk hn' hp g
    obtain ⟨n, rfl⟩ := succ_fuel hn'
    refine ⟨p, s, h, hp, g, ?_⟩
    simp only [f_spec_l4DrawRight.l0, decide_eq_false (show ¬ i < m by omega), cond_false]
  | succ k ih =>
    intro n i p s h i0 hk hn' hp g
    obtain ⟨n, rfl⟩ := succ_fuel hn'
    by_cases him : i < m
    · obtain ⟨kd, p1, s1, e1, -, q1⟩ := draw_pick x hn p s hp ([1, 2, 2, 5, 7] : List Int) (by simp)
      obtain ⟨ws, p2, s2, e2, q2, hw⟩ := drawList x hn p1 s1 q1
      obtain ⟨f, p3, s3, e3, q3, -⟩ := draw_below x hn p2 s2 3 q2
      obtain ⟨f', p4, s4, e4, q4, -⟩ := draw_below x hn p1 s1 3 q1
      simp only [f_spec_l4DrawRight.l0, decide_eq_true him, cond_true, e1, Option.bind_some, w64 (show -9223372036854775808 ≤ i + 1 by omega) (by omega)]
      by_cases h7 : kd = 7
      · simp only [decide_eq_true h7, cond_true, e2, e3, Option.bind_some]
        by_cases ho : 0 ≤ h.2.1
        · obtain ⟨r, er, gr⟩ := hear_good h g h.2.1 kd ws (by omega)
          simp only [decide_eq_true ho, cond_true, er, Option.bind_some]
          exact ih n (i + 1) p3 s3 _ (by omega) (by omega) (by omega) q3 gr
        · obtain ⟨r, er, gr⟩ := hear_good h g f kd ws (by omega)
          simp only [decide_eq_false ho, cond_false, er, Option.bind_some]
          exact ih n (i + 1) p3 s3 _ (by omega) (by omega) (by omega) q3 gr
      · obtain ⟨r, er, gr⟩ := hear_good h g f' kd [] (by simp)
        simp only [decide_eq_false h7, cond_false, e4, er, Option.bind_some]
        exact ih n (i + 1) p4 s4 _ (by omega) (by omega) (by omega) q4 gr
    · refine ⟨p, s, h, hp, g, ?_⟩
      simp only [f_spec_l4DrawRight.l0, decide_eq_false him, cond_false]
theorem new_good : goodH (homeNew 3) := by
  refine ⟨by decide, ⟨fun h => absurd h (by decide), fun h => (by cases h), fun _ => rfl⟩, ⟨by decide, by decide, by decide⟩⟩
theorem draw4Right (x : List Int) (hn : x.length ≤ 1048576) (p s : Int) (hp : 0 ≤ p) : ∃ (h : H8) (p' s' : Int), f_spec_l4DrawRight x p s = some (h.1, h.2.1, h.2.2.1, h.2.2.2.1, h.2.2.2.2.1, h.2.2.2.2.2.1, h.2.2.2.2.2.2.1, h.2.2.2.2.2.2.2, p', s') ∧ 0 ≤ p' ∧ goodH h := by
  unfold f_spec_l4DrawRight
  obtain ⟨m, p1, s1, e1, q1, m0, m1, -⟩ := draw_below x hn p s 8 hp
  obtain ⟨p2, s2, h, q2, g, e2⟩ := draw4_loop x hn m (by have := m1 (by omega); omega) 8 N 0 p1 s1 (homeNew 3) (by omega) (by have := m1 (by omega); omega) (Nat.lt_trans (by omega) big) q1 new_good
  simp only [specHomeNew 3 (by omega) (by omega), e1, Option.bind_some, e2]
  exact ⟨h, _, _, rfl, q2, g⟩
theorem draw4_fill (x : List Int) (hn : x.length ≤ 1048576) (own : Int) (busy : Bool) (who : Int) (ex : Bool) (need : Int) (w : List Int) (seen : List Bool) : ∀ (k n : Nat) (p s : Int) (wait : List (Int × Bool)), 14 ≤ wait.length + k → k < n → 0 ≤ p → wait.length ≤ 1000 → ∃ (p' s' : Int) (wait' : List (Int × Bool)), 0 ≤ p' ∧ wait'.length ≤ 2000 ∧
    f_spec_l4Draw.l0 n x p s 0 false 0 false 0 own busy who ex need [] [] [] w seen wait = some (x, p', s', 0, false, 0, false, 0, own, busy, who, ex, need, [], [], [], w, seen, wait') := by
  intro k
  induction k with
  | zero =>
    intro n p s wait hk hn' hp hl
    obtain ⟨n, rfl⟩ := succ_fuel hn'
    obtain ⟨b, p1, s1, e1, q1, b0, b1, -⟩ := draw_below x hn p s 2 hp
    have b2 := b1 (by omega)
    simp only [f_spec_l4Draw.l0, e1, Option.bind_some, w64 (show -9223372036854775808 ≤ 12 + b by omega) (by omega), decide_eq_false (show ¬ (wait.length : Int) < 12 + b by omega), cond_false]
    exact ⟨_, _, _, q1, by omega, rfl⟩
  | succ k ih =>
    intro n p s wait hk hn' hp hl
    obtain ⟨n, rfl⟩ := succ_fuel hn'
    obtain ⟨b, p1, s1, e1, q1, b0, b1, -⟩ := draw_below x hn p s 2 hp
    have b2 := b1 (by omega)
    simp only [f_spec_l4Draw.l0, e1, Option.bind_some, w64 (show -9223372036854775808 ≤ 12 + b by omega) (by omega)]
    by_cases hb : (wait.length : Int) < 12 + b
    · simp only [decide_eq_true hb, cond_true, List.length_singleton, (blt_iff _ _).2 (show wait.length + 1 < 8796093022208 by omega), Option.bind_some]
      exact ih n p1 s1 _ (by rw [List.length_append, List.length_singleton]; omega) (by omega) q1 (by rw [List.length_append, List.length_singleton]; omega)
    · simp only [decide_eq_false hb, cond_false]
      exact ⟨_, _, _, q1, by omega, rfl⟩
def nearH (h : H8) : Prop := NB h.2.1 h.2.2.1 h.2.2.2.1 h.2.2.2.2.2.1 h.2.2.2.2.2.2.1 ∧ HomeS h.1 h.2.2.1 h.2.2.2.2.2.2.2
theorem draw4 (x : List Int) (hn : x.length ≤ 1048576) (p s : Int) (hp : 0 ≤ p) : ∃ (h : H8) (p' s' : Int), f_spec_l4Draw x p s = some (h.1, h.2.1, h.2.2.1, h.2.2.2.1, h.2.2.2.2.1, h.2.2.2.2.2.1, h.2.2.2.2.2.2.1, h.2.2.2.2.2.2.2, p', s') ∧ 0 ≤ p' ∧ nearH h := by
  unfold f_spec_l4Draw
  obtain ⟨h, p1, s1, e1, q1, g1, g2, g3⟩ := draw4Right x hn p s hp
  obtain ⟨a, p2, s2, e2, q2, -⟩ := draw_below x hn p1 s1 15 q1
  obtain ⟨v0, p3, s3, e3, -, q3⟩ := draw_pick x hn p2 s2 q2 ([-2, -1, 2, 3] : List Int) (by simp)
  obtain ⟨v1, p4, s4, e4, -, q4⟩ := draw_pick x hn p2 s2 q2 ([-1, 0, 1, 4] : List Int) (by simp)
  obtain ⟨v3, p5, s5, e5, q5, -⟩ := draw_below x hn p2 s2 5 q2
  have hk := HK_of g1 0 (by omega) (by omega)
  have hsl := hk.sl
  have hql := hk.ql
  have ho1 := hk.o1
  obtain ⟨p6, s6, wt, q6, l6, e6⟩ := draw4_fill x hn h.2.1 h.2.2.2.1 h.2.2.2.2.1 h.2.2.2.2.2.1 h.2.2.2.2.2.2.1 h.1 h.2.2.1 14 N p2 s2 h.2.2.2.2.2.2.2 (by omega) (Nat.lt_trans (by omega) big) q2 (by omega)
  rw [e1, Option.bind_some]
  simp only [e2, e3, e4, e5, e6, Option.bind_some, List.length_singleton, (blt_iff _ _).2 (show h.2.2.1.length + 1 < 140737488355328 by omega), (blt_iff _ _).2 (show h.2.2.2.2.2.2.2.length + 1 < 8796093022208 by omega), cond_true]
  have near : ∀ (b : Bool) (e : Bool) (m : Int), NB h.2.1 h.2.2.1 b e m := fun b e m _ _ _ ho => g2.a ho _
  cases decide (a = 0) with
  | true =>
    refine ⟨(h.1, v0, h.2.2.1, h.2.2.2.1, h.2.2.2.2.1, h.2.2.2.2.2.1, h.2.2.2.2.2.2.1, h.2.2.2.2.2.2.2), _, _, rfl, q3, fun hb hz hx hv => ?_, g3⟩
    rcases g2.b hb with ⟨h0, _⟩ | ⟨_, h0, _⟩
    · exact g2.a h0 _
    · have hz : h.2.2.2.2.2.2.1 = 0 := hz
      omega
  | false =>
    cases decide (a = 1) with
    | true => exact ⟨(h.1, h.2.1, h.2.2.1, h.2.2.2.1, h.2.2.2.2.1, h.2.2.2.2.2.1, v1, h.2.2.2.2.2.2.2), _, _, rfl, q4, near _ _ _, g3⟩
    | false =>
      cases decide (a = 2) with
      | true =>
        refine ⟨(h.1, h.2.1, h.2.2.1 ++ [true], h.2.2.2.1, h.2.2.2.2.1, h.2.2.2.2.2.1, h.2.2.2.2.2.2.1, h.2.2.2.2.2.2.2), _, _, rfl, q2, fun hb hz hx ho => ?_, ⟨g3.g0, by show (h.2.2.1 ++ [true]).length ≤ _; simp; omega, g3.g7⟩⟩
        have ho : 0 ≤ h.2.1 := ho
        show (h.2.2.1 ++ [true]).getD h.2.1.toNat false = false
        rw [List.getD_eq_getElem?_getD, List.getElem?_append_left (by omega), ← List.getD_eq_getElem?_getD]
        exact g2.a ho _
      | false =>
        cases decide (a = 3) with
        | true => exact ⟨(h.1, h.2.1, h.2.2.1, h.2.2.2.1, h.2.2.2.2.1, h.2.2.2.2.2.1, h.2.2.2.2.2.2.1, h.2.2.2.2.2.2.2 ++ [(v3, false)]), _, _, rfl, q5, near _ _ _, ⟨g3.g0, g3.g2, by show (h.2.2.2.2.2.2.2 ++ [(v3, false)]).length ≤ _; simp; omega⟩⟩
        | false =>
          cases decide (a = 4) with
          | true => exact ⟨(h.1, h.2.1, h.2.2.1, !h.2.2.2.1, h.2.2.2.2.1, h.2.2.2.2.2.1, h.2.2.2.2.2.2.1, h.2.2.2.2.2.2.2), _, _, rfl, q2, near _ _ _, g3⟩
          | false =>
            cases decide (a = 5) with
            | true => exact ⟨(h.1, h.2.1, h.2.2.1, h.2.2.2.1, h.2.2.2.2.1, h.2.2.2.2.2.1, h.2.2.2.2.2.2.1, wt), _, _, rfl, q6, near _ _ _, ⟨g3.g0, g3.g2, by show wt.length ≤ _; omega⟩⟩
            | false => exact ⟨h, _, _, rfl, q2, near _ _ _, g3⟩
theorem drawHomeHear (x : List Int) (hn : x.length ≤ 1048576) : ∃ (h : H8) (page src kind pg : Int) (c : Bool) (ws : List Int), f_spec_DrawHomeHear x = some (h.1, h.2.1, h.2.2.1, h.2.2.2.1, h.2.2.2.2.1, h.2.2.2.2.2.1, h.2.2.2.2.2.2.1, h.2.2.2.2.2.2.2, 3, page, src, kind, pg, c, ws) ∧ nearH h ∧ ws.length ≤ 1048576 := by
  unfold f_spec_DrawHomeHear
  obtain ⟨s0, e0⟩ := draw_new (F := fun n x s i => f_spec_DrawHomeHear.l0 n x s i 0 false 0 false 0 0 0 false) (G := fun x s => (x, s, (0 : Int), false, (0 : Int), false, (0 : Int), (0 : Int), (0 : Int), false)) (fun n x s i => rfl) x hn (IntKind.wrap .i64 (20404 + (x.length : Int)))
  obtain ⟨h, p1, s1, e1, q1, g⟩ := draw4 x hn 0 s0 (Int.le_refl _)
  obtain ⟨a, b, c, y, p2, s2, e2, q2, hy⟩ := drawMsg x hn p1 s1 q1
  obtain ⟨kd, p3, s3, e3, -, q3⟩ := draw_pick x hn p2 s2 q2 ([a, 1, 2, 5] : List Int) (by simp)
  obtain ⟨b1, p4, s4, e4, q4⟩ := draw_once x hn p3 s3 15 q3
  obtain ⟨f, p5, s5, e5, q5, -⟩ := draw_below x hn p4 s4 3 q4
  obtain ⟨b2, p6, s6, e6, q6⟩ := draw_once x hn p5 s5 2 q5
  have e0 : f_spec_DrawHomeHear.l0 N x (IntKind.wrap .i64 (20404 + (x.length : Int))) 0 0 false 0 false 0 0 0 false = some (x, s0, 0, false, 0, false, 0, 0, 0, false) := e0
  simp only [e0, e1, e2, e3, e4, e5, e6, Option.bind_some]
  cases decide (kd = 1) <;> cases decide (kd = 2) <;> cases decide (kd = 5) <;> cases b1 <;> cases decide (0 ≤ h.2.1) <;> cases b2 <;>
    first | exact ⟨h, _, _, _, _, _, _, rfl, g, by simp⟩ | exact ⟨h, _, _, _, _, _, _, rfl, g, by omega⟩
theorem drawHomeOk (x : List Int) (hn : x.length ≤ 1048576) : ∃ (h : H8) (k : Int), f_spec_DrawHomeOk x = some (h.1, h.2.1, h.2.2.1, h.2.2.2.1, h.2.2.2.2.1, h.2.2.2.2.2.1, h.2.2.2.2.2.2.1, h.2.2.2.2.2.2.2, k) ∧ HomeS h.1 h.2.2.1 h.2.2.2.2.2.2.2 := by
  unfold f_spec_DrawHomeOk
  obtain ⟨s0, e0⟩ := draw_new (F := fun n x s i => f_spec_DrawHomeOk.l0 n x s i 0 false 0 false 0) (G := fun x s => (x, s, (0 : Int), false, (0 : Int), false, (0 : Int))) (fun n x s i => rfl) x hn (IntKind.wrap .i64 (20404 + (x.length : Int)))
  obtain ⟨h, p1, s1, e1, q1, g⟩ := draw4 x hn 0 s0 (Int.le_refl _)
  obtain ⟨kd, p3, s3, e3, -, q3⟩ := draw_pick x hn p1 s1 q1 ([3, 3, 3, 2, 4, 0, 5] : List Int) (by simp)
  have e0 : f_spec_DrawHomeOk.l0 N x (IntKind.wrap .i64 (20404 + (x.length : Int))) 0 0 false 0 false 0 = some (x, s0, 0, false, 0, false, 0) := e0
  simp only [e0, e1, e3, Option.bind_some]
  exact ⟨h, _, rfl, g.2⟩
theorem drawHomeNew (x : List Int) (hn : x.length ≤ 1048576) : ∃ k, f_spec_DrawHomeNew x = some k := by
  unfold f_spec_DrawHomeNew
  obtain ⟨s0, e0⟩ := draw_new (F := fun n x s i => f_spec_DrawHomeNew.l0 n x s i) (G := fun x s => (x, s)) (fun n x s i => rfl) x hn (IntKind.wrap .i64 (20404 + (x.length : Int)))
  obtain ⟨f, p5, s5, e5, q5, -⟩ := draw_below x hn 0 s0 7 (Int.le_refl _)
  have e0 : f_spec_DrawHomeNew.l0 N x (IntKind.wrap .i64 (20404 + (x.length : Int))) 0 = some (x, s0) := e0
  simp only [e0, e5, Option.bind_some]
  exact ⟨_, rfl⟩
theorem sameInts_loop (x : List Int) (hn : x.length ≤ 1048576) (b : Bool) (d : Nat) : ∀ (n : Nat) (i : Int), 0 ≤ i → i ≤ x.length → (x.length : Int) - i = d → d < n → f_laws_sameInts.l0 n x x b i = some (.inr b) := by
  induction d with
  | zero =>
    intro n i h0 h1 hd hk
    obtain ⟨n, rfl⟩ := succ_fuel hk
    simp only [f_laws_sameInts.l0]
    rw [decide_eq_false (by omega), cond_false]
  | succ d ih =>
    intro n i h0 h1 hd hk
    obtain ⟨n, rfl⟩ := succ_fuel hk
    have hw : IntKind.wrap .i64 (i + 1) = i + 1 := w64 (by omega) (by omega)
    simp only [f_laws_sameInts.l0]
    rw [decide_eq_true (show i < (x.length : Int) by omega), decide_eq_true h0, hw]
    simp only [cond_true, Bool.and_self, decide_true, Bool.not_true, cond_false]
    exact ih n (i + 1) (by omega) (by omega) (by omega) (by omega)
theorem sameInts (x : List Int) (hn : x.length ≤ 1048576) : f_laws_sameInts x x = some true := by
  unfold f_laws_sameInts
  simp only [decide_true, Bool.not_true, cond_false]
  rw [sameInts_loop x hn false x.length N 0 (by omega) (by omega) (by omega) (Nat.lt_of_le_of_lt (by omega) big)]
  rfl
theorem ix_loop {β : Type} {F : Nat → Int → Option (Bool ⊕ β)} {q : Int → Bool} {b : β} (m : Nat) (hm : m ≤ 1048576) (h0 : ∀ n, F (n + 1) (m : Int) = some (.inr b))
    (h1 : ∀ n (i : Int), 0 ≤ i → i < (m : Int) → F (n + 1) i = bif q i then F n (i + 1) else some (.inl false)) : F N 0 = some (bif (List.range m).all (fun j => q (j : Int)) then .inr b else .inl false) := by
  have step : ∀ (k n j : Nat), j + k = m → k < n → F n (j : Int) = some (bif (List.range' j k).all (fun j => q (j : Int)) then .inr b else .inl false) := by
    intro k
    induction k with
    | zero =>
      intro n j hj hn
      obtain ⟨n, rfl⟩ := succ_fuel hn
      obtain rfl : j = m := by omega
      rw [h0]; rfl
    | succ k ih =>
      intro n j hj hn
      obtain ⟨n, rfl⟩ := succ_fuel hn
      rw [h1 n j (by omega) (by omega), List.range'_succ, List.all_cons]
      cases q (j : Int) with
      | false => rfl
      | true =>
        rw [cond_true, Bool.true_and, show ((j : Int) + 1) = ((j + 1 : Nat) : Int) by omega]
        exact ih n (j + 1) (by omega) (by omega)
  have := step m N 0 (by omega) (Nat.lt_of_le_of_lt hm (Nat.lt_trans (by omega) big))
  rw [← List.range_eq_range'] at this
  exact this
theorem all_true (n : Nat) : ((List.range n).all fun _ => true) = true := by simp
theorem sameHome_self (r : H8) (h : HomeS r.1 r.2.2.1 r.2.2.2.2.2.2.2) : f_laws_sameHome r.1 r.2.1 r.2.2.1 r.2.2.2.1 r.2.2.2.2.1 r.2.2.2.2.2.1 r.2.2.2.2.2.2.1 r.2.2.2.2.2.2.2 r.1 r.2.1 r.2.2.1 r.2.2.2.1 r.2.2.2.2.1 r.2.2.2.2.2.1 r.2.2.2.2.2.2.1 r.2.2.2.2.2.2.2 = some true := by
  obtain ⟨x0, x1, x2, x3, x4, x5, x6, x7⟩ := r
  have g0 : x0.length ≤ 1048576 := h.g0
  have g2 : x2.length ≤ 1048576 := h.g2
  have g7 : x7.length ≤ 1048576 := h.g7
  have l0 := ix_loop (F := fun n i => f_laws_sameHome.l0 n false i x0 x1 x2 x3 x4 x5 x6 x7 x0 x1 x2 x3 x4 x5 x6 x7) (q := fun _ => true) (b := (false, x0, x1, x2, x3, x4, x5, x6, x7, x0, x1, x2, x3, x4, x5, x6, x7)) x2.length g2
    (fun n => by simp only [f_laws_sameHome.l0, decide_eq_false (show ¬ (x2.length : Int) < (x2.length : Int) by omega), cond_false])
    (fun n i a0 a1 => by simp only [f_laws_sameHome.l0, decide_eq_true a0, decide_eq_true a1, cond_true, Bool.and_self, beq_self_eq_true, Bool.not_true, cond_false, w64 (show -9223372036854775808 ≤ i + 1 by omega) (by omega)])
  have l1 := ix_loop (F := fun n i => f_laws_sameHome.l1 n false i x0 x1 x2 x3 x4 x5 x6 x7 x0 x1 x2 x3 x4 x5 x6 x7) (q := fun _ => true) (b := false) x7.length g7
    (fun n => by simp only [f_laws_sameHome.l1, decide_eq_false (show ¬ (x7.length : Int) < (x7.length : Int) by omega), cond_false])
    (fun n i a0 a1 => by simp only [f_laws_sameHome.l1, decide_eq_true a0, decide_eq_true a1, cond_true, Bool.and_self, beq_self_eq_true, decide_true, Bool.not_true, cond_false, w64 (show -9223372036854775808 ≤ i + 1 by omega) (by omega)])
  rw [all_true, cond_true] at l0 l1
  unfold f_laws_sameHome
  simp only [decide_true, beq_self_eq_true, Bool.and_self, Bool.not_true, cond_false, sameInts x0 g0, Option.bind_some, l0, l1, cs]
theorem home (x0 : List Int) : f_laws_FnHome x0 = some true := by
  unfold f_laws_FnHome f_laws_big
  by_cases hb : (1048576 : Int) < (x0.length : Int)
  · rw [decide_eq_true hb]; rfl
  rw [decide_eq_false hb]
  have hn : x0.length ≤ 1048576 := by omega
  obtain ⟨h, page, src, kind, pg, c, ws, e1, ⟨nb, hS⟩, hw⟩ := drawHomeHear x0 hn
  obtain ⟨r, s1, s2, s3, s4, s5, s6, s7⟩ := same_hear h.1 h.2.1 h.2.2.1 h.2.2.2.1 h.2.2.2.2.1 h.2.2.2.2.2.1 h.2.2.2.2.2.2.1 h.2.2.2.2.2.2.2 3 page src kind pg c ws hS hw
  have s2 := s2 nb
  obtain ⟨g, k, e2, gS⟩ := drawHomeOk x0 hn
  obtain ⟨z, e3⟩ := drawHomeNew x0 hn
  obtain ⟨ny, n1, n2⟩ : ∃ y, f_impl_HomeNew z = some y ∧ f_spec_HomeNew z = some y := by
    by_cases hz : 1 ≤ z ∧ z ≤ 4
    · exact ⟨_, implHomeNew z hz.1 hz.2, specHomeNew z hz.1 hz.2⟩
    · have hr : rg z 1 4 = false := by
        unfold rg
        by_cases h' : 1 ≤ z
        · rw [decide_eq_true h', decide_eq_false (fun h2 => hz ⟨h', h2⟩)]; rfl
        · rw [decide_eq_false h']; rfl
      unfold f_impl_HomeNew f_spec_HomeNew
      rw [in_rg, from_rg, hr]
      exact ⟨_, rfl, rfl⟩
  have sh := sameHome_self (r.1, r.2.1, r.2.2.1, r.2.2.2.1, r.2.2.2.2.1, r.2.2.2.2.2.1, r.2.2.2.2.2.2.1, r.2.2.2.2.2.2.2.1) s4
  simp only at sh
  have l0 := ix_loop (F := fun n i => f_laws_FnHome.l0 n x0 false 3 i h.2.1 h.2.2.2.1 h.2.2.2.2.1 h.2.2.2.2.2.1 h.2.2.2.2.2.2.1 r.2.1 r.2.2.2.1 r.2.2.2.2.1 r.2.2.2.2.2.1 r.2.2.2.2.2.2.1 r.2.2.2.2.2.2.2.2 r.2.2.2.2.2.2.2.2 h.1 h.2.2.1 h.2.2.2.2.2.2.2 r.1 r.2.2.1 r.2.2.2.2.2.2.2.1) (q := fun _ => true)
    (b := (x0, false, 3, h.2.1, h.2.2.2.1, h.2.2.2.2.1, h.2.2.2.2.2.1, h.2.2.2.2.2.2.1, r.2.1, r.2.2.2.1, r.2.2.2.2.1, r.2.2.2.2.2.1, r.2.2.2.2.2.2.1, r.2.2.2.2.2.2.2.2, h.1, h.2.2.1, h.2.2.2.2.2.2.2, r.1, r.2.2.1, r.2.2.2.2.2.2.2.1)) r.2.2.2.2.2.2.2.2.length (by omega)
    (fun n => by simp only [f_laws_FnHome.l0, decide_eq_false (show ¬ (r.2.2.2.2.2.2.2.2.length : Int) < (r.2.2.2.2.2.2.2.2.length : Int) by omega), cond_false])
    (fun n i a0 a1 => by simp only [f_laws_FnHome.l0, decide_eq_true a0, decide_eq_true a1, cond_true, Bool.and_self, decide_true, Bool.not_true, cond_false, w64 (show -9223372036854775808 ≤ i + 1 by omega) (by omega)])
  have l1 := ix_loop (F := fun n i => f_laws_FnHome.l1 n false 3 i r.2.1 r.2.2.2.1 r.2.2.2.2.1 r.2.2.2.2.2.1 r.2.2.2.2.2.2.1 r.2.2.2.2.2.2.2.2 r.1 r.2.2.1 r.2.2.2.2.2.2.2.1) (q := fun _ => true)
    (b := (false, 3, r.2.1, r.2.2.2.1, r.2.2.2.2.1, r.2.2.2.2.2.1, r.2.2.2.2.2.2.1, r.1, r.2.2.1, r.2.2.2.2.2.2.2.1)) r.2.2.2.2.2.2.2.2.length (by omega)
    (fun n => by simp only [f_laws_FnHome.l1, decide_eq_false (show ¬ (r.2.2.2.2.2.2.2.2.length : Int) < (r.2.2.2.2.2.2.2.2.length : Int) by omega), cond_false])
    (fun n i a0 a1 => by
      obtain ⟨t0, t1, t2, t3⟩ := s6 _ (mem_getD r.2.2.2.2.2.2.2.2 (0, 0, 0, false, []) i a0 a1)
      obtain ⟨b, m1, m2⟩ := same_msgOk _ _ _ _ (show (r.2.2.2.2.2.2.2.2.getD i.toNat (0, 0, 0, false, [])).2.2.2.2.length ≤ 1048576 by omega)
      rw [t3] at m1
      have := Option.some.inj m1
      subst this
      simp only [f_laws_FnHome.l1, decide_eq_true a0, decide_eq_true a1, cond_true, Bool.and_self, m2, Option.bind_some, Bool.not_true, cond_false, decide_eq_false (show ¬ (r.2.2.2.2.2.2.2.2.getD i.toNat (0, 0, 0, false, [])).1 < 0 by omega), decide_eq_false (show ¬ 3 ≤ (r.2.2.2.2.2.2.2.2.getD i.toNat (0, 0, 0, false, [])).1 by omega), w64 (show -9223372036854775808 ≤ i + 1 by omega) (by omega)])
  rw [all_true, cond_true] at l0 l1
  simp only [Option.bind_some, cond_false, e1, s1, s2, sh, Bool.not_true, decide_true, implHomeOk _ _ _ _ _ _ _ _ _ hS, specHomeOk _ _ _ _ _ _ _ _ _ hS, beq_self_eq_true, l0, cs, e2, e3, implHomeOk _ _ _ _ _ _ _ _ _ gS, specHomeOk _ _ _ _ _ _ _ _ _ gS, n1, n2]
  cases hok : homeOkB h.1 h.2.1 h.2.2.1 h.2.2.2.2.1 h.2.2.2.2.2.2.1 h.2.2.2.2.2.2.2 3 with
  | false =>
    rw [s7 hok]
    rfl
  | true =>
    simp only [Bool.not_true, cond_false, l1, Option.bind_some, cs, implHomeOk _ _ _ _ _ _ _ _ _ s4, (s3 hok).1]
theorem plain : Pure := fun x _ => home x
end Go.Abs
