/- The law FnHomeGives returns true for all codes: a new home that hears requests, whose answers come at once, gives each in turn, and whoever has it to write has it alone. No condition. -/
import Derived.Test.YtdhjooflkiagaaaMFnHomeGives
import Derived.Laws.BitsLemmas
namespace Go.Abs
open Go.RowKit
set_option linter.unusedVariables false
set_option linter.unusedSimpArgs false

theorem w64 {n : Int} (h0 : -9223372036854775808 ≤ n) (h1 : n ≤ 9223372036854775807) : IntKind.wrap .i64 n = n := by
  rw [IntKind.wrap_i64]
  omega
theorem succ_fuel {n d : Nat} (h : d < n) : ∃ m, n = m + 1 := ⟨n - 1, by omega⟩
theorem big : (1048577 : Nat) < N := by decide
theorem mem_getD {α : Type} (x : List α) (d : α) (i : Int) (h0 : 0 ≤ i) (h1 : i < x.length) : x.getD i.toNat d ∈ x := by
  have hlt : i.toNat < x.length := by omega
  rw [List.getD_eq_getElem?_getD, List.getElem?_eq_getElem hlt]
  exact List.getElem_mem hlt
theorem drop_getD {α : Type} (x : List α) (d : α) (i : Int) (h0 : 0 ≤ i) (h1 : i < x.length) : x.drop i.toNat = x.getD i.toNat d :: x.drop (i + 1).toNat := by
  have hlt : i.toNat < x.length := by omega
  have e : (i + 1).toNat = i.toNat + 1 := by omega
  rw [e, List.drop_eq_getElem_cons hlt, List.getD_eq_getElem?_getD, List.getElem?_eq_getElem hlt]
  rfl
def rng (x m : Int) : Bool := decide ((0 : Int) ≤ x) && decide (x ≤ m)
theorem in_rng (x m : Int) : f_spec_l1In x 0 m = some (rng x m) := by
  unfold f_spec_l1In rng
  cases decide ((0 : Int) ≤ x) <;> rfl
theorem from_rng (x m : Int) : f_impl_from x 0 m = some (rng x m) := by
  unfold f_impl_from rng
  cases decide ((0 : Int) ≤ x) <;> rfl
def rg (x a b : Int) : Bool := decide (a ≤ x) && decide (x ≤ b)
theorem in_rg (x a b : Int) : f_spec_l1In x a b = some (rg x a b) := by
  unfold f_spec_l1In rg
  cases decide (a ≤ x) <;> rfl
theorem from_rg (x a b : Int) : f_impl_from x a b = some (rg x a b) := by
  unfold f_impl_from rg
  cases decide (a ≤ x) <;> rfl
def allW (x : List Int) : Bool := x.all fun w => rng w 65535
theorem drop_step (x : List Int) (i : Int) (h0 : 0 ≤ i) (h1 : i < x.length) : x.drop i.toNat = x.getD i.toNat 0 :: x.drop (i + 1).toNat := by
  have hlt : i.toNat < x.length := by omega
  have e : (i + 1).toNat = i.toNat + 1 := by omega
  rw [e, List.drop_eq_getElem_cons hlt, List.getD_eq_getElem?_getD, List.getElem?_eq_getElem hlt]
  rfl
theorem specWords_loop (x : List Int) (hn : x.length ≤ 1048576) (k : Int) (b : Bool) (d : Nat) : ∀ (n : Nat) (i : Int), 0 ≤ i → i ≤ x.length → (x.length : Int) - i = d → d < n →
    f_spec_l1Words.l0 n x k b i = some (bif allW (x.drop i.toNat) then .inr (x, k, b) else .inl false) := by
  induction d with
  | zero =>
    intro n i h0 h1 hd hk
    obtain ⟨n, rfl⟩ := succ_fuel hk
    simp only [f_spec_l1Words.l0]
    rw [decide_eq_false (by omega), cond_false, List.drop_eq_nil_of_le (by omega)]
    rfl
  | succ d ih =>
    intro n i h0 h1 hd hk
    obtain ⟨n, rfl⟩ := succ_fuel hk
    have hw : IntKind.wrap .i64 (i + 1) = i + 1 := w64 (by omega) (by omega)
    simp only [f_spec_l1Words.l0]
    rw [decide_eq_true (show i < (x.length : Int) by omega), decide_eq_true h0, hw, in_rng, drop_step x i h0 (by omega)]
    simp only [cond_true, Bool.and_self, Option.bind_some]
    unfold allW
    rw [List.all_cons]
    cases hr : rng (x.getD i.toNat 0) 65535 with
    | false => rfl
    | true =>
      simp only [Bool.not_true, cond_false, Bool.true_and]
      exact ih n (i + 1) (by omega) (by omega) (by omega) (by omega)
theorem specWords (x : List Int) (hn : x.length ≤ 1048576) (k : Int) : f_spec_l1Words x k = some (allW x && decide ((x.length : Int) = k)) := by
  unfold f_spec_l1Words
  rw [specWords_loop x hn k false x.length N 0 (by omega) (by omega) (by omega) (Nat.lt_of_le_of_lt (by omega) big)]
  simp only [Int.toNat_zero, List.drop_zero, Option.bind_some]
  cases allW x <;> rfl
theorem implWords_loop (x : List Int) (hn : x.length ≤ 1048576) (q : Int) (d : Nat) : ∀ (n : Nat) (i : Int), 0 ≤ i → i ≤ x.length → (x.length : Int) - i = d → d < n →
    (allW (x.drop i.toNat) = true ∧ f_impl_wordsOk.l0 n x q (x.length : Int) i = some (.inr q)) ∨ (allW (x.drop i.toNat) = false ∧ ∃ j : Int, 0 ≤ j ∧ f_impl_wordsOk.l0 n x q (x.length : Int) i = some (.inl j)) := by
  induction d with
  | zero =>
    intro n i h0 h1 hd hk
    obtain ⟨n, rfl⟩ := succ_fuel hk
    simp only [f_impl_wordsOk.l0]
    rw [decide_eq_false (show ¬ i < (x.length : Int) by omega), cond_false, List.drop_eq_nil_of_le (by omega)]
    exact .inl ⟨rfl, rfl⟩
  | succ d ih =>
    intro n i h0 h1 hd hk
    obtain ⟨n, rfl⟩ := succ_fuel hk
    have hw : IntKind.wrap .i64 (i + 1) = i + 1 := w64 (by omega) (by omega)
    have ih2 := ih n (i + 1) (by omega) (by omega) (by omega) (by omega)
    simp only [f_impl_wordsOk.l0]
    rw [decide_eq_true (show i < (x.length : Int) by omega), decide_eq_true h0, hw, drop_step x i h0 (by omega)]
    unfold f_impl_wordsOk_1 f_impl_isWord
    simp only [cond_true, Bool.and_self, from_rng, Option.bind_some]
    unfold allW at ih2 ⊢
    rw [List.all_cons]
    cases hr : rng (x.getD i.toNat 0) 65535 with
    | false => exact .inr ⟨rfl, i, h0, rfl⟩
    | true =>
      simp only [Bool.not_true, cond_false, Bool.true_and]
      exact ih2
theorem implWords (x : List Int) (hn : x.length ≤ 1048576) (k : Int) : f_impl_wordsOk x k = some (allW x && decide ((x.length : Int) = k)) := by
  unfold f_impl_wordsOk
  have h := implWords_loop x hn 0 x.length N 0 (by omega) (by omega) (by omega) (Nat.lt_of_le_of_lt (by omega) big)
  simp only [Int.toNat_zero, List.drop_zero] at h
  cases decide ((x.length : Int) = k) with
  | false => simp
  | true =>
    rcases h with ⟨h1, h2⟩ | ⟨h1, j, h3, h2⟩
    · simp only [cond_true, h2, Option.bind_some, h1, Bool.and_true]; rfl
    · simp only [cond_true, h2, Option.bind_some, h1, Bool.and_true]
      show some (!(decide ((0 : Int) ≤ j))) = some false
      rw [decide_eq_true h3]; rfl
theorem allW_nil (x : List Int) : (allW x && decide ((x.length : Int) = 0)) = decide ((x.length : Int) = 0) := by
  cases x with
  | nil => rfl
  | cons a x =>
    rw [decide_eq_false (by simp; omega), Bool.and_false]
theorem same_msgOk (x0 x1 : Int) (x2 : Bool) (x3 : List Int) (hn : x3.length ≤ 1048576) : ∃ b, f_spec_MsgOk x0 x1 x2 x3 = some b ∧ f_impl_MsgOk x0 x1 x2 x3 = some b := by
  unfold f_spec_MsgOk f_impl_MsgOk f_impl_isPage
  simp only [specWords x3 hn, implWords x3 hn, in_rg, from_rg, Option.bind_some, allW_nil]
  by_cases h3 : x0 = 3
  · subst h3
    rw [show rg 3 1 7 = true from rfl]
    cases rg x1 0 5 <;> cases x2 <;> exact ⟨_, rfl, rfl⟩
  · by_cases h7 : x0 = 7
    · subst h7
      rw [show rg 7 1 7 = true from rfl]
      cases rg x1 0 5 <;> cases x2 <;> exact ⟨_, rfl, rfl⟩
    · by_cases h6 : x0 = 6
      · subst h6
        rw [show rg 6 1 7 = true from rfl]
        cases rg x1 0 5 <;> cases x2 <;> exact ⟨_, rfl, rfl⟩
      · rw [decide_eq_false h3, decide_eq_false h7, decide_eq_false h6]
        cases rg x0 1 7 <;> cases rg x1 0 5 <;> cases x2 <;> exact ⟨_, rfl, rfl⟩
structure HomeS (x0 : List Int) (x2 : List Bool) (x7 : List (Int × Bool)) : Prop where
  g0 : x0.length ≤ 1048576
  g2 : x2.length ≤ 1048576
  g7 : x7.length ≤ 1048576
theorem all_loop {α β : Type} {d : α} {F : Nat → Int → Option (Bool ⊕ β)} {q : α → Bool} {b : β} (x : List α) (hx : x.length ≤ 1048576) (h0 : ∀ n i, ¬ i < (x.length : Int) → F (n + 1) i = some (.inr b))
    (h1 : ∀ n i, 0 ≤ i → i < (x.length : Int) → x.getD i.toNat d ∈ x → F (n + 1) i = bif q (x.getD i.toNat d) then F n (i + 1) else some (.inl false)) : F N 0 = some (bif x.all q then .inr b else .inl false) := by
  have step : ∀ (k n : Nat) (i : Int), 0 ≤ i → i ≤ x.length → (x.length : Int) - i = k → k < n → F n i = some (bif (x.drop i.toNat).all q then .inr b else .inl false) := by
    intro k
    induction k with
    | zero =>
      intro n i a0 a1 hd hn
      obtain ⟨n, rfl⟩ := succ_fuel hn
      rw [h0 n i (by omega), List.drop_eq_nil_of_le (by omega)]
      rfl
    | succ k ih =>
      intro n i a0 a1 hd hn
      obtain ⟨n, rfl⟩ := succ_fuel hn
      rw [h1 n i a0 (by omega) (mem_getD x d i a0 (by omega)), drop_getD x d i a0 (by omega), List.all_cons]
      cases q (x.getD i.toNat d) with
      | false => rfl
      | true => simp only [cond_true, Bool.true_and]; exact ih n (i + 1) (by omega) (by omega) (by omega) (by omega)
  have := step x.length N 0 (by omega) (by omega) (by omega) (Nat.lt_of_le_of_lt hx (Nat.lt_trans (by omega) big))
  simpa using this
theorem any_loop {α β γ : Type} {d : α} {F : Nat → Int → Option (β ⊕ γ)} {q : α → Bool} {g : Int → β} {e : γ} (x : List α) (hx : x.length ≤ 1048576) (h0 : ∀ n i, ¬ i < (x.length : Int) → F (n + 1) i = some (.inr e))
    (h1 : ∀ n i, 0 ≤ i → i < (x.length : Int) → x.getD i.toNat d ∈ x → F (n + 1) i = bif q (x.getD i.toNat d) then F n (i + 1) else some (.inl (g i))) : (x.all q = true ∧ F N 0 = some (.inr e)) ∨ (x.all q = false ∧ ∃ j : Int, 0 ≤ j ∧ j < x.length ∧ F N 0 = some (.inl (g j))) := by
  have step : ∀ (k n : Nat) (i : Int), 0 ≤ i → i ≤ x.length → (x.length : Int) - i = k → k < n → ((x.drop i.toNat).all q = true ∧ F n i = some (.inr e)) ∨ ((x.drop i.toNat).all q = false ∧ ∃ j : Int, 0 ≤ j ∧ j < x.length ∧ F n i = some (.inl (g j))) := by
    intro k
    induction k with
    | zero =>
      intro n i a0 a1 hd hn
      obtain ⟨n, rfl⟩ := succ_fuel hn
      rw [h0 n i (by omega), List.drop_eq_nil_of_le (by omega)]
      exact .inl ⟨rfl, rfl⟩
    | succ k ih =>
      intro n i a0 a1 hd hn
      obtain ⟨n, rfl⟩ := succ_fuel hn
      rw [h1 n i a0 (by omega) (mem_getD x d i a0 (by omega)), drop_getD x d i a0 (by omega), List.all_cons]
      cases q (x.getD i.toNat d) with
      | false => exact .inr ⟨rfl, i, a0, by omega, rfl⟩
      | true => simp only [cond_true, Bool.true_and]; exact ih n (i + 1) (by omega) (by omega) (by omega) (by omega)
  have := step x.length N 0 (by omega) (by omega) (by omega) (Nat.lt_of_le_of_lt hx (Nat.lt_trans (by omega) big))
  simpa using this
def rng2 (a x m : Int) : Bool := decide (a ≤ x) && decide (x ≤ m)
theorem in_rng2 (a x m : Int) : f_spec_l1In x a m = some (rng2 a x m) := by
  unfold f_spec_l1In rng2
  cases decide (a ≤ x) <;> rfl
theorem from_rng2 (a x m : Int) : f_impl_from x a m = some (rng2 a x m) := by
  unfold f_impl_from rng2
  cases decide (a ≤ x) <;> rfl
def homeOkB (x0 : List Int) (x1 : Int) (x2 : List Bool) (x4 x6 : Int) (x7 : List (Int × Bool)) (x8 : Int) : Bool :=
  rng2 1 x8 4 && (allW x0 && decide ((x0.length : Int) = 4)) && rng2 (-1) x1 (x8 - 1) && decide ((x2.length : Int) = x8) && rng2 0 x4 (x8 - 1) && rng2 0 x6 x8 && decide ((x7.length : Int) ≤ 12) && x7.all fun e => rng2 0 e.1 (x8 - 1)
theorem isOf_rng (x k : Int) (h0 : 1 ≤ k) (h1 : k ≤ 4) : f_impl_isOf x k = some (rng2 0 x (k - 1)) := by
  unfold f_impl_isOf
  have e : rng2 1 k 4 = true := by unfold rng2; rw [decide_eq_true h0, decide_eq_true h1]; rfl
  simp only [from_rng2, e, cond_true, w64 (show -9223372036854775808 ≤ k - 1 by omega) (by omega), Option.bind_some]
theorem specHomeOk (x0 : List Int) (x1 : Int) (x2 : List Bool) (x3 : Bool) (x4 : Int) (x5 : Bool) (x6 : Int) (x7 : List (Int × Bool)) (x8 : Int) (h : HomeS x0 x2 x7) : f_spec_HomeOk x0 x1 x2 x3 x4 x5 x6 x7 x8 = some (homeOkB x0 x1 x2 x4 x6 x7 x8) := by
  unfold f_spec_HomeOk homeOkB
  rw [in_rng2]
  cases hr : rng2 1 x8 4 with
  | false => rfl
  | true =>
    have hr' := hr
    unfold rng2 at hr'
    simp only [Bool.and_eq_true, decide_eq_true_eq] at hr'
    have hl := all_loop (d := ((0 : Int), false)) (F := fun n i => f_spec_HomeOk.l0 n x8 false i x0 x1 x2 x3 x4 x5 x6 x7) (q := fun e => rng2 0 e.1 (x8 - 1)) (b := false) x7 h.g7
      (fun n i hi => by simp only [f_spec_HomeOk.l0, decide_eq_false hi, cond_false])
      (fun n i h0 h1 _ => by
        have := h.g7
        simp only [f_spec_HomeOk.l0, decide_eq_true h1, decide_eq_true h0, cond_true, Bool.and_self, in_rng2, Option.bind_some, w64 (show -9223372036854775808 ≤ x8 - 1 by omega) (by omega), w64 (show -9223372036854775808 ≤ i + 1 by omega) (by omega)]
        cases rng2 0 ((x7.getD i.toNat (0, false)).1) (x8 - 1) <;> rfl)
    simp only [in_rng2, specWords x0 h.g0, Option.bind_some, w64 (show -9223372036854775808 ≤ x8 - 1 by omega) (by omega), hl]
    cases allW x0 && decide ((x0.length : Int) = 4) <;> cases rng2 (-1) x1 (x8 - 1) <;> cases decide ((x2.length : Int) = x8) <;> cases rng2 0 x4 (x8 - 1) <;> cases rng2 0 x6 x8 <;> try rfl
    by_cases h12 : (x7.length : Int) ≤ 12
    · rw [decide_eq_true h12, decide_eq_false (by omega)]
      cases x7.all fun e => rng2 0 e.1 (x8 - 1) <;> rfl
    · rw [decide_eq_false h12, decide_eq_true (by omega)]; rfl
theorem implHomeOk (x0 : List Int) (x1 : Int) (x2 : List Bool) (x3 : Bool) (x4 : Int) (x5 : Bool) (x6 : Int) (x7 : List (Int × Bool)) (x8 : Int) (h : HomeS x0 x2 x7) : f_impl_HomeOk x0 x1 x2 x3 x4 x5 x6 x7 x8 = some (homeOkB x0 x1 x2 x4 x6 x7 x8) := by
  unfold f_impl_HomeOk homeOkB
  rw [from_rng2]
  cases hr : rng2 1 x8 4 with
  | false => rfl
  | true =>
    have hr' := hr
    unfold rng2 at hr'
    simp only [Bool.and_eq_true, decide_eq_true_eq] at hr'
    have hl := any_loop (d := ((0 : Int), false)) (F := fun n i => f_impl_HomeOk.l0 n x7 0 (x7.length : Int) i x0 x1 x2 x3 x4 x5 x6 x7 x8) (q := fun e => rng2 0 e.1 (x8 - 1)) (g := fun i => (i, x0, x1, x2, x3, x4, x5, x6, x7, x8)) (e := (0, x0, x1, x2, x3, x4, x5, x6, x7, x8)) x7 h.g7
      (fun n i hi => by simp only [f_impl_HomeOk.l0, decide_eq_false hi, cond_false])
      (fun n i h0 h1 _ => by
        have := h.g7
        simp only [f_impl_HomeOk.l0, f_impl_HomeOk_1, decide_eq_true h1, decide_eq_true h0, cond_true, Bool.and_self, isOf_rng _ _ hr'.1 hr'.2, Option.bind_some, w64 (show -9223372036854775808 ≤ i + 1 by omega) (by omega)]
        cases rng2 0 ((x7.getD i.toNat (0, false)).1) (x8 - 1) <;> rfl)
    simp only [from_rng2, implWords x0 h.g0, Option.bind_some, isOf_rng _ _ hr'.1 hr'.2, w64 (show -9223372036854775808 ≤ x8 - 1 by omega) (by omega)]
    cases allW x0 && decide ((x0.length : Int) = 4) <;> cases rng2 (-1) x1 (x8 - 1) <;> cases decide ((x2.length : Int) = x8) <;> cases rng2 0 x4 (x8 - 1) <;> cases rng2 0 x6 x8 <;> try rfl
    cases decide ((x7.length : Int) ≤ 12) with
    | false => rfl
    | true =>
      rcases hl with ⟨e1, e2⟩ | ⟨e1, j, e3, _, e2⟩
      · simp only [e2, e1]; rfl
      · simp only [e2, e1, Option.bind_some]
        show some (!(decide ((0 : Int) ≤ j))) = some false
        rw [decide_eq_true e3]; rfl
abbrev HomeT := List Int × Int × List Bool × Bool × Int × Bool × Int × List (Int × Bool)
theorem msgOk_facts (k p : Int) (c : Bool) (w : List Int) (hn : w.length ≤ 1048576) (h : f_spec_MsgOk k p c w = some true) : 1 ≤ k ∧ k ≤ 7 ∧ 0 ≤ p ∧ p ≤ 5 ∧ allW w = true ∧ w.length = (if k = 3 ∨ k = 7 then 4 else 0) := by
  unfold f_spec_MsgOk at h
  simp only [specWords w hn, in_rg, Option.bind_some] at h
  have key : rg k 1 7 = true ∧ rg p 0 5 = true ∧ allW w = true ∧ (w.length : Int) = (if k = 3 ∨ k = 7 then 4 else 0) := by
    by_cases h3 : k = 3
    · subst h3
      rw [show rg 3 1 7 = true from rfl] at h ⊢
      cases hp : rg p 0 5 <;> simp [hp] at h ⊢
      exact ⟨h.1, by omega⟩
    · by_cases h7 : k = 7
      · subst h7
        rw [show rg 7 1 7 = true from rfl] at h ⊢
        cases hp : rg p 0 5 <;> cases c <;> simp [hp] at h ⊢
        exact ⟨h.1, by omega⟩
      · rw [decide_eq_false h3, decide_eq_false h7] at h
        cases hr : rg k 1 7 <;> cases hp : rg p 0 5 <;> cases hk : decide (k = 6) <;> cases c <;> simp [hr, hp, hk, h3, h7] at h ⊢ <;> exact ⟨h.1, h.2⟩
  obtain ⟨k1, k2, k3, k4⟩ := key
  unfold rg at k1 k2
  simp only [Bool.and_eq_true, decide_eq_true_eq] at k1 k2
  refine ⟨k1.1, k1.2, k2.1, k2.2, k3, ?_⟩
  by_cases hk : k = 3 ∨ k = 7
  · rw [if_pos hk] at k4 ⊢; omega
  · rw [if_neg hk] at k4 ⊢; omega
def homeNew (k : Int) : HomeT := (List.replicate 4 0, -1, List.replicate k.toNat false, false, 0, false, 0, [])
theorem implHomeNew (k : Int) (h0 : 1 ≤ k) (h1 : k ≤ 4) : f_impl_HomeNew k = some (homeNew k) := by
  unfold f_impl_HomeNew homeNew
  have hr : rg k 1 4 = true := by unfold rg; rw [decide_eq_true h0, decide_eq_true h1]; rfl
  simp only [from_rg, hr, Option.bind_some, Bool.not_true, cond_false, decide_eq_true (show 0 ≤ k by omega), show Nat.ble k.toNat 140737488355328 = true from Nat.ble_eq_true_of_le (by omega), Bool.and_self, cond_true]
abbrev ToldT := Int × Int × Int × Bool × List Int
abbrev KT := List Int × Int × List Bool × Bool × Int × Bool × Int × List (Int × Bool) × Int × List ToldT
def okT (k : Int) (e : ToldT) : Prop := 0 ≤ e.1 ∧ e.1 ≤ k - 1 ∧ e.2.2.2.2.length ≤ 4 ∧ f_spec_MsgOk e.2.1 e.2.2.1 e.2.2.2.1 e.2.2.2.2 = some true
structure HK (k : Int) (w : List Int) (own : Int) (seen : List Bool) (who need : Int) (wait : List (Int × Bool)) (page : Int) (told : List ToldT) : Prop where
  k0 : 1 ≤ k
  k1 : k ≤ 4
  w4 : w.length = 4
  ww : allW w = true
  o0 : -1 ≤ own
  o1 : own ≤ k - 1
  sl : (seen.length : Int) = k
  h0 : 0 ≤ who
  h1 : who ≤ k - 1
  n0 : 0 ≤ need
  n1 : need ≤ k
  q : ∀ e ∈ wait, 0 ≤ e.1 ∧ e.1 ≤ k - 1
  ql : wait.length ≤ 12
  p0 : 0 ≤ page
  p1 : page ≤ 5
  t : ∀ e ∈ told, okT k e
  tl : told.length + 8 * wait.length ≤ 120
structure SI (own : Int) (seen : List Bool) (busy : Bool) (who : Int) (ex : Bool) (need : Int) : Prop where
  a : 0 ≤ own → ∀ j : Nat, seen.getD j false = false
  b : busy = true → (0 ≤ own ∧ need = 0) ∨ (own = -1 ∧ 0 < need ∧ ex = true ∧ ∀ j : Nat, (j : Int) ≠ who → seen.getD j false = false)
  c : busy = false → need = 0
theorem msg_data (page : Int) (p0 : 0 ≤ page) (p1 : page ≤ 5) (ex : Bool) (w : List Int) (h4 : w.length = 4) (hw : allW w = true) : f_spec_MsgOk 3 page ex w = some true := by
  unfold f_spec_MsgOk
  have h1 : f_spec_l1In 3 1 7 = some true := rfl
  have h2 : f_spec_l1In page 0 5 = some true := by unfold f_spec_l1In; rw [decide_eq_true p0, decide_eq_true p1]; rfl
  simp only [decide_true, cond_true, h1, h2, Option.bind_some, specWords w (by omega), hw, h4, Bool.true_and]
  rfl
theorem msg_none (kind page : Int) (hk : kind = 4 ∨ kind = 6) (p0 : 0 ≤ page) (p1 : page ≤ 5) (ex : Bool) (he : ex = true → kind = 6) : f_spec_MsgOk kind page ex [] = some true := by
  have h2 : f_spec_l1In page 0 5 = some true := by unfold f_spec_l1In; rw [decide_eq_true p0, decide_eq_true p1]; rfl
  have h3 : f_spec_l1Words [] 0 = some true := by rw [specWords [] (by simp)]; rfl
  rcases hk with rfl | rfl
  · have e : ex = false := by cases ex with
      | false => rfl
      | true => exact absurd (he rfl) (by omega)
    subst e
    have h1 : f_spec_l1In 4 1 7 = some true := rfl
    unfold f_spec_MsgOk
    simp only [decide_eq_false (show ¬ (4 : Int) = 3 by omega), decide_eq_false (show ¬ (4 : Int) = 6 by omega), decide_eq_false (show ¬ (4 : Int) = 7 by omega), cond_false, cond_true, h1, h2, h3, Option.bind_some, Bool.not_false, List.length_nil]
    try rfl
  · have h1 : f_spec_l1In 6 1 7 = some true := rfl
    unfold f_spec_MsgOk
    simp only [decide_eq_false (show ¬ (6 : Int) = 3 by omega), decide_eq_true (show (6 : Int) = 6 by omega), decide_eq_false (show ¬ (6 : Int) = 7 by omega), cond_false, cond_true, h1, h2, h3, Option.bind_some, Bool.not_false, List.length_nil]
    try rfl
/-- The page is given. -/
def giveB (w : List Int) (own : Int) (seen : List Bool) (who : Int) (ex : Bool) (need : Int) (wait : List (Int × Bool)) (page : Int) (told : List ToldT) : KT := (w, if ex = true then who else own, seen.set who.toNat (!ex), false, 0, false, need, wait, page, told ++ [(who, 3, page, ex, w)])
theorem give_eq {k : Int} {w : List Int} {own : Int} {seen : List Bool} {who need : Int} {wait : List (Int × Bool)} {page : Int} {told : List ToldT} (h : HK k w own seen who need wait page told) (busy ex : Bool) :
    f_spec_l4Give w own seen busy who ex need wait page told = some (giveB w own seen who ex need wait page told) ∧ f_impl_keeper_give w own seen busy who ex need wait page told = some (giveB w own seen who ex need wait page told) := by
  have h4 := h.w4
  have ht := h.tl
  have hs := h.sl
  have h0 := h.h0
  have h1 := h.h1
  unfold f_spec_l4Give f_impl_keeper_give giveB
  constructor
  · simp only [f_spec_l4Tell, List.length_nil, Nat.zero_add, (blt_iff _ _).2 (show w.length < 17592186044416 by omega), cond_true, List.nil_append, Option.bind_some, List.length_singleton, (blt_iff _ _).2 (show told.length + 1 < 2513169434916 by omega), decide_eq_true h0, decide_eq_true (show who < (seen.length : Int) by omega), Bool.and_self]
    cases ex <;> rfl
  · simp only [f_slices_Clone_int_int, Nat.zero_add, (blt_iff _ _).2 (show w.length < 17592186044416 by omega), cond_true, Option.bind_some, List.length_singleton, (blt_iff _ _).2 (show told.length + 1 < 2513169434916 by omega), decide_eq_true h0, decide_eq_true (show who < (seen.length : Int) by omega), Bool.and_self]
    cases ex <;> rfl
theorem give_ok {k : Int} {w : List Int} {own : Int} {seen : List Bool} {who need : Int} {wait : List (Int × Bool)} {page : Int} {told : List ToldT} (h : HK k w own seen who need wait page told) (ex : Bool) (ht : told.length + 8 * wait.length ≤ 119) :
    HK k w (if ex = true then who else own) (seen.set who.toNat (!ex)) 0 need wait page (told ++ [(who, 3, page, ex, w)]) := by
  have h0 := h.h0
  have h1 := h.h1
  have o0 := h.o0
  have o1 := h.o1
  have k0 := h.k0
  refine ⟨h.k0, h.k1, h.w4, h.ww, ?_, ?_, by rw [List.length_set]; exact h.sl, Int.le_refl _, by omega, h.n0, h.n1, h.q, h.ql, h.p0, h.p1, fun e he => ?_, by rw [List.length_append, List.length_singleton]; omega⟩
  · cases ex <;> simp <;> omega
  · cases ex <;> simp <;> omega
  · rcases List.mem_append.1 he with he | he
    · exact h.t e he
    · rw [List.mem_singleton.1 he]
      exact ⟨h0, h1, by show w.length ≤ 4; have := h.w4; omega, msg_data page h.p0 h.p1 ex w h.w4 h.ww⟩
/-- Those who read are told that it is gone. -/
def scanL (who page : Int) : Int → List Bool → List Bool × List ToldT
  | _, [] => ([], [])
  | i, b :: x => if b = true ∧ i ≠ who then (false :: (scanL who page (i + 1) x).1, (i, 4, page, false, []) :: (scanL who page (i + 1) x).2) else (b :: (scanL who page (i + 1) x).1, (scanL who page (i + 1) x).2)
theorem scanL_len (who page : Int) : ∀ (x : List Bool) (i : Int), (scanL who page i x).1.length = x.length ∧ (scanL who page i x).2.length ≤ x.length
  | [], i => ⟨rfl, Nat.le_refl _⟩
  | b :: x, i => by
    obtain ⟨h1, h2⟩ := scanL_len who page x (i + 1)
    unfold scanL
    split <;> simp only [List.length_cons] <;> omega
theorem scanL_mem (who page : Int) : ∀ (x : List Bool) (i : Int), ∀ e ∈ (scanL who page i x).2, i ≤ e.1 ∧ e.1 < i + x.length ∧ e.2 = (4, page, false, [])
  | [], i, e, he => by cases he
  | b :: x, i, e, he => by
    have ih := scanL_mem who page x (i + 1)
    have low : ∀ e ∈ (scanL who page (i + 1) x).2, i ≤ e.1 ∧ e.1 < i + ((b :: x).length : Nat) ∧ e.2 = (4, page, false, []) := by
      intro e he
      obtain ⟨h1, h2, h3⟩ := ih e he
      simp only [List.length_cons]
      exact ⟨by omega, by omega, h3⟩
    unfold scanL at he
    split at he
    · rcases List.mem_cons.1 he with rfl | he
      · exact ⟨Int.le_refl _, by simp only [List.length_cons]; omega, rfl⟩
      · exact low e he
    · exact low e he
theorem scanL_other (who page : Int) : ∀ (x : List Bool) (i : Int) (j : Nat), i + (j : Int) ≠ who → (scanL who page i x).1.getD j false = false
  | [], i, j, _ => by simp [scanL]
  | b :: x, i, 0, h => by
    unfold scanL
    split
    · rfl
    · rename_i hn
      cases b with
      | false => rfl
      | true => exact absurd ⟨rfl, by omega⟩ hn
  | b :: x, i, j + 1, h => by
    have ih := scanL_other who page x (i + 1) j (by omega)
    unfold scanL
    split <;> simpa using ih
theorem spec_scan (own : Int) (busy : Bool) (who : Int) (page : Int) (w : List Int) (wait : List (Int × Bool)) : ∀ (r n : Nat) (pre x : List Bool) (need : Int) (told : List ToldT), x.length = r → r < n → pre.length + x.length ≤ 4 → 0 ≤ need → need + x.length ≤ 100 → told.length + x.length ≤ 1000 →
    f_spec_l4Next.l0 n (pre.length : Int) own busy who true need page w (pre ++ x) wait told = some (own, busy, who, true, need + ((scanL who page pre.length x).2.length : Int), page, w, pre ++ (scanL who page pre.length x).1, wait, told ++ (scanL who page pre.length x).2) := by
  intro r
  induction r with
  | zero =>
    intro n pre x need told hx hn hl hn0 hn1 ht
    obtain ⟨n, rfl⟩ := succ_fuel hn
    obtain rfl := List.eq_nil_of_length_eq_zero hx
    simp only [f_spec_l4Next.l0, List.append_nil, decide_eq_false (show ¬ (pre.length : Int) < (pre.length : Int) by omega), cond_false, scanL, List.length_nil, Int.natCast_zero, Int.add_zero]
  | succ r ih =>
    intro n pre x need told hx hn hl hn0 hn1 ht
    obtain ⟨n, rfl⟩ := succ_fuel hn
    cases x with
    | nil => cases hx
    | cons b x =>
      simp only [List.length_cons] at hx hl hn1 ht
      have hg : (pre ++ b :: x).getD pre.length false = b := by simp [List.getD_eq_getElem?_getD]
      have hs : (pre ++ b :: x).set pre.length false = (pre ++ [false]) ++ x := by simp
      have hb : (pre ++ b :: x) = (pre ++ [b]) ++ x := by simp
      have hlen : ((pre ++ b :: x).length : Int) = pre.length + 1 + x.length := by simp; omega
      simp only [f_spec_l4Next.l0, hlen, decide_eq_true (show (pre.length : Int) < (pre.length : Int) + 1 + (x.length : Int) by omega), decide_eq_true (show 0 ≤ (pre.length : Int) by omega), cond_true, Bool.and_self, Int.toNat_natCast, hg, f_spec_l4Tell, List.length_singleton, (blt_iff _ _).2 (show told.length + 1 < 2513169434916 by omega), Option.bind_some, hs, w64 (show -9223372036854775808 ≤ (pre.length : Int) + 1 by omega) (by omega), w64 (show -9223372036854775808 ≤ need + 1 by omega) (by omega)]
      cases b with
      | false =>
        have := ih n (pre ++ [false]) x need told (by omega) (by omega) (by simp; omega) hn0 (by omega) (by omega)
        simp only [List.length_append, List.length_singleton, Int.natCast_add, Int.natCast_one] at this
        simp only [cond_false]
        rw [hb, this]
        simp only [scanL, Bool.false_eq_true, false_and, if_false, List.append_assoc, List.singleton_append]
      | true =>
        by_cases hw : (pre.length : Int) = who
        · have := ih n (pre ++ [true]) x need told (by omega) (by omega) (by simp; omega) hn0 (by omega) (by omega)
          simp only [List.length_append, List.length_singleton, Int.natCast_add, Int.natCast_one] at this
          simp only [cond_true, decide_eq_true hw, Bool.not_true, cond_false]
          rw [hb, this]
          simp only [scanL, ne_eq, hw, not_true_eq_false, and_false, if_false, List.append_assoc, List.singleton_append]
        · have := ih n (pre ++ [false]) x (need + 1) (told ++ [((pre.length : Int), 4, page, false, [])]) (by omega) (by omega) (by simp; omega) (by omega) (by omega) (by simp; omega)
          simp only [List.length_append, List.length_singleton, Int.natCast_add, Int.natCast_one] at this
          simp only [cond_true, decide_eq_false hw, Bool.not_false, this]
          simp only [scanL, ne_eq, hw, not_false_eq_true, and_self, if_true, List.append_assoc, List.singleton_append, List.length_cons, Int.natCast_add, Int.natCast_one]
          rw [show need + 1 + ((scanL who page ((pre.length : Int) + 1) x).2.length : Int) = need + (((scanL who page ((pre.length : Int) + 1) x).2.length : Int) + 1) by omega]
theorem impl_scan (own : Int) (busy : Bool) (who : Int) (page : Int) (w : List Int) (wait : List (Int × Bool)) (vo vl : Int) (len : Int) : ∀ (r n : Nat) (pre x : List Bool) (need : Int) (told : List ToldT), x.length = r → r < n → pre.length + x.length ≤ 4 → len = pre.length + x.length → 0 ≤ need → need + x.length ≤ 100 → told.length + x.length ≤ 1000 →
    f_impl_keeper_begin.l0 n len (pre.length : Int) own busy who true need vo vl page (pre ++ x) w wait told = some (own, busy, who, true, need + ((scanL who page pre.length x).2.length : Int), vo, vl, page, w, pre ++ (scanL who page pre.length x).1, wait, told ++ (scanL who page pre.length x).2) := by
  intro r
  induction r with
  | zero =>
    intro n pre x need told hx hn hl hlen hn0 hn1 ht
    obtain ⟨n, rfl⟩ := succ_fuel hn
    obtain rfl := List.eq_nil_of_length_eq_zero hx
    simp only [List.length_nil] at hlen
    simp only [f_impl_keeper_begin.l0, List.append_nil, decide_eq_false (show ¬ (pre.length : Int) < len by omega), cond_false, scanL, List.length_nil, Int.natCast_zero, Int.add_zero]
  | succ r ih =>
    intro n pre x need told hx hn hl hlen hn0 hn1 ht
    obtain ⟨n, rfl⟩ := succ_fuel hn
    cases x with
    | nil => cases hx
    | cons b x =>
      simp only [List.length_cons] at hx hl hn1 ht hlen
      have hg : (pre ++ b :: x).getD pre.length false = b := by simp [List.getD_eq_getElem?_getD]
      have hs : (pre ++ b :: x).set pre.length false = (pre ++ [false]) ++ x := by simp
      have hb : (pre ++ b :: x) = (pre ++ [b]) ++ x := by simp
      have hlen2 : ((pre ++ b :: x).length : Int) = pre.length + 1 + x.length := by simp; omega
      simp only [f_impl_keeper_begin.l0, hlen2, decide_eq_true (show (pre.length : Int) < len by omega), decide_eq_true (show (pre.length : Int) < (pre.length : Int) + 1 + (x.length : Int) by omega), decide_eq_true (show 0 ≤ (pre.length : Int) by omega), cond_true, Bool.and_self, Int.toNat_natCast, hg, List.length_singleton, (blt_iff _ _).2 (show told.length + 1 < 2513169434916 by omega), Option.bind_some, hs, w64 (show -9223372036854775808 ≤ (pre.length : Int) + 1 by omega) (by omega), w64 (show -9223372036854775808 ≤ need + 1 by omega) (by omega)]
      cases b with
      | false =>
        have := ih n (pre ++ [false]) x need told (by omega) (by omega) (by simp; omega) (by simp; omega) hn0 (by omega) (by omega)
        simp only [List.length_append, List.length_singleton, Int.natCast_add, Int.natCast_one] at this
        simp only [cond_false]
        rw [hb, this]
        simp only [scanL, Bool.false_eq_true, false_and, if_false, List.append_assoc, List.singleton_append]
      | true =>
        by_cases hw : (pre.length : Int) = who
        · have := ih n (pre ++ [true]) x need told (by omega) (by omega) (by simp; omega) (by simp; omega) hn0 (by omega) (by omega)
          simp only [List.length_append, List.length_singleton, Int.natCast_add, Int.natCast_one] at this
          simp only [cond_true, decide_eq_true hw, Bool.not_true, cond_false]
          rw [hb, this]
          simp only [scanL, ne_eq, hw, not_true_eq_false, and_false, if_false, List.append_assoc, List.singleton_append]
        · have := ih n (pre ++ [false]) x (need + 1) (told ++ [((pre.length : Int), 4, page, false, [])]) (by omega) (by omega) (by simp; omega) (by simp; omega) (by omega) (by omega) (by simp; omega)
          simp only [List.length_append, List.length_singleton, Int.natCast_add, Int.natCast_one] at this
          simp only [cond_true, decide_eq_false hw, Bool.not_false, this]
          simp only [scanL, ne_eq, hw, not_false_eq_true, and_self, if_true, List.append_assoc, List.singleton_append, List.length_cons, Int.natCast_add, Int.natCast_one]
          rw [show need + 1 + ((scanL who page ((pre.length : Int) + 1) x).2.length : Int) = need + (((scanL who page ((pre.length : Int) + 1) x).2.length : Int) + 1) by omega]
theorem impl_skip (own : Int) (busy : Bool) (who : Int) (page : Int) (w : List Int) (wait : List (Int × Bool)) (vo vl need : Int) (seen : List Bool) (told : List ToldT) (hs : seen.length ≤ 4) : ∀ (r n : Nat) (i : Nat), i + r = seen.length → r < n →
    f_impl_keeper_begin.l0 n (seen.length : Int) (i : Int) own busy who false need vo vl page seen w wait told = some (own, busy, who, false, need, vo, vl, page, w, seen, wait, told) := by
  intro r
  induction r with
  | zero =>
    intro n i hi hn
    obtain ⟨n, rfl⟩ := succ_fuel hn
    simp only [f_impl_keeper_begin.l0, decide_eq_false (show ¬ (i : Int) < (seen.length : Int) by omega), cond_false]
  | succ r ih =>
    intro n i hi hn
    obtain ⟨n, rfl⟩ := succ_fuel hn
    simp only [f_impl_keeper_begin.l0, decide_eq_true (show (i : Int) < (seen.length : Int) by omega), decide_eq_true (show 0 ≤ (i : Int) by omega), cond_true, cond_false, Bool.and_self, w64 (show -9223372036854775808 ≤ (i : Int) + 1 by omega) (by omega)]
    rw [show (i : Int) + 1 = ((i + 1 : Nat) : Int) by omega]
    exact ih n (i + 1) (by omega) (by omega)
/-- The first one that waits. -/
def nextB (w : List Int) (own : Int) (seen : List Bool) (who : Int) (ex : Bool) (need : Int) (wait : List (Int × Bool)) (page : Int) (told : List ToldT) : KT :=
  if 0 ≤ own then (w, own, seen, true, who, ex, need, wait, page, told ++ [(own, 6, page, ex, [])])
  else if ex = true then
    if (scanL who page 0 seen).2.length = 0 then giveB w own (scanL who page 0 seen).1 who true 0 wait page (told ++ (scanL who page 0 seen).2)
    else (w, own, (scanL who page 0 seen).1, true, who, true, ((scanL who page 0 seen).2.length : Int), wait, page, told ++ (scanL who page 0 seen).2)
  else giveB w own seen who false 0 wait page told
theorem scan_ok {k : Int} {w : List Int} {own : Int} {seen : List Bool} {who need : Int} {wait : List (Int × Bool)} {page : Int} {told : List ToldT} (h : HK k w own seen who need wait page told) (ht : told.length + 8 * wait.length ≤ 112) :
    HK k w own (scanL who page 0 seen).1 who ((scanL who page 0 seen).2.length : Int) wait page (told ++ (scanL who page 0 seen).2) := by
  obtain ⟨l1, l2⟩ := scanL_len who page seen 0
  have hs := h.sl
  have hk := h.k1
  refine ⟨h.k0, h.k1, h.w4, h.ww, h.o0, h.o1, by rw [l1]; exact hs, h.h0, h.h1, by omega, by omega, h.q, h.ql, h.p0, h.p1, fun e he => ?_, by rw [List.length_append]; omega⟩
  rcases List.mem_append.1 he with he | he
  · exact h.t e he
  · obtain ⟨a, b, c⟩ := scanL_mem who page seen 0 e he
    refine ⟨a, by omega, ?_, ?_⟩
    · rw [c]; exact Nat.zero_le _
    · rw [c]; exact msg_none 4 page (.inl rfl) h.p0 h.p1 false (fun h => by cases h)
theorem next_eq {k : Int} {w : List Int} {own : Int} {seen : List Bool} {who need : Int} {i : Int} {ex : Bool} {wt : List (Int × Bool)} {page : Int} {told : List ToldT} (h : HK k w own seen who need ((i, ex) :: wt) page told) (busy ex0 : Bool) :
    f_spec_l4Next w own seen busy who ex0 need ((i, ex) :: wt) page told = some (nextB w own seen i ex need wt page told) ∧ f_impl_keeper_begin w own seen busy who ex0 need ((i, ex) :: wt) page told = some (nextB w own seen i ex need wt page told) := by
  have ht := h.tl
  have hq := h.ql
  have hs := h.sl
  have hk := h.k1
  have hi := h.q (i, ex) (.head _)
  simp only [List.length_cons] at ht hq
  have h' : HK k w own seen i 0 wt page told := ⟨h.k0, h.k1, h.w4, h.ww, h.o0, h.o1, h.sl, hi.1, hi.2, Int.le_refl _, by have := h.k0; omega, fun e he => h.q e (.tail _ he), by omega, h.p0, h.p1, h.t, by omega⟩
  have hsc := scan_ok h' (by omega)
  have e1 : (((i, ex) :: wt).drop 1).take ((((i, ex) :: wt).length : Int) - 1).toNat = wt := by simp
  have e2 : ((i, ex) :: wt).getD 0 (0, false) = (i, ex) := rfl
  have fuel : seen.length < N := Nat.lt_of_le_of_lt (show seen.length ≤ 4 by omega) (Nat.lt_trans (by omega) big)
  unfold f_spec_l4Next f_impl_keeper_begin nextB
  simp only [decide_eq_true (show (0 : Int) < (((i, ex) :: wt).length : Int) by simp only [List.length_cons]; omega), decide_eq_true (show (1 : Int) ≤ (((i, ex) :: wt).length : Int) by simp only [List.length_cons]; omega), cond_true, e1, e2, List.length_nil, Nat.zero_add, (blt_iff _ _).2 (show wt.length < 8796093022208 by omega), List.nil_append, Option.bind_some]
  by_cases ho : 0 ≤ own
  · simp only [decide_eq_true ho, cond_true, if_pos ho, f_spec_l4Tell, List.length_singleton, (blt_iff _ _).2 (show told.length + 1 < 2513169434916 by omega), Option.bind_some]
    exact ⟨trivial, trivial⟩
  · simp only [decide_eq_false ho, cond_false, if_neg ho]
    cases ex with
    | true =>
      have s1 := spec_scan own true i page w wt seen.length N [] seen 0 told rfl fuel (by simp; omega) (by omega) (by omega) (by omega)
      have s2 := impl_scan own true i page w ((i, true) :: wt) 1 ((((i, true) :: wt).length : Int) - 1) (seen.length : Int) seen.length N [] seen 0 told rfl fuel (by simp; omega) (by simp) (by omega) (by omega) (by omega)
      simp only [List.length_nil, Int.natCast_zero, List.nil_append, Int.zero_add] at s1 s2
      simp only [s1, s2, Option.bind_some, if_true, show ((1 : Int)).toNat = 1 from rfl, e1]
      by_cases hz : (scanL i page 0 seen).2.length = 0
      · simp only [hz, Int.natCast_zero, decide_true, cond_true, if_true]
        rw [hz] at hsc
        obtain ⟨g1, g2⟩ := give_eq hsc true true
        simp only [Int.natCast_zero] at g1 g2
        rw [g1, g2]
        exact ⟨rfl, rfl⟩
      · simp only [decide_eq_false (show ¬ ((scanL i page 0 seen).2.length : Int) = 0 by omega), cond_false, if_neg hz]
        exact ⟨trivial, trivial⟩
    | false =>
      obtain ⟨n, hn⟩ : ∃ n, N = n + 1 := ⟨N - 1, rfl⟩
      have s1 : f_spec_l4Next.l0 N 0 own true i false 0 page w seen wt told = some (own, true, i, false, 0, page, w, seen, wt, told) := by
        rw [hn]
        simp only [f_spec_l4Next.l0, cond_false]
        cases decide (0 < (seen.length : Int)) <;> rfl
      have s2 := impl_skip own true i page w ((i, false) :: wt) 1 ((((i, false) :: wt).length : Int) - 1) 0 seen told (by omega) seen.length N 0 (by omega) fuel
      simp only [Int.natCast_zero] at s2
      obtain ⟨g1, g2⟩ := give_eq h' true false
      simp only [s1, s2, Option.bind_some, show ((1 : Int)).toNat = 1 from rfl, e1, decide_true, cond_true, g1, g2, Bool.false_eq_true, if_false]
      exact ⟨trivial, trivial⟩
def HKs (k : Int) (s : KT) : Prop := HK k s.1 s.2.1 s.2.2.1 s.2.2.2.2.1 s.2.2.2.2.2.2.1 s.2.2.2.2.2.2.2.1 s.2.2.2.2.2.2.2.2.1 s.2.2.2.2.2.2.2.2.2
def SIs (s : KT) : Prop := SI s.2.1 s.2.2.1 s.2.2.2.1 s.2.2.2.2.1 s.2.2.2.2.2.1 s.2.2.2.2.2.2.1
theorem give_si {w : List Int} {own : Int} {seen : List Bool} {who : Int} {ex : Bool} {wait : List (Int × Bool)} {page : Int} {told : List ToldT} (h0 : 0 ≤ who) (ho : own < 0) (hx : ex = true → ∀ j : Nat, (j : Int) ≠ who → seen.getD j false = false) : SIs (giveB w own seen who ex 0 wait page told) := by
  refine ⟨fun ha j => ?_, fun hb => (by cases hb), fun _ => rfl⟩
  show (seen.set who.toNat (!ex)).getD j false = false
  have ha : 0 ≤ (if ex = true then who else own) := ha
  cases ex with
  | false => simp at ha; omega
  | true =>
    by_cases hj : (j : Int) = who
    · rw [List.getD_eq_getElem?_getD, List.getElem?_set]
      rw [if_pos (show who.toNat = j by omega)]
      split <;> rfl
    · rw [List.getD_eq_getElem?_getD, List.getElem?_set, if_neg (by omega), ← List.getD_eq_getElem?_getD]
      exact hx rfl j hj
theorem next_ok {k : Int} {w : List Int} {own : Int} {seen : List Bool} {who need : Int} {i : Int} {ex : Bool} {wt : List (Int × Bool)} {page : Int} {told : List ToldT} (h : HK k w own seen who need ((i, ex) :: wt) page told) :
    HKs k (nextB w own seen i ex need wt page told) ∧ (nextB w own seen i ex need wt page told).2.2.2.2.2.2.2.1 = wt ∧ (∀ ex0, SI own seen false who ex0 need → SIs (nextB w own seen i ex need wt page told)) := by
  have ht := h.tl
  have hq := h.ql
  have hs := h.sl
  have hk := h.k1
  have k0 := h.k0
  have o0 := h.o0
  have hi := h.q (i, ex) (.head _)
  simp only [List.length_cons] at ht hq
  have h' : ∀ m, 0 ≤ m → m ≤ k → HK k w own seen i m wt page told := fun m m0 m1 => ⟨h.k0, h.k1, h.w4, h.ww, h.o0, h.o1, h.sl, hi.1, hi.2, m0, m1, fun e he => h.q e (.tail _ he), by omega, h.p0, h.p1, h.t, by omega⟩
  unfold nextB
  by_cases ho : 0 ≤ own
  · rw [if_pos ho]
    have o1 := h.o1
    refine ⟨?_, rfl, fun ex0 si => ⟨si.a, fun _ => .inl ⟨ho, si.c rfl⟩, fun hb => (by cases hb)⟩⟩
    have := h' need h.n0 h.n1
    refine ⟨this.k0, this.k1, this.w4, this.ww, this.o0, this.o1, this.sl, this.h0, this.h1, this.n0, this.n1, this.q, this.ql, this.p0, this.p1, fun e he => ?_, by simp; omega⟩
    rcases List.mem_append.1 he with he | he
    · exact h.t e he
    · rw [List.mem_singleton.1 he]
      exact ⟨ho, o1, Nat.zero_le _, msg_none 6 page (.inr rfl) h.p0 h.p1 ex (fun _ => rfl)⟩
  · rw [if_neg ho]
    cases ex with
    | true =>
      rw [if_pos rfl]
      have hsc := scan_ok (h' 0 (by omega) (by omega)) (by omega)
      obtain ⟨l1, l2⟩ := scanL_len i page seen 0
      by_cases hz : (scanL i page 0 seen).2.length = 0
      · rw [if_pos hz]
        rw [hz] at hsc
        refine ⟨?_, rfl, fun ex0 si => give_si hi.1 (by omega) fun _ j hj => scanL_other i page seen 0 j (by omega)⟩
        exact give_ok hsc true (by rw [List.length_append]; omega)
      · rw [if_neg hz]
        refine ⟨hsc, rfl, fun ex0 si => ⟨fun ha => absurd ha ho, fun _ => .inr ⟨by show own = -1; omega, by show (0 : Int) < ((scanL i page 0 seen).2.length : Int); omega, rfl, fun j hj => scanL_other i page seen 0 j (by have hj : (j : Int) ≠ i := hj; omega)⟩, fun hb => (by cases hb)⟩⟩
    | false =>
      rw [if_neg (by simp)]
      refine ⟨give_ok (h' 0 (by omega) (by omega)) false (by omega), rfl, fun ex0 si => give_si hi.1 (by omega) fun hx => (by cases hx)⟩
/-- As long as it is not busy and somebody waits. -/
theorem hear_loop {k : Int} (j1 : Int) (j2 : Bool) (j3 : Int) (j4 : Bool) (j5 : Int) (l1 : List Int) (l2 : List Bool) (l3 : List (Int × Bool)) : ∀ (m : Nat) (w : List Int) (own : Int) (seen : List Bool) (busy : Bool) (who : Int) (ex : Bool) (need : Int) (wait : List (Int × Bool)) (page : Int) (told : List ToldT), wait.length = m → HK k w own seen who need wait page told →
    ∃ s : KT, HKs k s ∧ (SI own seen busy who ex need → SIs s) ∧ ∀ n, m < n →
      f_spec_HomeHear.l0 n j1 j2 j3 j4 j5 own busy who ex need page l1 l2 l3 w seen wait told = some (j1, j2, j3, j4, j5, s.2.1, s.2.2.2.1, s.2.2.2.2.1, s.2.2.2.2.2.1, s.2.2.2.2.2.2.1, s.2.2.2.2.2.2.2.2.1, l1, l2, l3, s.1, s.2.2.1, s.2.2.2.2.2.2.2.1, s.2.2.2.2.2.2.2.2.2) ∧
      f_impl_HomeHear.l1 n j1 j2 j3 j4 j5 own busy who ex need page l1 l2 l3 w seen wait told = some (j1, j2, j3, j4, j5, s.2.1, s.2.2.2.1, s.2.2.2.2.1, s.2.2.2.2.2.1, s.2.2.2.2.2.2.1, s.2.2.2.2.2.2.2.2.1, l1, l2, l3, s.1, s.2.2.1, s.2.2.2.2.2.2.2.1, s.2.2.2.2.2.2.2.2.2) := by
  intro m
  induction m with
  | zero =>
    intro w own seen busy who ex need wait page told hm h
    obtain rfl := List.eq_nil_of_length_eq_zero hm
    refine ⟨(w, own, seen, busy, who, ex, need, [], page, told), h, fun h => h, fun n hn => ?_⟩
    obtain ⟨n, rfl⟩ := succ_fuel hn
    simp only [f_spec_HomeHear.l0, f_impl_HomeHear.l1, List.length_nil, decide_eq_false (show ¬ (0 : Int) < ((0 : Nat) : Int) by omega), cond_false]
    cases busy <;> exact ⟨rfl, rfl⟩
  | succ m ih =>
    intro w own seen busy who ex need wait page told hm h
    cases busy with
    | true =>
      refine ⟨(w, own, seen, true, who, ex, need, wait, page, told), h, fun h => h, fun n hn => ?_⟩
      obtain ⟨n, rfl⟩ := succ_fuel hn
      simp only [f_spec_HomeHear.l0, f_impl_HomeHear.l1, Bool.not_true, cond_false]
      exact ⟨trivial, trivial⟩
    | false =>
      cases wait with
      | nil => cases hm
      | cons e wt =>
        obtain ⟨i, ex'⟩ := e
        simp only [List.length_cons, Nat.add_right_cancel_iff] at hm
        obtain ⟨e1, e2⟩ := next_eq h false ex
        obtain ⟨k1, k2, k3⟩ := next_ok h
        generalize nextB w own seen i ex' need wt page told = s at e1 e2 k1 k2 k3
        obtain ⟨s', a1, a2, a3⟩ := ih s.1 s.2.1 s.2.2.1 s.2.2.2.1 s.2.2.2.2.1 s.2.2.2.2.2.1 s.2.2.2.2.2.2.1 s.2.2.2.2.2.2.2.1 s.2.2.2.2.2.2.2.2.1 s.2.2.2.2.2.2.2.2.2 (by rw [k2]; exact hm) k1
        refine ⟨s', a1, fun si => a2 (k3 ex si), fun n hn => ?_⟩
        obtain ⟨n, rfl⟩ := succ_fuel hn
        obtain ⟨b1, b2⟩ := a3 n (by omega)
        simp only [f_spec_HomeHear.l0, f_impl_HomeHear.l1, List.length_cons, decide_eq_true (show (0 : Int) < ((wt.length + 1 : Nat) : Int) by omega), Bool.not_false, cond_true, e1, e2, Option.bind_some, b1, b2]
        exact ⟨trivial, trivial⟩
/-- What a message says to a home; none: nothing. -/
def hear0 (w : List Int) (own : Int) (seen : List Bool) (busy : Bool) (who : Int) (ex : Bool) (need : Int) (wait : List (Int × Bool)) (page : Int) (src kind : Int) (ws : List Int) : Option KT :=
  if kind = 1 ∨ kind = 2 then (if wait.length = 12 then none else some (w, own, seen, busy, who, ex, need, wait ++ [(src, decide (kind = 2))], page, []))
  else if kind = 5 then (if busy = true ∧ need ≠ 0 then (if need - 1 = 0 then some (giveB w own seen who ex 0 wait page []) else some (w, own, seen, busy, who, ex, need - 1, wait, page, [])) else none)
  else if kind = 7 then (if busy = true ∧ need = 0 ∧ src = own then some (giveB ws (-1) (seen.set src.toNat (!ex)) who ex need wait page []) else none)
  else none
/-- Where the two differ: an owner that reads, when the page comes back for one who is to own it. -/
def NB (own : Int) (seen : List Bool) (busy : Bool) (ex : Bool) (need : Int) : Prop := busy = true → need = 0 → ex = true → 0 ≤ own → seen.getD own.toNat false = false
theorem setB_same {x : List Bool} {i : Nat} (h : x.getD i false = false) : x.set i false = x := by
  refine List.ext_getElem? fun j => ?_
  rw [List.getElem?_set]
  split
  · rename_i hj
    subst hj
    split
    · rename_i hi
      rw [List.getD_eq_getElem?_getD, List.getElem?_eq_getElem hi] at h
      rw [List.getElem?_eq_getElem hi]
      exact congrArg some h.symm
    · rename_i hi
      rw [List.getElem?_eq_none (by omega)]
  · rfl
theorem hear0_ok {k : Int} {w : List Int} {own : Int} {seen : List Bool} {busy : Bool} {who : Int} {ex : Bool} {need : Int} {wait : List (Int × Bool)} {page : Int} (h : HK k w own seen who need wait page []) (src kind : Int) (c : Bool) (ws : List Int) (s0 : 0 ≤ src) (s1 : src ≤ k - 1)
    (hn : ws.length ≤ 1048576) (hm : f_spec_MsgOk kind page c ws = some true) {s : KT} (hs : hear0 w own seen busy who ex need wait page src kind ws = some s) : HKs k s ∧ (SI own seen busy who ex need → SIs s) := by
  have ql := h.ql
  have n1 := h.n1
  have n0 := h.n0
  have k0 := h.k0
  unfold hear0 at hs
  split at hs
  · split at hs
    · cases hs
    · rename_i hw
      have := Option.some.inj hs
      subst this
      refine ⟨⟨h.k0, h.k1, h.w4, h.ww, h.o0, h.o1, h.sl, h.h0, h.h1, h.n0, h.n1, fun e he => ?_, by simp; omega, h.p0, h.p1, h.t, by simp; omega⟩, fun si => si⟩
      rcases List.mem_append.1 he with he | he
      · exact h.q e he
      · rw [List.mem_singleton.1 he]; exact ⟨s0, s1⟩
  · split at hs
    · split at hs
      · rename_i hb
        split at hs
        · rename_i hz
          have := Option.some.inj hs
          subst this
          have h' : HK k w own seen who 0 wait page [] := ⟨h.k0, h.k1, h.w4, h.ww, h.o0, h.o1, h.sl, h.h0, h.h1, Int.le_refl _, by omega, h.q, h.ql, h.p0, h.p1, h.t, h.tl⟩
          refine ⟨give_ok h' ex (by simp; omega), fun si => ?_⟩
          rcases si.b hb.1 with ⟨_, h0⟩ | ⟨h1, _, _, h2⟩
          · exact absurd h0 hb.2
          · exact give_si h.h0 (by omega) fun _ => h2
        · rename_i hz
          have := Option.some.inj hs
          subst this
          refine ⟨⟨h.k0, h.k1, h.w4, h.ww, h.o0, h.o1, h.sl, h.h0, h.h1, by show 0 ≤ need - 1; have := hb.2; omega, by show need - 1 ≤ k; omega, h.q, h.ql, h.p0, h.p1, h.t, h.tl⟩, fun si => ⟨si.a, fun hb' => ?_, fun hb' => ?_⟩⟩
          · rcases si.b hb.1 with ⟨_, h0⟩ | ⟨h1, h2, h3, h4⟩
            · exact absurd h0 hb.2
            · exact .inr ⟨h1, by show 0 < need - 1; omega, h3, h4⟩
          · have hb' : busy = false := hb'
            rw [hb.1] at hb'; cases hb'
      · cases hs
    · split at hs
      · split at hs
        · rename_i _ _ hk hb
          have := Option.some.inj hs
          subst this
          subst hk
          obtain ⟨hb1, rfl, hb3⟩ := hb
          obtain ⟨-, -, -, -, m5, m6⟩ := msgOk_facts _ _ _ _ hn hm
          rw [if_pos (.inr rfl)] at m6
          have h' : HK k ws (-1) (seen.set src.toNat (!ex)) who 0 wait page [] := ⟨h.k0, h.k1, m6, m5, by omega, by omega, by rw [List.length_set]; exact h.sl, h.h0, h.h1, Int.le_refl _, by omega, h.q, h.ql, h.p0, h.p1, h.t, h.tl⟩
          refine ⟨give_ok h' ex (by simp; omega), fun si => give_si h.h0 (by omega) fun hx j hj => ?_⟩
          rw [hx, Bool.not_true, setB_same (si.a (by omega) _)]
          exact si.a (by omega) j
        · cases hs
      · cases hs
theorem copyS (x0 : List Int) (x1 : Int) (x2 : List Bool) (x3 : Bool) (x4 : Int) (x5 : Bool) (x6 : Int) (x7 : List (Int × Bool)) (h : HomeS x0 x2 x7) : f_spec_l4Copy x0 x1 x2 x3 x4 x5 x6 x7 = some (x0, x1, x2, x3, x4, x5, x6, x7) ∧ f_impl_copyHome x0 x1 x2 x3 x4 x5 x6 x7 = some (x0, x1, x2, x3, x4, x5, x6, x7) := by
  have g0 := h.g0
  have g2 := h.g2
  have g7 := h.g7
  unfold f_spec_l4Copy f_impl_copyHome
  simp only [f_slices_Clone_int_int, f_slices_Clone_bool_bool, f_slices_Clone_impl_Wait_impl_Wait, List.length_nil, Nat.zero_add, (blt_iff _ _).2 (show x0.length < 17592186044416 by omega), (blt_iff _ _).2 (show x2.length < 140737488355328 by omega), (blt_iff _ _).2 (show x7.length < 8796093022208 by omega), cond_true, List.nil_append, Option.bind_some]
  exact ⟨trivial, trivial⟩
theorem spec_hear0 {k : Int} {w : List Int} {own : Int} {seen : List Bool} {busy : Bool} {who : Int} {ex : Bool} {need : Int} {wait : List (Int × Bool)} {page : Int} (h : HK k w own seen who need wait page []) (src kind pg : Int) (c : Bool) (ws : List Int) (s0 : 0 ≤ src) (s1 : src ≤ k - 1)
    (hn : ws.length ≤ 1048576) (hm : f_spec_MsgOk kind page c ws = some true) : f_spec_l4Hear w own seen busy who ex need wait page [] src kind pg c ws = some (match hear0 w own seen busy who ex need wait page src kind ws with
      | some s => (true, s)
      | none => (false, w, own, seen, busy, who, ex, need, wait, page, [])) := by
  have ql := h.ql
  have n0 := h.n0
  have n1 := h.n1
  have hs := h.sl
  have k1 := h.k1
  have k0 := h.k0
  unfold f_spec_l4Hear hear0
  by_cases h1 : kind = 1
  · subst h1
    by_cases hw : wait.length = 12
    · simp only [decide_true, cond_true, hw, decide_eq_true (show ((12 : Nat) : Int) = 12 by omega), true_or, if_true]
    · simp only [decide_true, cond_true, decide_eq_false (show ¬ (wait.length : Int) = 12 by omega), cond_false, true_or, if_true, if_neg hw, List.length_singleton, (blt_iff _ _).2 (show wait.length + 1 < 8796093022208 by omega), Option.bind_some]
  · by_cases h2 : kind = 2
    · subst h2
      by_cases hw : wait.length = 12
      · simp only [decide_true, cond_true, cond_false, decide_eq_false (show ¬ (2 : Int) = 1 by omega), hw, decide_eq_true (show ((12 : Nat) : Int) = 12 by omega), or_true, if_true]
      · simp only [decide_true, cond_true, cond_false, decide_eq_false (show ¬ (2 : Int) = 1 by omega), decide_eq_false (show ¬ (wait.length : Int) = 12 by omega), or_true, if_true, if_neg hw, List.length_singleton, (blt_iff _ _).2 (show wait.length + 1 < 8796093022208 by omega), Option.bind_some]
    · simp only [decide_eq_false h1, decide_eq_false h2, cond_false, if_neg (show ¬ (kind = 1 ∨ kind = 2) by omega)]
      by_cases h5 : kind = 5
      · simp only [decide_eq_true h5, cond_true, if_pos h5]
        cases busy with
        | false => simp only [Bool.not_false, cond_true, Bool.false_eq_true, false_and, if_false]
        | true =>
          by_cases hz : need = 0
          · subst hz
            simp only [Bool.not_true, cond_false, decide_true, cond_true, ne_eq, not_true_eq_false, and_false, if_false]
          · rw [if_pos (⟨rfl, hz⟩ : true = true ∧ need ≠ 0)]
            simp only [Bool.not_true, cond_false, decide_eq_false hz, w64 (show -9223372036854775808 ≤ need - 1 by omega) (by omega)]
            by_cases hy : need - 1 = 0
            · have h' : HK k w own seen who 0 wait page [] := ⟨h.k0, h.k1, h.w4, h.ww, h.o0, h.o1, h.sl, h.h0, h.h1, Int.le_refl _, by omega, h.q, h.ql, h.p0, h.p1, h.t, h.tl⟩
              simp only [hy, decide_true, cond_true, (give_eq h' true ex).1, Option.bind_some, if_true]
            · simp only [decide_eq_false hy, cond_false, if_neg hy]
      · by_cases h7 : kind = 7
        · subst h7
          simp only [decide_eq_false h5, cond_false, if_neg h5, decide_true, cond_true, if_true]
          cases busy with
          | false => simp only [Bool.not_false, cond_true, Bool.false_eq_true, false_and, if_false]
          | true =>
            by_cases hz : need = 0
            · subst hz
              by_cases ho : src = own
              · obtain rfl : own = src := ho.symm
                obtain ⟨-, -, -, -, m5, m6⟩ := msgOk_facts _ _ _ _ hn hm
                rw [if_pos (.inr rfl)] at m6
                have h' : HK k ws (-1) (seen.set own.toNat (!ex)) who 0 wait page [] := ⟨h.k0, h.k1, m6, m5, by omega, by omega, by rw [List.length_set]; exact h.sl, h.h0, h.h1, Int.le_refl _, by omega, h.q, h.ql, h.p0, h.p1, h.t, h.tl⟩
                rw [if_pos (⟨rfl, rfl, rfl⟩ : true = true ∧ (0 : Int) = 0 ∧ own = own)]
                simp only [Bool.not_true, cond_false, decide_eq_false (show ¬ (0 : Int) < 0 by omega), decide_true, List.length_nil, Nat.zero_add, (blt_iff _ _).2 (show ws.length < 17592186044416 by omega), cond_true, List.nil_append, Option.bind_some, decide_eq_true s0, decide_eq_true (show own < (seen.length : Int) by omega), Bool.and_self, (give_eq h' true ex).1]
              · rw [if_neg (fun h => ho h.2.2)]
                simp only [Bool.not_true, cond_false, decide_eq_false (show ¬ (0 : Int) < 0 by omega), decide_eq_false ho, Bool.not_false, cond_true]
            · rw [if_neg (fun h => hz h.2.1)]
              simp only [Bool.not_true, cond_false, decide_eq_true (show 0 < need by omega), cond_true]
        · simp only [decide_eq_false h5, decide_eq_false h7, cond_false, if_neg h5, if_neg h7]
theorem impl_hear0 {k : Int} {w : List Int} {own : Int} {seen : List Bool} {busy : Bool} {who : Int} {ex : Bool} {need : Int} {wait : List (Int × Bool)} {page : Int} (h : HK k w own seen who need wait page []) (nb : NB own seen busy ex need) (src kind pg : Int) (c : Bool) (ws : List Int) (s0 : 0 ≤ src) (s1 : src ≤ k - 1)
    (hn : ws.length ≤ 1048576) (hm : f_spec_MsgOk kind page c ws = some true) (fl : Bool) (hfl : fl = (decide (kind = 1 ∨ kind = 2) && decide ((wait.length : Int) < 12))) (j1 : Int) (j2 : Bool) (j3 : Int) (j4 : Bool) (j5 : Int) (l1 : List Int) (l2 : List Bool) (l3 : List (Int × Bool)) :
    f_impl_HomeHear.j0 src fl w own seen busy who ex need wait kind pg c ws j1 j2 j3 j4 j5 own busy who ex need page l1 l2 l3 w seen wait [] = some (match hear0 w own seen busy who ex need wait page src kind ws with
      | some s => .inl (j1, j2, j3, j4, j5, s.2.1, s.2.2.2.1, s.2.2.2.2.1, s.2.2.2.2.2.1, s.2.2.2.2.2.2.1, s.2.2.2.2.2.2.2.2.1, l1, l2, l3, s.1, s.2.2.1, s.2.2.2.2.2.2.2.1, s.2.2.2.2.2.2.2.2.2)
      | none => .inr (own, busy, who, ex, need, w, seen, wait)) := by
  have ql := h.ql
  have n0 := h.n0
  have n1 := h.n1
  have hs := h.sl
  have k1 := h.k1
  have k0 := h.k0
  have w4 := h.w4
  have hS : HomeS w seen wait := ⟨by omega, by omega, by omega⟩
  have hc := (copyS w own seen busy who ex need wait hS).2
  have h' : HK k w own seen who 0 wait page [] := ⟨h.k0, h.k1, h.w4, h.ww, h.o0, h.o1, h.sl, h.h0, h.h1, Int.le_refl _, by omega, h.q, h.ql, h.p0, h.p1, h.t, h.tl⟩
  unfold f_impl_HomeHear.j0 hear0
  by_cases h12 : kind = 1 ∨ kind = 2
  · rw [if_pos h12]
    rw [decide_eq_true h12, Bool.true_and] at hfl
    subst hfl
    by_cases hw : wait.length = 12
    · rw [if_pos hw]
      simp only [decide_eq_false (show ¬ (wait.length : Int) < 12 by omega), cond_false, decide_eq_false (show ¬ kind = 5 by omega), decide_eq_false (show ¬ kind = 7 by omega), hc, Option.bind_some]
    · rw [if_neg hw]
      simp only [decide_eq_true (show (wait.length : Int) < 12 by omega), cond_true, List.length_singleton, (blt_iff _ _).2 (show wait.length + 1 < 8796093022208 by omega), Option.bind_some]
  · rw [if_neg h12]
    rw [decide_eq_false h12, Bool.false_and] at hfl
    subst hfl
    simp only [cond_false]
    by_cases h5 : kind = 5
    · rw [if_pos h5]
      simp only [decide_eq_true h5, cond_true, decide_eq_false (show ¬ kind = 7 by omega), cond_false, hc, Option.bind_some]
      cases busy with
      | false => rw [if_neg (fun h => by cases h.1)]; rfl
      | true =>
        by_cases hz : need = 0
        · rw [if_neg (fun h => h.2 hz)]
          simp only [cond_true, decide_eq_false (show ¬ (0 : Int) < need by omega), cond_false]
        · rw [if_pos (⟨rfl, hz⟩ : true = true ∧ need ≠ 0)]
          simp only [cond_true, decide_eq_true (show (0 : Int) < need by omega), w64 (show -9223372036854775808 ≤ need - 1 by omega) (by omega)]
          by_cases hy : need - 1 = 0
          · simp only [hy, decide_true, cond_true, (give_eq h' true ex).2, Option.bind_some, if_true]
          · simp only [decide_eq_false hy, cond_false, if_neg hy]
    · rw [if_neg h5]
      simp only [decide_eq_false h5, cond_false]
      by_cases h7 : kind = 7
      · rw [if_pos h7]
        simp only [decide_eq_true h7, cond_true, hc, Option.bind_some]
        cases busy with
        | false => rw [if_neg (fun h => by cases h.1)]; rfl
        | true =>
          by_cases ho : src = own
          · by_cases hz : need = 0
            · subst h7
              subst hz
              obtain rfl : own = src := ho.symm
              obtain ⟨-, -, -, -, m5, m6⟩ := msgOk_facts _ _ _ _ hn hm
              rw [if_pos (.inr rfl)] at m6
              have h7' : HK k ws (-1) (seen.set own.toNat (!ex)) who 0 wait page [] := ⟨h.k0, h.k1, m6, m5, by omega, by omega, by rw [List.length_set]; exact h.sl, h.h0, h.h1, Int.le_refl _, by omega, h.q, h.ql, h.p0, h.p1, h.t, h.tl⟩
              rw [if_pos (⟨rfl, rfl, rfl⟩ : true = true ∧ (0 : Int) = 0 ∧ own = own)]
              simp only [decide_true, cond_true, f_slices_Clone_int_int, Nat.zero_add, (blt_iff _ _).2 (show ws.length < 17592186044416 by omega), Option.bind_some]
              cases ex with
              | false =>
                simp only [Bool.not_false, cond_true, decide_eq_true s0, decide_eq_true (show own < (seen.length : Int) by omega), Bool.and_self]
                have := (give_eq h7' true false).2
                simp only [Bool.not_false] at this
                simp only [this, Option.bind_some]
              | true =>
                have e := setB_same (nb rfl rfl rfl s0)
                have := (give_eq h7' true true).2
                simp only [Bool.not_true, e] at this
                simp only [Bool.not_true, cond_false, this, Option.bind_some, e]
            · rw [if_neg (fun h => hz h.2.1)]
              simp only [decide_eq_true ho, cond_true, decide_eq_false hz, cond_false]
          · rw [if_neg (fun h => ho h.2.2)]
            simp only [cond_true, decide_eq_false ho, cond_false]
      · rw [if_neg h7]
        simp only [decide_eq_false h7, cond_false, hc, Option.bind_some]
theorem HK_of {x0 : List Int} {x1 : Int} {x2 : List Bool} {x4 x6 : Int} {x7 : List (Int × Bool)} {k : Int} (h : homeOkB x0 x1 x2 x4 x6 x7 k = true) (page : Int) (p0 : 0 ≤ page) (p1 : page ≤ 5) : HK k x0 x1 x2 x4 x6 x7 page [] := by
  unfold homeOkB rng2 at h
  simp only [Bool.and_eq_true, decide_eq_true_eq, List.all_eq_true] at h
  obtain ⟨⟨⟨⟨⟨⟨⟨h1, h2, h3⟩, h4⟩, h5⟩, h6⟩, h7⟩, h8⟩, h9⟩ := h
  exact ⟨h1.1, h1.2, by omega, h2, h4.1, h4.2, h5, h6.1, h6.2, h7.1, h7.2, h9, by omega, p0, p1, fun e he => (by cases he), by simp; omega⟩
theorem HK_to {w : List Int} {own : Int} {seen : List Bool} {who need : Int} {wait : List (Int × Bool)} {page : Int} {told : List ToldT} {k : Int} (h : HK k w own seen who need wait page told) : homeOkB w own seen who need wait k = true := by
  unfold homeOkB rng2
  simp only [Bool.and_eq_true, decide_eq_true_eq, List.all_eq_true]
  have := h.w4
  have := h.ql
  exact ⟨⟨⟨⟨⟨⟨⟨⟨h.k0, h.k1⟩, h.ww, by omega⟩, h.o0, h.o1⟩, h.sl⟩, h.h0, h.h1⟩, h.n0, h.n1⟩, by omega⟩, h.q⟩
abbrev HR := List Int × Int × List Bool × Bool × Int × Bool × Int × List (Int × Bool) × List ToldT
def HearR (x0 : List Int) (x1 : Int) (x2 : List Bool) (x3 : Bool) (x4 : Int) (x5 : Bool) (x6 : Int) (x7 : List (Int × Bool)) (k : Int) (f g : Option HR) : Prop :=
    ∃ r : HR, f = some r ∧ (NB x1 x2 x3 x5 x6 → g = some r) ∧
      (homeOkB x0 x1 x2 x4 x6 x7 k = true → homeOkB r.1 r.2.1 r.2.2.1 r.2.2.2.2.1 r.2.2.2.2.2.2.1 r.2.2.2.2.2.2.2.1 k = true ∧ (SI x1 x2 x3 x4 x5 x6 → SI r.2.1 r.2.2.1 r.2.2.2.1 r.2.2.2.2.1 r.2.2.2.2.2.1 r.2.2.2.2.2.2.1)) ∧
      HomeS r.1 r.2.2.1 r.2.2.2.2.2.2.2.1 ∧ r.2.2.2.2.2.2.2.2.length ≤ 120 ∧ (∀ e ∈ r.2.2.2.2.2.2.2.2, okT k e) ∧ (homeOkB x0 x1 x2 x4 x6 x7 k = false → r.2.2.2.2.2.2.2.2 = [])
theorem same_hear (x0 : List Int) (x1 : Int) (x2 : List Bool) (x3 : Bool) (x4 : Int) (x5 : Bool) (x6 : Int) (x7 : List (Int × Bool)) (k page src kind pg : Int) (c : Bool) (ws : List Int) (hS : HomeS x0 x2 x7) (hn : ws.length ≤ 1048576) :
    HearR x0 x1 x2 x3 x4 x5 x6 x7 k (f_spec_HomeHear x0 x1 x2 x3 x4 x5 x6 x7 k page src kind pg c ws) (f_impl_HomeHear x0 x1 x2 x3 x4 x5 x6 x7 k page src kind pg c ws) := by
  obtain ⟨c1, c2⟩ := copyS x0 x1 x2 x3 x4 x5 x6 x7 hS
  obtain ⟨b, m1, m2⟩ := same_msgOk kind pg c ws hn
  unfold f_spec_HomeHear f_impl_HomeHear
  simp only [c1, c2, specHomeOk x0 x1 x2 x3 x4 x5 x6 x7 k hS, implHomeOk x0 x1 x2 x3 x4 x5 x6 x7 k hS, m1, m2, in_rng2, Option.bind_some]
  have same : ∀ f g : Option HR, f = some (x0, x1, x2, x3, x4, x5, x6, x7, []) → (NB x1 x2 x3 x5 x6 → g = some (x0, x1, x2, x3, x4, x5, x6, x7, [])) → HearR x0 x1 x2 x3 x4 x5 x6 x7 k f g :=
    fun f g hf hg => ⟨_, hf, hg, fun h => ⟨h, fun h => h⟩, hS, Nat.zero_le _, fun e he => (by cases he), fun _ => rfl⟩
  cases hok : homeOkB x0 x1 x2 x4 x6 x7 k with
  | false => simp only [Bool.not_false, cond_true]; exact same _ _ rfl fun _ => rfl
  | true =>
    simp only [Bool.not_true, cond_false]
    cases b with
    | false => simp only [Bool.not_false, cond_true]; exact same _ _ rfl fun _ => rfl
    | true =>
      obtain ⟨f1, f2, p0, p1, -, -⟩ := msgOk_facts _ _ _ _ hn m1
      have hk := HK_of hok pg p0 p1
      have k0 := hk.k0
      have k1 := hk.k1
      simp only [Bool.not_true, cond_false, isOf_rng src k k0 k1, w64 (show -9223372036854775808 ≤ k - 1 by omega) (by omega), Option.bind_some]
      cases hr : rng2 0 src (k - 1) with
      | false => simp only [Bool.not_false, cond_true]; exact same _ _ rfl fun _ => rfl
      | true =>
        unfold rng2 at hr
        simp only [Bool.and_eq_true, decide_eq_true_eq] at hr
        by_cases hp : page = pg
        · subst hp
          simp only [decide_true, Bool.not_true, cond_false, spec_hear0 hk src kind page c ws hr.1 hr.2 hn m1, Option.bind_some]
          have ij := fun nb fl hfl => impl_hear0 hk (busy := x3) (ex := x5) nb src kind page c ws hr.1 hr.2 hn m1 fl hfl 0 false 0 false 0 [] [] []
          have ok0 := fun s => @hear0_ok k x0 x1 x2 x3 x4 x5 x6 x7 page hk src kind c ws hr.1 hr.2 hn m1 s
          generalize hear0 x0 x1 x2 x3 x4 x5 x6 x7 page src kind ws = o at ij ok0
          cases o with
          | none =>
            simp only [Bool.not_false, cond_true]
            refine same _ _ rfl fun nb => ?_
            by_cases k1' : kind = 1
            · simp only [decide_eq_true k1', cond_true, ij nb _ (by rw [decide_eq_true (.inl k1'), Bool.true_and]), Option.bind_some, cs]
            · by_cases k2' : kind = 2
              · simp only [decide_eq_false k1', decide_eq_true k2', cond_true, cond_false, ij nb _ (by rw [decide_eq_true (.inr k2'), Bool.true_and]), Option.bind_some, cs]
              · simp only [decide_eq_false k1', decide_eq_false k2', cond_false, ij nb false (by rw [decide_eq_false (show ¬ (kind = 1 ∨ kind = 2) by omega), Bool.false_and]), Option.bind_some, cs]
          | some s =>
            obtain ⟨a1, a2⟩ := ok0 s rfl
            obtain ⟨s', b1, b2, b3⟩ := hear_loop 0 false 0 false 0 [] [] [] s.2.2.2.2.2.2.2.1.length s.1 s.2.1 s.2.2.1 s.2.2.2.1 s.2.2.2.2.1 s.2.2.2.2.2.1 s.2.2.2.2.2.2.1 s.2.2.2.2.2.2.2.1 s.2.2.2.2.2.2.2.2.1 s.2.2.2.2.2.2.2.2.2 rfl a1
            have hfu := a1.ql
            obtain ⟨d1, d2⟩ := b3 N (Nat.lt_of_le_of_lt hfu (Nat.lt_trans (by omega) big))
            refine ⟨(s'.1, s'.2.1, s'.2.2.1, s'.2.2.2.1, s'.2.2.2.2.1, s'.2.2.2.2.2.1, s'.2.2.2.2.2.2.1, s'.2.2.2.2.2.2.2.1, s'.2.2.2.2.2.2.2.2.2), ?_, fun nb => ?_, fun _ => ⟨HK_to b1, fun si => b2 (a2 si)⟩, ?_, ?_, b1.t, fun h => (by rw [hok] at h; cases h)⟩
            · simp only [Bool.not_true, cond_false, d1, Option.bind_some]
            · by_cases k1' : kind = 1
              · simp only [decide_eq_true k1', cond_true, ij nb _ (by rw [decide_eq_true (.inl k1'), Bool.true_and]), Option.bind_some, cs, d2]
              · by_cases k2' : kind = 2
                · simp only [decide_eq_false k1', decide_eq_true k2', cond_true, cond_false, ij nb _ (by rw [decide_eq_true (.inr k2'), Bool.true_and]), Option.bind_some, cs, d2]
                · simp only [decide_eq_false k1', decide_eq_false k2', cond_false, ij nb false (by rw [decide_eq_false (show ¬ (kind = 1 ∨ kind = 2) by omega), Bool.false_and]), Option.bind_some, cs, d2]
            · have := b1.w4; have := b1.sl; have := b1.ql
              exact ⟨by show s'.1.length ≤ _; omega, by show s'.2.2.1.length ≤ _; omega, by show s'.2.2.2.2.2.2.2.1.length ≤ _; omega⟩
            · have := b1.tl
              show s'.2.2.2.2.2.2.2.2.2.length ≤ 120
              omega
        · simp only [decide_eq_false hp, decide_eq_false (show ¬ pg = page from fun h => hp h.symm), Bool.not_false, cond_true]
          exact same _ _ rfl fun _ => rfl
theorem ix_loop {β : Type} {F : Nat → Int → Option (Bool ⊕ β)} {q : Int → Bool} {b : β} (m : Nat) (hm : m ≤ 1048576) (h0 : ∀ n, F (n + 1) (m : Int) = some (.inr b))
    (h1 : ∀ n (i : Int), 0 ≤ i → i < (m : Int) → F (n + 1) i = bif q i then F n (i + 1) else some (.inl false)) : F N 0 = some (bif (List.range m).all (fun j => q (j : Int)) then .inr b else .inl false) := by
  have step : ∀ (k n j : Nat), j + k = m → k < n → F n (j : Int) = some (bif (List.range' j k).all (fun j => q (j : Int)) then .inr b else .inl false) := by
    intro k
    induction k with
    | zero =>
      intro n j hj hn
      obtain ⟨n, rfl⟩ := succ_fuel hn
      obtain rfl : j = m := by omega
      rw [h0]; rfl
    | succ k ih =>
      intro n j hj hn
      obtain ⟨n, rfl⟩ := succ_fuel hn
      rw [h1 n j (by omega) (by omega), List.range'_succ, List.all_cons]
      cases q (j : Int) with
      | false => rfl
      | true =>
        rw [cond_true, Bool.true_and, show ((j : Int) + 1) = ((j + 1 : Nat) : Int) by omega]
        exact ih n (j + 1) (by omega) (by omega)
  have := step m N 0 (by omega) (Nat.lt_of_le_of_lt hm (Nat.lt_trans (by omega) big))
  rw [← List.range_eq_range'] at this
  exact this
theorem sameInts_loop (x : List Int) (hn : x.length ≤ 1048576) (b : Bool) (d : Nat) : ∀ (n : Nat) (i : Int), 0 ≤ i → i ≤ x.length → (x.length : Int) - i = d → d < n → f_laws_sameInts.l0 n x x b i = some (.inr b) := by
  induction d with
  | zero =>
    intro n i h0 h1 hd hk
    obtain ⟨n, rfl⟩ := succ_fuel hk
    simp only [f_laws_sameInts.l0]
    rw [decide_eq_false (by omega), cond_false]
  | succ d ih =>
    intro n i h0 h1 hd hk
    obtain ⟨n, rfl⟩ := succ_fuel hk
    have hw : IntKind.wrap .i64 (i + 1) = i + 1 := w64 (by omega) (by omega)
    simp only [f_laws_sameInts.l0]
    rw [decide_eq_true (show i < (x.length : Int) by omega), decide_eq_true h0, hw]
    simp only [cond_true, Bool.and_self, decide_true, Bool.not_true, cond_false]
    exact ih n (i + 1) (by omega) (by omega) (by omega) (by omega)
theorem sameInts (x : List Int) (hn : x.length ≤ 1048576) : f_laws_sameInts x x = some true := by
  unfold f_laws_sameInts
  simp only [decide_true, Bool.not_true, cond_false]
  rw [sameInts_loop x hn false x.length N 0 (by omega) (by omega) (by omega) (Nat.lt_of_le_of_lt (by omega) big)]
  rfl
abbrev H8 := List Int × Int × List Bool × Bool × Int × Bool × Int × List (Int × Bool)
theorem all_true (n : Nat) : ((List.range n).all fun _ => true) = true := by simp
theorem sameHome_self (r : H8) (h : HomeS r.1 r.2.2.1 r.2.2.2.2.2.2.2) : f_laws_sameHome r.1 r.2.1 r.2.2.1 r.2.2.2.1 r.2.2.2.2.1 r.2.2.2.2.2.1 r.2.2.2.2.2.2.1 r.2.2.2.2.2.2.2 r.1 r.2.1 r.2.2.1 r.2.2.2.1 r.2.2.2.2.1 r.2.2.2.2.2.1 r.2.2.2.2.2.2.1 r.2.2.2.2.2.2.2 = some true := by
  obtain ⟨x0, x1, x2, x3, x4, x5, x6, x7⟩ := r
  have g0 : x0.length ≤ 1048576 := h.g0
  have g2 : x2.length ≤ 1048576 := h.g2
  have g7 : x7.length ≤ 1048576 := h.g7
  have l0 := ix_loop (F := fun n i => f_laws_sameHome.l0 n false i x0 x1 x2 x3 x4 x5 x6 x7 x0 x1 x2 x3 x4 x5 x6 x7) (q := fun _ => true) (b := (false, x0, x1, x2, x3, x4, x5, x6, x7, x0, x1, x2, x3, x4, x5, x6, x7)) x2.length g2
    (fun n => by simp only [f_laws_sameHome.l0, decide_eq_false (show ¬ (x2.length : Int) < (x2.length : Int) by omega), cond_false])
    (fun n i a0 a1 => by simp only [f_laws_sameHome.l0, decide_eq_true a0, decide_eq_true a1, cond_true, Bool.and_self, beq_self_eq_true, Bool.not_true, cond_false, w64 (show -9223372036854775808 ≤ i + 1 by omega) (by omega)])
  have l1 := ix_loop (F := fun n i => f_laws_sameHome.l1 n false i x0 x1 x2 x3 x4 x5 x6 x7 x0 x1 x2 x3 x4 x5 x6 x7) (q := fun _ => true) (b := false) x7.length g7
    (fun n => by simp only [f_laws_sameHome.l1, decide_eq_false (show ¬ (x7.length : Int) < (x7.length : Int) by omega), cond_false])
    (fun n i a0 a1 => by simp only [f_laws_sameHome.l1, decide_eq_true a0, decide_eq_true a1, cond_true, Bool.and_self, beq_self_eq_true, decide_true, Bool.not_true, cond_false, w64 (show -9223372036854775808 ≤ i + 1 by omega) (by omega)])
  rw [all_true, cond_true] at l0 l1
  unfold f_laws_sameHome
  simp only [decide_true, beq_self_eq_true, Bool.and_self, Bool.not_true, cond_false, sameInts x0 g0, Option.bind_some, l0, l1, cs]
theorem bytes_of (x : List Int) (h : ∀ i, i < x.length → (Lit.int .u8 (x.getD i 0)).wf = true) : ∀ e ∈ x, 0 ≤ e ∧ e ≤ 255 := fun e he => by
  obtain ⟨i, hi, e1⟩ := List.getElem_of_mem he
  have h1 := h i hi
  simp only [Lit.wf, Bool.and_eq_true, decide_eq_true_eq] at h1
  have e2 : x.getD i 0 = e := by rw [List.getD_eq_getElem?_getD, List.getElem?_eq_getElem hi, e1]; rfl
  rw [e2] at h1
  exact h1
/-- What the reference's home answers, told by its loop. -/
theorem hear_ex {w : List Int} {own : Int} {seen : List Bool} {busy : Bool} {who : Int} {ex : Bool} {need : Int} {wait : List (Int × Bool)} (hok : homeOkB w own seen who need wait 3 = true) (hS : HomeS w seen wait) (nb : NB own seen busy ex need) (src kind : Int) (c : Bool) (ws : List Int) (s0 : 0 ≤ src) (s1 : src ≤ 2)
    (hn : ws.length ≤ 1048576) (hm : f_spec_MsgOk kind 0 c ws = some true) {s : KT} (hs : hear0 w own seen busy who ex need wait 0 src kind ws = some s) {r : KT}
    (hl : f_spec_HomeHear.l0 N 0 false 0 false 0 s.2.1 s.2.2.2.1 s.2.2.2.2.1 s.2.2.2.2.2.1 s.2.2.2.2.2.2.1 s.2.2.2.2.2.2.2.2.1 [] [] [] s.1 s.2.2.1 s.2.2.2.2.2.2.2.1 s.2.2.2.2.2.2.2.2.2 = some (0, false, 0, false, 0, r.2.1, r.2.2.2.1, r.2.2.2.2.1, r.2.2.2.2.2.1, r.2.2.2.2.2.2.1, r.2.2.2.2.2.2.2.2.1, [], [], [], r.1, r.2.2.1, r.2.2.2.2.2.2.2.1, r.2.2.2.2.2.2.2.2.2)) :
    f_spec_HomeHear w own seen busy who ex need wait 3 0 src kind 0 c ws = some (r.1, r.2.1, r.2.2.1, r.2.2.2.1, r.2.2.2.2.1, r.2.2.2.2.2.1, r.2.2.2.2.2.2.1, r.2.2.2.2.2.2.2.1, r.2.2.2.2.2.2.2.2.2) ∧
    f_impl_HomeHear w own seen busy who ex need wait 3 0 src kind 0 c ws = some (r.1, r.2.1, r.2.2.1, r.2.2.2.1, r.2.2.2.2.1, r.2.2.2.2.2.1, r.2.2.2.2.2.2.1, r.2.2.2.2.2.2.2.1, r.2.2.2.2.2.2.2.2.2) := by
  have e1 : f_spec_HomeHear w own seen busy who ex need wait 3 0 src kind 0 c ws = some (r.1, r.2.1, r.2.2.1, r.2.2.2.1, r.2.2.2.2.1, r.2.2.2.2.2.1, r.2.2.2.2.2.2.1, r.2.2.2.2.2.2.2.1, r.2.2.2.2.2.2.2.2.2) := by
    obtain ⟨c1, c2⟩ := copyS w own seen busy who ex need wait hS
    unfold f_spec_HomeHear
    have hr : rng2 0 src (3 - 1) = true := by
      unfold rng2
      rw [decide_eq_true s0, decide_eq_true (show src ≤ 3 - 1 by omega)]; rfl
    simp only [c1, specHomeOk w own seen busy who ex need wait 3 hS, hok, hm, in_rng2, Option.bind_some, Bool.not_true, cond_false, w64 (show -9223372036854775808 ≤ (3 : Int) - 1 by omega) (by omega), hr, decide_true, spec_hear0 (HK_of hok 0 (by omega) (by omega)) src kind 0 c ws s0 (show src ≤ 3 - 1 by omega) hn hm, hs, hl]
  obtain ⟨r', f1, f2, _⟩ := same_hear w own seen busy who ex need wait 3 0 src kind 0 c ws hS hn
  rw [f1] at e1
  exact ⟨by rw [f1]; exact e1, by rw [f2 nb]; exact e1⟩
theorem exit_l0 (n : Nat) (own : Int) (seen : List Bool) (busy : Bool) (who : Int) (ex : Bool) (need page : Int) (w : List Int) (wait : List (Int × Bool)) (told : List ToldT) (h : busy = true ∨ wait = []) :
    f_spec_HomeHear.l0 (n + 1) 0 false 0 false 0 own busy who ex need page [] [] [] w seen wait told = some (0, false, 0, false, 0, own, busy, who, ex, need, page, [], [], [], w, seen, wait, told) := by
  simp only [f_spec_HomeHear.l0]
  rcases h with rfl | rfl
  · rfl
  · cases busy <;> rfl
theorem nextB_end (w : List Int) (own : Int) (seen : List Bool) (who : Int) (ex : Bool) (page : Int) (told : List ToldT) : (nextB w own seen who ex 0 [] page told).2.2.2.1 = true ∨ (nextB w own seen who ex 0 [] page told).2.2.2.2.2.2.2.1 = [] := by
  refine .inr ?_
  unfold nextB giveB
  split
  · rfl
  · split
    · split <;> rfl
    · rfl
theorem req_ex {w : List Int} {own : Int} {seen : List Bool} (hok : homeOkB w own seen 0 0 [] 3 = true) (hS : HomeS w seen []) (src kind : Int) (s0 : 0 ≤ src) (s1 : src ≤ 2) (hk : kind = 1 ∨ kind = 2) (hm : f_spec_MsgOk kind 0 false [] = some true) :
    let r := nextB w own seen src (decide (kind = 2)) 0 [] 0 []
    f_spec_HomeHear w own seen false 0 false 0 [] 3 0 src kind 0 false [] = some (r.1, r.2.1, r.2.2.1, r.2.2.2.1, r.2.2.2.2.1, r.2.2.2.2.2.1, r.2.2.2.2.2.2.1, r.2.2.2.2.2.2.2.1, r.2.2.2.2.2.2.2.2.2) ∧
    f_impl_HomeHear w own seen false 0 false 0 [] 3 0 src kind 0 false [] = some (r.1, r.2.1, r.2.2.1, r.2.2.2.1, r.2.2.2.2.1, r.2.2.2.2.2.1, r.2.2.2.2.2.2.1, r.2.2.2.2.2.2.2.1, r.2.2.2.2.2.2.2.2.2) := by
  have h0 : hear0 w own seen false 0 false 0 [] 0 src kind [] = some (w, own, seen, false, 0, false, 0, [(src, decide (kind = 2))], 0, []) := by
    unfold hear0
    rw [if_pos hk]; rfl
  have hK := HK_of hok 0 (by omega) (by omega)
  have hK2 := (hear0_ok hK src kind false [] s0 (show src ≤ 3 - 1 by omega) (by simp) hm h0).1
  refine hear_ex hok hS (fun h => by cases h) src kind false [] s0 s1 (by simp) hm h0 ?_
  have e := (next_eq (k := 3) (i := src) (ex := decide (kind = 2)) (wt := []) hK2 false false).1
  rw [show N = 1152921504606846974 + 1 + 1 from rfl]
  rw [f_spec_HomeHear.l0]
  simp only [Bool.not_false, cond_true, List.length_singleton, decide_eq_true (show (0 : Int) < ((1 : Nat) : Int) by omega), e, Option.bind_some]
  exact exit_l0 _ _ _ _ _ _ _ _ _ _ _ (nextB_end w own seen src (decide (kind = 2)) 0 [])
theorem back_ex {w : List Int} {own : Int} {seen : List Bool} {who : Int} {ex : Bool} (hok : homeOkB w own seen who 0 [] 3 = true) (hS : HomeS w seen []) (hnb : seen.getD own.toNat false = false) (ws : List Int) (c : Bool) (s0 : 0 ≤ own) (s1 : own ≤ 2) (hn : ws.length ≤ 1048576) (hm : f_spec_MsgOk 7 0 c ws = some true) :
    let r := giveB ws (-1) (seen.set own.toNat (!ex)) who ex 0 [] 0 []
    f_spec_HomeHear w own seen true who ex 0 [] 3 0 own 7 0 c ws = some (r.1, r.2.1, r.2.2.1, r.2.2.2.1, r.2.2.2.2.1, r.2.2.2.2.2.1, r.2.2.2.2.2.2.1, r.2.2.2.2.2.2.2.1, r.2.2.2.2.2.2.2.2.2) ∧
    f_impl_HomeHear w own seen true who ex 0 [] 3 0 own 7 0 c ws = some (r.1, r.2.1, r.2.2.1, r.2.2.2.1, r.2.2.2.2.1, r.2.2.2.2.2.1, r.2.2.2.2.2.2.1, r.2.2.2.2.2.2.2.1, r.2.2.2.2.2.2.2.2.2) := by
  refine hear_ex hok hS (fun _ _ _ _ => hnb) own 7 c ws s0 s1 hn hm (s := giveB ws (-1) (seen.set own.toNat (!ex)) who ex 0 [] 0 []) ?_ ?_
  · unfold hear0
    rw [if_neg (by omega), if_neg (by omega), if_pos rfl, if_pos ⟨rfl, rfl, rfl⟩]
  · exact exit_l0 1152921504606846975 _ _ _ _ _ _ _ _ _ _ (.inr rfl)
theorem ack_ex {w : List Int} {own : Int} {seen : List Bool} {who need : Int} {ex : Bool} (hok : homeOkB w own seen who need [] 3 = true) (hS : HomeS w seen []) (hn0 : need ≠ 0) (src : Int) (s0 : 0 ≤ src) (s1 : src ≤ 2) (hm : f_spec_MsgOk 5 0 false [] = some true) :
    let r : KT := if need - 1 = 0 then giveB w own seen who ex 0 [] 0 [] else (w, own, seen, true, who, ex, need - 1, [], 0, [])
    f_spec_HomeHear w own seen true who ex need [] 3 0 src 5 0 false [] = some (r.1, r.2.1, r.2.2.1, r.2.2.2.1, r.2.2.2.2.1, r.2.2.2.2.2.1, r.2.2.2.2.2.2.1, r.2.2.2.2.2.2.2.1, r.2.2.2.2.2.2.2.2.2) ∧
    f_impl_HomeHear w own seen true who ex need [] 3 0 src 5 0 false [] = some (r.1, r.2.1, r.2.2.1, r.2.2.2.1, r.2.2.2.2.1, r.2.2.2.2.2.1, r.2.2.2.2.2.2.1, r.2.2.2.2.2.2.2.1, r.2.2.2.2.2.2.2.2.2) := by
  refine hear_ex hok hS (fun _ h => absurd h hn0) src 5 false [] s0 s1 (by simp) hm (s := if need - 1 = 0 then giveB w own seen who ex 0 [] 0 [] else (w, own, seen, true, who, ex, need - 1, [], 0, [])) ?_ ?_
  · unfold hear0
    rw [if_neg (by omega), if_pos rfl, if_pos ⟨rfl, hn0⟩]
    split <;> rfl
  · refine exit_l0 1152921504606846975 _ _ _ _ _ _ _ _ _ _ (.inr ?_)
    split <;> rfl
/-- What is told, one after the other: the states, the queue. -/
def tell1 (words : List Int) (e : ToldT) (st : List Int) : List Int × List ToldT :=
  if e.2.1 = 3 then (if e.2.2.2.1 = true then (st.set e.1.toNat 1).set e.1.toNat 2 else st.set e.1.toNat 1, [])
  else if e.2.1 = 4 then (st.set e.1.toNat 0, [(e.1, 5, 0, false, [])])
  else if e.2.1 = 6 then (if e.2.2.2.1 = true then (st.set e.1.toNat 1).set e.1.toNat 0 else st.set e.1.toNat 1, [(e.1, 7, 0, false, words)])
  else (st, [])
def tell (words : List Int) : List ToldT → List Int → List Int × List ToldT
  | [], st => (st, [])
  | e :: t, st => ((tell words t (tell1 words e st).1).1, (tell1 words e st).2 ++ (tell words t (tell1 words e st).1).2)
/-- It can be told. -/
def okE (words : List Int) (e : ToldT) : Prop := 0 ≤ e.1 ∧ e.1 ≤ 2 ∧ (e.2.1 = 3 → e.2.2.2.2 = words)
theorem tell1_len (words : List Int) (e : ToldT) (st : List Int) : (tell1 words e st).1.length = st.length ∧ (tell1 words e st).2.length ≤ 1 := by
  unfold tell1
  split
  · split <;> simp
  · split
    · simp
    · split
      · split <;> simp
      · simp
theorem l3_eq (words : List Int) (hw : words.length ≤ 1048576) (c : List Int) (i who own : Int) (busy : Bool) (wh : Int) (ex : Bool) (need : Int) (told : List ToldT) (w : List Int) (seen : List Bool) (wait : List (Int × Bool)) (hl : told.length ≤ 1000) : ∀ (t : List ToldT) (n j : Nat) (st : List Int) (q : List ToldT),
    told.drop j = t → j + t.length = told.length → t.length < n → (∀ e ∈ t, okE words e) → st.length = 3 → q.length + t.length ≤ 2000 →
    f_laws_FnHomeGives.l3 n c words i who (j : Int) own busy wh ex need st q told w seen wait = some (.inr (c, words, i, who, own, busy, wh, ex, need, (tell words t st).1, q ++ (tell words t st).2, w, seen, wait)) := by
  intro t
  induction t with
  | nil =>
    intro n j st q hd hj hn _ _ _
    cases n with
    | zero => simp at hn
    | succ n =>
      simp only [f_laws_FnHomeGives.l3, decide_eq_false (show ¬ (j : Int) < (told.length : Int) by simp at hj; omega), cond_false, tell, List.append_nil]
  | cons e t ih =>
    intro n j st q hd hj hn hok hst hq
    cases n with
    | zero => simp at hn
    | succ n =>
      simp only [List.length_cons] at hj hn hq
      have hje : told.getD (j : Int).toNat (0, 0, 0, false, []) = e := by
        rw [Int.toNat_natCast, List.getD_eq_getElem?_getD]
        have := congrArg List.head? hd
        rw [List.head?_drop] at this
        rw [this]; rfl
      have hd2 : told.drop (j + 1) = t := by
        have := congrArg List.tail hd
        rwa [List.tail_drop] at this
      have hok1 := hok e (.head _)
      obtain ⟨o0, o1, o2⟩ := hok1
      have ih' := fun (st' : List Int) (q' : List ToldT) (a : st'.length = 3) (b : q'.length + t.length ≤ 2000) => ih n (j + 1) st' q' hd2 (by omega) (by omega) (fun e he => hok e (.tail _ he)) a b
      have hw64 : IntKind.wrap .i64 ((j : Int) + 1) = ((j + 1 : Nat) : Int) := by rw [w64 (by omega) (by omega)]; rfl
      have hin : ∀ s' : List Int, s'.length = 3 → ((decide ((0 : Int) ≤ e.1)) && (decide (e.1 < (s'.length : Int)))) = true := fun s' h => by rw [decide_eq_true o0, decide_eq_true (show e.1 < (s'.length : Int) by omega)]; rfl
      rw [f_laws_FnHomeGives.l3]
      simp only [decide_eq_true (show (j : Int) < (told.length : Int) by omega), decide_eq_true (show (0 : Int) ≤ (j : Int) by omega), cond_true, Bool.and_self, hje, hw64, tell]
      obtain ⟨to, kd, pg, x, ws⟩ := e
      by_cases h3 : kd = 3
      · subst h3
        obtain rfl := o2 rfl
        simp only [decide_true, cond_true, sameInts ws hw, Option.bind_some, Bool.not_true, cond_false, hin st hst, tell1, if_true]
        cases x with
        | true => simp only [cond_true, hin _ (show (st.set to.toNat 1).length = 3 by simpa using hst), Option.bind_some, if_true]; rw [ih' _ q (by simpa using hst) (by omega)]; rfl
        | false => simp only [cond_false, Bool.false_eq_true, if_false]; rw [ih' _ q (by simpa using hst) (by omega)]; rfl
      · simp only [decide_eq_false h3, cond_false, tell1, if_neg h3]
        by_cases h4 : kd = 4
        · subst h4
          simp only [decide_true, cond_true, hin st hst, Option.bind_some, if_true, (blt_iff _ _).2 (show q.length + ([(to, 5, 0, false, [])] : List ToldT).length < 2513169434916 by simp; omega)]
          rw [ih' _ _ (by simpa using hst) (by simp; omega), List.append_assoc]
        · simp only [decide_eq_false h4, cond_false, if_neg h4]
          by_cases h6 : kd = 6
          · subst h6
            simp only [decide_true, cond_true, hin st hst, Option.bind_some, if_true, (blt_iff _ _).2 (show q.length + ([(to, 7, 0, false, words)] : List ToldT).length < 2513169434916 by simp; omega)]
            cases x with
            | true => simp only [cond_true, hin _ (show (st.set to.toNat 1).length = 3 by simpa using hst), Option.bind_some, if_true]; rw [ih' _ _ (by simpa using hst) (by simp; omega), List.append_assoc]
            | false => simp only [cond_false, Bool.false_eq_true, if_false]; rw [ih' _ _ (by simpa using hst) (by simp; omega), List.append_assoc]
          · simp only [decide_eq_false h6, cond_false, if_neg h6]
            rw [ih' _ _ hst (by omega)]; rfl
theorem l2_nil (n : Nat) (words : List Int) (c : List Int) (i who off len own : Int) (busy : Bool) (wh : Int) (ex : Bool) (need : Int) (st : List Int) (q : List ToldT) (w : List Int) (seen : List Bool) (wait : List (Int × Bool)) :
    f_laws_FnHomeGives.l2 (n + 1) c words i who off len 0 own busy wh ex need st q [] w seen wait = some (.inr (.inr (c, words, i, who, off, len, own, busy, wh, ex, need, st, q, w, seen, wait))) := by
  simp only [f_laws_FnHomeGives.l2, List.length_nil, decide_eq_false (show ¬ (0 : Int) < ((0 : Nat) : Int) by omega), cond_false]
theorem l2_data (n : Nat) (words : List Int) (hw : words.length ≤ 1048576) (c : List Int) (i who off len own : Int) (busy : Bool) (wh : Int) (ex : Bool) (need : Int) (st : List Int) (q : List ToldT) (w : List Int) (seen : List Bool) (wait : List (Int × Bool)) (to pg : Int) (x : Bool) (t0 : 0 ≤ to) (t1 : to ≤ 2) (hst : st.length = 3) :
    f_laws_FnHomeGives.l2 (n + 2) c words i who off len 0 own busy wh ex need st q [(to, 3, pg, x, words)] w seen wait = some (.inr (.inr (c, words, i, who, off, len, own, busy, wh, ex, need, if x = true then (st.set to.toNat 1).set to.toNat 2 else st.set to.toNat 1, q, w, seen, wait))) := by
  have hin : ∀ s' : List Int, s'.length = 3 → ((decide ((0 : Int) ≤ to)) && (decide (to < (s'.length : Int)))) = true := fun s' h => by rw [decide_eq_true t0, decide_eq_true (show to < (s'.length : Int) by omega)]; rfl
  have e1 : ∀ s', f_laws_FnHomeGives.l2 (n + 1) c words i who off len (IntKind.wrap .i64 (0 + 1)) own busy wh ex need s' q [(to, 3, pg, x, words)] w seen wait = some (.inr (.inr (c, words, i, who, off, len, own, busy, wh, ex, need, s', q, w, seen, wait))) := fun s' => by
    rw [w64 (show -9223372036854775808 ≤ (0 : Int) + 1 by omega) (by omega)]
    simp only [f_laws_FnHomeGives.l2, List.length_singleton, decide_eq_false (show ¬ (0 : Int) + 1 < ((1 : Nat) : Int) by omega), cond_false]
  rw [f_laws_FnHomeGives.l2]
  simp only [List.length_singleton, decide_eq_true (show (0 : Int) < ((1 : Nat) : Int) by omega), cond_true, Int.le_refl, decide_true, Bool.and_self, Int.toNat_zero, List.getD_cons_zero, sameInts words hw, Option.bind_some, Bool.not_true, cond_false, hin st hst]
  cases x with
  | true => simp only [cond_true, hin _ (show (st.set to.toNat 1).length = 3 by simpa using hst), Option.bind_some, if_true]; exact e1 _
  | false => simp only [cond_false, Bool.false_eq_true, if_false]; exact e1 _
theorem l2_app (n : Nat) (words : List Int) (c : List Int) (i who off len own : Int) (busy : Bool) (wh : Int) (ex : Bool) (need : Int) (st : List Int) (q : List ToldT) (w : List Int) (seen : List Bool) (wait : List (Int × Bool)) (e : ToldT) (t : List ToldT) (t0 : 0 ≤ e.1) (t1 : e.1 ≤ 2) (hk : e.2.1 = 4 ∨ e.2.1 = 6) (hst : st.length = 3)
    (hl : t.length ≤ 1000) (h0 : 0 ≤ off) (hv : off + len = (q.length : Int)) (hq : q.length ≤ 1000) :
    f_laws_FnHomeGives.l2 (n + 1) c words i who off len 0 own busy wh ex need st q (e :: t) w seen wait = some (.inr (.inl (c, words, i, who, 1, own, busy, wh, ex, need, (tell1 words e st).1, (q.drop off.toNat).take len.toNat ++ (tell1 words e st).2, e :: t, w, seen, wait))) := by
  have hin : ∀ s' : List Int, s'.length = 3 → ((decide ((0 : Int) ≤ e.1)) && (decide (e.1 < (s'.length : Int)))) = true := fun s' h => by rw [decide_eq_true t0, decide_eq_true (show e.1 < (s'.length : Int) by omega)]; rfl
  have hb : ∀ x : ToldT, Nat.blt (((q.drop off.toNat).take len.toNat).length + ([x] : List ToldT).length) 2513169434916 = true := fun x => by
    refine (blt_iff _ _).2 ?_
    simp only [List.length_take, List.length_drop, List.length_singleton]
    omega
  rw [f_laws_FnHomeGives.l2]
  simp only [decide_eq_true (show (0 : Int) < (((e :: t).length : Nat) : Int) by simp only [List.length_cons]; omega), cond_true, Int.le_refl, decide_true, Bool.and_self, Int.toNat_zero, List.getD_cons_zero, w64 (show -9223372036854775808 ≤ (0 : Int) + 1 by omega) (by omega)]
  obtain ⟨to, kd, pg, x, ws⟩ := e
  rcases hk with hk | hk
  · have hk : kd = 4 := hk
    subst hk
    simp only [decide_eq_false (show ¬ (4 : Int) = 3 by omega), cond_false, decide_true, cond_true, hin st hst, Option.bind_some, decide_eq_true h0, decide_eq_true hv, Bool.and_self, hb, tell1, if_neg (show ¬ (4 : Int) = 3 by omega), if_true]
    rfl
  · have hk : kd = 6 := hk
    subst hk
    simp only [decide_eq_false (show ¬ (6 : Int) = 3 by omega), decide_eq_false (show ¬ (6 : Int) = 4 by omega), cond_false, decide_true, cond_true, hin st hst, Option.bind_some, decide_eq_true h0, decide_eq_true hv, Bool.and_self, hb, tell1, if_neg (show ¬ (6 : Int) = 3 by omega), if_neg (show ¬ (6 : Int) = 4 by omega), if_true]
    cases x with
    | true => simp only [cond_true, hin _ (show (st.set to.toNat 1).length = 3 by simpa using hst), Option.bind_some, if_true, hb]; rfl
    | false => simp only [cond_false, Bool.false_eq_true, if_false, hb]; rfl
/-- What a home answers, as the round takes it. -/
abbrev HRes := List Int × Int × List Bool × Bool × Int × Bool × Int × List (Int × Bool) × List ToldT
def Hears (w : List Int) (own : Int) (seen : List Bool) (busy : Bool) (wh : Int) (ex : Bool) (need : Int) (wait : List (Int × Bool)) (e : ToldT) (r : HRes) : Prop :=
  f_spec_HomeHear w own seen busy wh ex need wait 3 0 e.1 e.2.1 e.2.2.1 e.2.2.2.1 e.2.2.2.2 = some r ∧ f_impl_HomeHear w own seen busy wh ex need wait 3 0 e.1 e.2.1 e.2.2.1 e.2.2.2.1 e.2.2.2.2 = some r ∧ HomeS r.1 r.2.2.1 r.2.2.2.2.2.2.2.1
theorem n2 : N = 1152921504606846974 + 2 := rfl
theorem n1 : N = 1152921504606846975 + 1 := rfl
/-- Nothing is added to the queue. -/
def quiet (words : List Int) (told : List ToldT) (st st' : List Int) : Prop :=
  (told = [] ∧ st' = st) ∨ ∃ to pg x, told = [(to, 3, pg, x, words)] ∧ 0 ≤ to ∧ to ≤ 2 ∧ st' = if x = true then (st.set to.toNat 1).set to.toNat 2 else st.set to.toNat 1
theorem l2_quiet (words : List Int) (hw : words.length ≤ 1048576) (c : List Int) (i who off len own : Int) (busy : Bool) (wh : Int) (ex : Bool) (need : Int) (st st' : List Int) (q told : List ToldT) (w : List Int) (seen : List Bool) (wait : List (Int × Bool)) (hst : st.length = 3) (h : quiet words told st st') :
    f_laws_FnHomeGives.l2 N c words i who off len 0 own busy wh ex need st q told w seen wait = some (.inr (.inr (c, words, i, who, off, len, own, busy, wh, ex, need, st', q, w, seen, wait))) := by
  rcases h with ⟨rfl, rfl⟩ | ⟨to, pg, x, rfl, h1, h2, rfl⟩
  · rw [n1]; exact l2_nil _ _ _ _ _ _ _ _ _ _ _ _ _ _ _ _ _
  · rw [n2]; exact l2_data _ _ hw _ _ _ _ _ _ _ _ _ _ _ _ _ _ _ _ _ _ h1 h2 hst
theorem r4_quiet (n : Nat) (words : List Int) (hw : words.length ≤ 1048576) (c : List Int) (i who off len own : Int) (busy : Bool) (wh : Int) (ex : Bool) (need : Int) (st st' : List Int) (q : List ToldT) (w : List Int) (seen : List Bool) (wait : List (Int × Bool)) (hst : st.length = 3) (hl : 0 < len) (e : ToldT) (he : q.getD off.toNat (0, 0, 0, false, []) = e) {r : HRes} (hh : Hears w own seen busy wh ex need wait e r) (hq : quiet words r.2.2.2.2.2.2.2.2 st st') :
    f_laws_FnHomeGives.l4 (n + 1) c words i who off len own busy wh ex need st q w seen wait = f_laws_FnHomeGives.l4 n c words i who (off + 1) (len - 1) r.2.1 r.2.2.2.1 r.2.2.2.2.1 r.2.2.2.2.2.1 r.2.2.2.2.2.2.1 st' q r.1 r.2.2.1 r.2.2.2.2.2.2.2.1 := by
  obtain ⟨h1, h2, h3⟩ := hh
  rw [f_laws_FnHomeGives.l4]
  simp only [decide_eq_true hl, decide_eq_true (show (1 : Int) ≤ len by omega), cond_true, Int.add_zero, he, h1, h2, Option.bind_some, sameHome_self (r.1, r.2.1, r.2.2.1, r.2.2.2.1, r.2.2.2.2.1, r.2.2.2.2.2.1, r.2.2.2.2.2.2.1, r.2.2.2.2.2.2.2.1) h3, Bool.not_true, cond_false, l2_quiet words hw _ _ _ _ _ _ _ _ _ _ st st' _ _ _ _ _ hst hq, cs]
theorem r1_quiet (n : Nat) (words : List Int) (hw : words.length ≤ 1048576) (c : List Int) (i who own : Int) (busy : Bool) (wh : Int) (ex : Bool) (need : Int) (st st' : List Int) (e : ToldT) (q : List ToldT) (w : List Int) (seen : List Bool) (wait : List (Int × Bool)) (hst : st.length = 3) {r : HRes} (hh : Hears w own seen busy wh ex need wait e r) (hq : quiet words r.2.2.2.2.2.2.2.2 st st') :
    f_laws_FnHomeGives.l1 (n + 1) c words i who own busy wh ex need st (e :: q) w seen wait = some (.inr (.inl (c, words, i, who, 1, (q.length : Int), r.2.1, r.2.2.2.1, r.2.2.2.2.1, r.2.2.2.2.2.1, r.2.2.2.2.2.2.1, st', e :: q, r.1, r.2.2.1, r.2.2.2.2.2.2.2.1))) := by
  obtain ⟨h1, h2, h3⟩ := hh
  have hlen : (((e :: q).length : Nat) : Int) - 1 = (q.length : Int) := by simp only [List.length_cons]; omega
  rw [f_laws_FnHomeGives.l1]
  simp only [decide_eq_true (show (0 : Int) < (((e :: q).length : Nat) : Int) by simp only [List.length_cons]; omega), decide_eq_true (show (1 : Int) ≤ (((e :: q).length : Nat) : Int) by simp only [List.length_cons]; omega), cond_true, List.getD_cons_zero, h1, h2, Option.bind_some, sameHome_self (r.1, r.2.1, r.2.2.1, r.2.2.2.1, r.2.2.2.2.1, r.2.2.2.2.2.1, r.2.2.2.2.2.2.1, r.2.2.2.2.2.2.2.1) h3, Bool.not_true, cond_false, hlen, l2_quiet words hw _ _ _ _ _ _ _ _ _ _ st st' _ _ _ _ _ hst hq, cs]
theorem r1_app (n : Nat) (words : List Int) (hw : words.length ≤ 1048576) (c : List Int) (i who own : Int) (busy : Bool) (wh : Int) (ex : Bool) (need : Int) (st : List Int) (e : ToldT) (w : List Int) (seen : List Bool) (wait : List (Int × Bool)) (hst : st.length = 3) {r : HRes} (hh : Hears w own seen busy wh ex need wait e r) {e' : ToldT} {t : List ToldT} (ht : r.2.2.2.2.2.2.2.2 = e' :: t) (hk : e'.2.1 = 4 ∨ e'.2.1 = 6) (hok : ∀ x ∈ e' :: t, okE words x) (hl : t.length ≤ 100) :
    f_laws_FnHomeGives.l1 (n + 1) c words i who own busy wh ex need st [e] w seen wait = f_laws_FnHomeGives.l1 n c words i who r.2.1 r.2.2.2.1 r.2.2.2.2.1 r.2.2.2.2.2.1 r.2.2.2.2.2.2.1 (tell words (e' :: t) st).1 (tell words (e' :: t) st).2 r.1 r.2.2.1 r.2.2.2.2.2.2.2.1 := by
  obtain ⟨h1, h2, h3⟩ := hh
  obtain ⟨o0, o1, _⟩ := hok e' (.head _)
  have e2 : f_laws_FnHomeGives.l2 N c words i who 1 0 0 r.2.1 r.2.2.2.1 r.2.2.2.2.1 r.2.2.2.2.2.1 r.2.2.2.2.2.2.1 st [e] (e' :: t) r.1 r.2.2.1 r.2.2.2.2.2.2.2.1 = _ := l2_app 1152921504606846975 words c i who 1 0 r.2.1 r.2.2.2.1 r.2.2.2.2.1 r.2.2.2.2.2.1 r.2.2.2.2.2.2.1 st [e] r.1 r.2.2.1 r.2.2.2.2.2.2.2.1 e' t o0 o1 hk hst (by omega) (by omega) (by simp) (by simp)
  have e3 := l3_eq words hw c i who r.2.1 r.2.2.2.1 r.2.2.2.2.1 r.2.2.2.2.2.1 r.2.2.2.2.2.2.1 (e' :: t) r.1 r.2.2.1 r.2.2.2.2.2.2.2.1 (by simp only [List.length_cons]; omega) t N 1 (tell1 words e' st).1 ((([e] : List ToldT).drop (1 : Int).toNat).take (0 : Int).toNat ++ (tell1 words e' st).2) rfl (by simp only [List.length_cons]; omega) (by rw [n1]; omega) (fun x hx => hok x (.tail _ hx)) (by rw [(tell1_len words e' st).1]; exact hst) (by have := (tell1_len words e' st).2; simp only [Int.toNat_zero, List.take_zero, List.nil_append]; omega)
  rw [show ((1 : Nat) : Int) = 1 from rfl] at e3
  rw [f_laws_FnHomeGives.l1]
  simp only [List.length_singleton, decide_eq_true (show (0 : Int) < ((1 : Nat) : Int) by omega), decide_eq_true (show (1 : Int) ≤ ((1 : Nat) : Int) by omega), cond_true, List.getD_cons_zero, h1, h2, ht, Option.bind_some, sameHome_self (r.1, r.2.1, r.2.2.1, r.2.2.2.1, r.2.2.2.2.1, r.2.2.2.2.2.1, r.2.2.2.2.2.2.1, r.2.2.2.2.2.2.2.1) h3, Bool.not_true, cond_false, show ((1 : Nat) : Int) - 1 = 0 from rfl, e2, cs, e3]
  rfl
theorem l4_end (n : Nat) (words : List Int) (c : List Int) (i who off own : Int) (busy : Bool) (wh : Int) (ex : Bool) (need : Int) (st : List Int) (q : List ToldT) (w : List Int) (seen : List Bool) (wait : List (Int × Bool)) :
    f_laws_FnHomeGives.l4 (n + 1) c words i who off 0 own busy wh ex need st q w seen wait = some (.inr (c, words, i, who, own, busy, wh, ex, need, st, w, seen, wait)) := by
  simp only [f_laws_FnHomeGives.l4, decide_eq_false (show ¬ (0 : Int) < 0 by omega), cond_false]
theorem hk3 {w : List Int} {own who need : Int} {seen : List Bool} (w4 : w.length = 4) (ww : allW w = true) (o0 : -1 ≤ own) (o1 : own ≤ 2) (sl : seen.length = 3) (h0 : 0 ≤ who) (h1 : who ≤ 2) (n0 : 0 ≤ need) (n1 : need ≤ 3) : homeOkB w own seen who need [] 3 = true :=
  HK_to (page := 0) (told := []) ⟨by omega, by omega, w4, ww, o0, by omega, by omega, h0, by omega, n0, n1, fun e he => (by cases he), by simp, by omega, by omega, fun e he => (by cases he), by simp⟩
theorem hs3 {w : List Int} {seen : List Bool} (w4 : w.length = 4) (sl : seen.length = 3) : HomeS w seen [] := ⟨by omega, by omega, Nat.zero_le _⟩
theorem msg0 (kind : Int) (hk : kind = 1 ∨ kind = 2 ∨ kind = 5) : f_spec_MsgOk kind 0 false [] = some true := by
  have h2 : f_spec_l1In 0 0 5 = some true := rfl
  have h3 : f_spec_l1Words [] 0 = some true := by rw [specWords [] (by simp)]; rfl
  rcases hk with rfl | rfl | rfl
  · have h1 : f_spec_l1In 1 1 7 = some true := rfl
    unfold f_spec_MsgOk
    simp only [decide_eq_false (show ¬ (1 : Int) = 3 by omega), decide_eq_false (show ¬ (1 : Int) = 6 by omega), decide_eq_false (show ¬ (1 : Int) = 7 by omega), cond_false, cond_true, h1, h2, h3, Option.bind_some, Bool.not_false, List.length_nil]
    try rfl
  · have h1 : f_spec_l1In 2 1 7 = some true := rfl
    unfold f_spec_MsgOk
    simp only [decide_eq_false (show ¬ (2 : Int) = 3 by omega), decide_eq_false (show ¬ (2 : Int) = 6 by omega), decide_eq_false (show ¬ (2 : Int) = 7 by omega), cond_false, cond_true, h1, h2, h3, Option.bind_some, Bool.not_false, List.length_nil]
    try rfl
  · have h1 : f_spec_l1In 5 1 7 = some true := rfl
    unfold f_spec_MsgOk
    simp only [decide_eq_false (show ¬ (5 : Int) = 3 by omega), decide_eq_false (show ¬ (5 : Int) = 6 by omega), decide_eq_false (show ¬ (5 : Int) = 7 by omega), cond_false, cond_true, h1, h2, h3, Option.bind_some, Bool.not_false, List.length_nil]
    try rfl
theorem msg7 (w : List Int) (h4 : w.length = 4) (hw : allW w = true) : f_spec_MsgOk 7 0 false w = some true := by
  unfold f_spec_MsgOk
  have h1 : f_spec_l1In 7 1 7 = some true := rfl
  have h2 : f_spec_l1In 0 0 5 = some true := rfl
  simp only [decide_eq_false (show ¬ (7 : Int) = 3 by omega), decide_eq_false (show ¬ (7 : Int) = 6 by omega), decide_true, cond_true, cond_false, h1, h2, Option.bind_some, specWords w (by omega), hw, h4, Bool.true_and, Bool.not_false]
  rfl
/-- The queue is worked off. -/
def DoneQ (words c : List Int) (i who own : Int) (st : List Int) (q : List ToldT) (w : List Int) (seen : List Bool) (own' : Int) (st' w' : List Int) (seen' : List Bool) : Prop :=
  ∃ (off len o1 : Int) (b1 : Bool) (h1 : Int) (x1 : Bool) (n1 : Int) (s1 : List Int) (q1 : List ToldT) (w1 : List Int) (e1 : List Bool) (t1 : List (Int × Bool)), f_laws_FnHomeGives.l1 N c words i who own false 0 false 0 st q w seen [] = some (.inr (.inl (c, words, i, who, off, len, o1, b1, h1, x1, n1, s1, q1, w1, e1, t1))) ∧ f_laws_FnHomeGives.l4 N c words i who off len o1 b1 h1 x1 n1 s1 q1 w1 e1 t1 = some (.inr (c, words, i, who, own', false, 0, false, 0, st', w', seen', []))
/-- To one that asks: 1, or 2 if it is to write. -/
def gave (who : Int) (ex : Bool) (st : List Int) : List Int := if ex = true then (st.set who.toNat 1).set who.toNat 2 else st.set who.toNat 1
theorem gave_quiet (words : List Int) (who : Int) (ex : Bool) (st : List Int) (h0 : 0 ≤ who) (h1 : who ≤ 2) : quiet words [(who, 3, 0, ex, words)] st (gave who ex st) := .inr ⟨who, 0, ex, rfl, h0, h1, rfl⟩
/-- A request that is answered at once. -/
theorem done_now {words : List Int} (w4 : words.length = 4) (c : List Int) (i : Int) {who own : Int} {seen : List Bool} {st w : List Int} {kind : Int} {ex : Bool} (hst : st.length = 3) (h0 : 0 ≤ who) (h1 : who ≤ 2) {own' : Int} {seen' : List Bool}
    (hh : Hears w own seen false 0 false 0 [] (who, kind, 0, false, []) (words, own', seen', false, 0, false, 0, [], [(who, 3, 0, ex, words)])) :
    DoneQ words c i who own st [(who, kind, 0, false, [])] w seen own' (gave who ex st) words seen' :=
  ⟨1, 0, own', false, 0, false, 0, gave who ex st, [(who, kind, 0, false, [])], words, seen', [], r1_quiet 1152921504606846975 words (by omega) c i who own false 0 false 0 st _ _ [] w seen [] hst hh (gave_quiet words who ex st h0 h1), l4_end 1152921504606846975 _ _ _ _ _ _ _ _ _ _ _ _ _ _ _⟩
theorem hears_req {w : List Int} {own : Int} {seen : List Bool} (hok : homeOkB w own seen 0 0 [] 3 = true) (hS : HomeS w seen []) {who kind : Int} (h0 : 0 ≤ who) (h1 : who ≤ 2) (hk : kind = 1 ∨ kind = 2) {r : HRes} {page : Int} (e : nextB w own seen who (decide (kind = 2)) 0 [] 0 [] = (r.1, r.2.1, r.2.2.1, r.2.2.2.1, r.2.2.2.2.1, r.2.2.2.2.2.1, r.2.2.2.2.2.2.1, r.2.2.2.2.2.2.2.1, page, r.2.2.2.2.2.2.2.2)) (hr : HomeS r.1 r.2.2.1 r.2.2.2.2.2.2.2.1) :
    Hears w own seen false 0 false 0 [] (who, kind, 0, false, []) r := by
  have h := req_ex hok hS who kind h0 h1 hk (msg0 kind (hk.elim .inl (fun h => .inr (.inl h))))
  rw [e] at h
  exact ⟨h.1, h.2, hr⟩
theorem hears_back {w : List Int} {own : Int} {seen : List Bool} {who : Int} {ex : Bool} (hok : homeOkB w own seen who 0 [] 3 = true) (hS : HomeS w seen []) (hnb : seen.getD own.toNat false = false) {words : List Int} (w4 : words.length = 4) (ww : allW words = true) (s0 : 0 ≤ own) (s1 : own ≤ 2) {seen' : List Bool} (hs : (seen.set own.toNat (!ex)).set who.toNat (!ex) = seen') (hr : HomeS words seen' []) :
    Hears w own seen true who ex 0 [] (own, 7, 0, false, words) (words, if ex = true then who else -1, seen', false, 0, false, 0, [], [(who, 3, 0, ex, words)]) := by
  have h := back_ex (who := who) (ex := ex) hok hS hnb words false s0 s1 (by omega) (msg7 words w4 ww)
  subst hs
  exact ⟨h.1, h.2, hr⟩
theorem hears_last {w : List Int} {own : Int} {seen : List Bool} {who : Int} (hok : homeOkB w own seen who 1 [] 3 = true) (hS : HomeS w seen []) {src : Int} (s0 : 0 ≤ src) (s1 : src ≤ 2) (hr : HomeS w (seen.set who.toNat false) []) :
    Hears w own seen true who true 1 [] (src, 5, 0, false, []) (w, who, seen.set who.toNat false, false, 0, false, 0, [], [(who, 3, 0, true, w)]) := by
  have h := ack_ex (who := who) (ex := true) hok hS (by omega) src s0 s1 (msg0 5 (.inr (.inr rfl)))
  rw [if_pos (show (1 : Int) - 1 = 0 from rfl)] at h
  exact ⟨h.1, h.2, hr⟩
theorem hears_one {w : List Int} {own : Int} {seen : List Bool} {who : Int} (hok : homeOkB w own seen who 2 [] 3 = true) (hS : HomeS w seen []) {src : Int} (s0 : 0 ≤ src) (s1 : src ≤ 2) :
    Hears w own seen true who true 2 [] (src, 5, 0, false, []) (w, own, seen, true, who, true, 1, [], []) := by
  have h := ack_ex (who := who) (ex := true) hok hS (by omega) src s0 s1 (msg0 5 (.inr (.inr rfl)))
  rw [if_neg (show ¬ (2 : Int) - 1 = 0 by omega)] at h
  exact ⟨h.1, h.2, hS⟩
/-- The owner gives it back. -/
def took (own : Int) (ex : Bool) (st : List Int) : List Int := if ex = true then (st.set own.toNat 1).set own.toNat 0 else st.set own.toNat 1
theorem took_len (own : Int) (ex : Bool) (st : List Int) : (took own ex st).length = st.length := by unfold took; split <;> simp
theorem tell_fetch (words : List Int) (own : Int) (ex : Bool) (st : List Int) : tell words [(own, 6, 0, ex, [])] st = (took own ex st, [(own, 7, 0, false, words)]) := by
  simp only [tell, tell1, if_neg (show ¬ (6 : Int) = 3 by omega), if_neg (show ¬ (6 : Int) = 4 by omega), if_true, List.append_nil]
  rfl
theorem tell_gone (words : List Int) (to : Int) (t : List ToldT) (st : List Int) : tell words ((to, 4, 0, false, []) :: t) st = ((tell words t (st.set to.toNat 0)).1, (to, 5, 0, false, []) :: (tell words t (st.set to.toNat 0)).2) := by
  simp only [tell, tell1, if_neg (show ¬ (4 : Int) = 3 by omega), if_true, List.singleton_append]
theorem done_owner {words w : List Int} (w4 : words.length = 4) (ww : allW words = true) (v4 : w.length = 4) (vw : allW w = true) (c : List Int) (i : Int) {who own : Int} {seen : List Bool} {st : List Int} {kind : Int} (hk : kind = 1 ∨ kind = 2) (hst : st.length = 3) (h0 : 0 ≤ who) (h1 : who ≤ 2) (o0 : 0 ≤ own) (o1 : own ≤ 2) (sl : seen.length = 3) (hf : seen.getD own.toNat false = false) :
    DoneQ words c i who own st [(who, kind, 0, false, [])] w seen (if decide (kind = 2) = true then who else -1) (gave who (decide (kind = 2)) (took own (decide (kind = 2)) st)) words ((seen.set own.toNat (!(decide (kind = 2)))).set who.toNat (!(decide (kind = 2)))) := by
  have hS := hs3 v4 sl
  have a1 : Hears w own seen false 0 false 0 [] (who, kind, 0, false, []) (w, own, seen, true, who, decide (kind = 2), 0, [], [(own, 6, 0, decide (kind = 2), [])]) := by
    refine hears_req (hk3 v4 vw (by omega) o1 sl (by omega) (by omega) (by omega) (by omega)) hS h0 h1 hk (page := 0) ?_ hS
    unfold nextB
    rw [if_pos o0]
    rfl
  generalize decide (kind = 2) = ex at a1 ⊢
  have a2 := hears_back (w := w) (who := who) (ex := ex) (hk3 v4 vw (by omega) o1 sl h0 h1 (by omega) (by omega)) hS hf w4 ww o0 o1 rfl (hs3 w4 (by simp only [List.length_set]; exact sl))
  have b1 := r1_app 1152921504606846975 words (by omega) c i who own false 0 false 0 st (who, kind, 0, false, []) w seen [] hst a1 (e' := (own, 6, 0, ex, [])) (t := []) rfl (.inr rfl) (fun x hx => by rw [List.mem_singleton.1 hx]; exact ⟨o0, o1, fun h => absurd h (by show ¬ (6 : Int) = 3; omega)⟩) (Nat.zero_le _)
  rw [tell_fetch] at b1
  have b2 := r1_quiet 1152921504606846974 words (by omega) c i who own true who ex 0 (took own ex st) _ _ [] w seen [] (by rw [took_len]; exact hst) a2 (gave_quiet words who ex (took own ex st) h0 h1)
  exact ⟨_, _, _, _, _, _, _, _, _, _, _, _, b1.trans b2, l4_end 1152921504606846975 _ _ _ _ _ _ _ _ _ _ _ _ _ _ _⟩
/-- Those who read give it up. -/
theorem done_gone {words : List Int} (w4 : words.length = 4) (ww : allW words = true) (c : List Int) (i : Int) {who : Int} {seen : List Bool} {st : List Int} (hst : st.length = 3) (h0 : 0 ≤ who) (h1 : who ≤ 2) (sl : seen.length = 3) (hm : (scanL who 0 0 seen).2.length ≠ 0) (hm2 : (scanL who 0 0 seen).2.length ≤ 2) :
    DoneQ words c i who (-1) st [(who, 2, 0, false, [])] words seen who (gave who true (tell words (scanL who 0 0 seen).2 st).1) words ((scanL who 0 0 seen).1.set who.toNat false) := by
  have hS := hs3 w4 sl
  have sm := scanL_mem who 0 seen 0
  have s1l : (scanL who 0 0 seen).1.length = 3 := by rw [(scanL_len who 0 seen 0).1]; exact sl
  have hS1 := hs3 (w := words) w4 s1l
  have a1 : Hears words (-1) seen false 0 false 0 [] (who, 2, 0, false, []) (words, -1, (scanL who 0 0 seen).1, true, who, true, ((scanL who 0 0 seen).2.length : Int), [], (scanL who 0 0 seen).2) := by
    refine hears_req (hk3 w4 ww (by omega) (by omega) sl (by omega) (by omega) (by omega) (by omega)) hS h0 h1 (.inr rfl) (page := 0) ?_ hS1
    unfold nextB
    rw [if_neg (by omega), if_pos (show decide ((2 : Int) = 2) = true from rfl), if_neg hm]
    rfl
  generalize (scanL who 0 0 seen).1 = seen1 at *
  generalize (scanL who 0 0 seen).2 = m at *
  have hS2 := hs3 (w := words) (seen := seen1.set who.toNat false) w4 (by rw [List.length_set]; exact s1l)
  have hok1 : homeOkB words (-1) seen1 who 1 [] 3 = true := hk3 w4 ww (by omega) (by omega) s1l h0 h1 (by omega) (by omega)
  have hok2 : homeOkB words (-1) seen1 who 2 [] 3 = true := hk3 w4 ww (by omega) (by omega) s1l h0 h1 (by omega) (by omega)
  have shape : ∀ e ∈ m, ∃ to : Int, e = (to, 4, 0, false, []) ∧ 0 ≤ to ∧ to ≤ 2 := fun e he => by
    obtain ⟨x0, x1, x2⟩ := sm e he
    exact ⟨e.1, by rw [← x2], x0, by omega⟩
  have okM : ∀ e ∈ m, okE words e := fun e he => by
    obtain ⟨to, rfl, x0, x1⟩ := shape e he
    exact ⟨x0, x1, fun h => absurd h (by show ¬ (4 : Int) = 3; omega)⟩
  match m, hm, hm2, a1, shape, okM with
  | [], hm, _, _, _, _ => exact absurd rfl hm
  | [e1], _, _, a1, shape, okM =>
    obtain ⟨to, rfl, x0, x1⟩ := shape e1 (.head _)
    have b1 := r1_app 1152921504606846975 words (by omega) c i who (-1) false 0 false 0 st (who, 2, 0, false, []) words seen [] hst a1 (e' := (to, 4, 0, false, [])) (t := []) rfl (.inl rfl) okM (Nat.zero_le _)
    rw [tell_gone] at b1 ⊢
    simp only [tell] at b1 ⊢
    have a2 := hears_last hok1 hS1 x0 x1 hS2
    have b2 := r1_quiet 1152921504606846974 words (by omega) c i who (-1) true who true 1 (st.set to.toNat 0) _ _ [] words seen1 [] (by rw [List.length_set]; exact hst) a2 (gave_quiet words who true (st.set to.toNat 0) h0 h1)
    exact ⟨_, _, _, _, _, _, _, _, _, _, _, _, b1.trans b2, l4_end 1152921504606846975 _ _ _ _ _ _ _ _ _ _ _ _ _ _ _⟩
  | [e1, e2], _, _, a1, shape, okM =>
    obtain ⟨to, rfl, x0, x1⟩ := shape e1 (.head _)
    obtain ⟨to2, rfl, y0, y1⟩ := shape e2 (.tail _ (.head _))
    have b1 := r1_app 1152921504606846975 words (by omega) c i who (-1) false 0 false 0 st (who, 2, 0, false, []) words seen [] hst a1 (e' := (to, 4, 0, false, [])) (t := [(to2, 4, 0, false, [])]) rfl (.inl rfl) okM (by simp)
    rw [tell_gone, tell_gone] at b1 ⊢
    simp only [tell] at b1 ⊢
    have hst' : ((st.set to.toNat 0).set to2.toNat 0).length = 3 := by simp only [List.length_set]; exact hst
    have a2 := hears_one hok2 hS1 x0 x1
    have b2 := r1_quiet 1152921504606846974 words (by omega) c i who (-1) true who true 2 ((st.set to.toNat 0).set to2.toNat 0) ((st.set to.toNat 0).set to2.toNat 0) _ [(to2, 5, 0, false, [])] words seen1 [] hst' a2 (.inl ⟨rfl, rfl⟩)
    have a3 := hears_last hok1 hS1 y0 y1 hS2
    have b3 := r4_quiet 1152921504606846975 words (by omega) c i who 1 1 (-1) true who true 1 ((st.set to.toNat 0).set to2.toNat 0) _ [(to, 5, 0, false, []), (to2, 5, 0, false, [])] words seen1 [] hst' (by omega) _ rfl a3 (gave_quiet words who true ((st.set to.toNat 0).set to2.toNat 0) h0 h1)
    exact ⟨_, _, _, _, _, _, _, _, _, _, _, _, b1.trans b2, b3.trans (l4_end 1152921504606846974 _ _ _ _ _ _ _ _ _ _ _ _ _ _ _)⟩
  | _ :: _ :: _ :: t, _, hm2, _, _, _ => simp only [List.length_cons] at hm2; omega
/-- Between two requests: who holds it, as the nodes see it. -/
def stOf (own : Int) (seen : List Bool) : List Int := if 0 ≤ own then ([0, 0, 0] : List Int).set own.toNat 2 else seen.map fun b => if b = true then 1 else 0
structure Rest (own : Int) (seen : List Bool) : Prop where
  o0 : -1 ≤ own
  o1 : own ≤ 2
  sl : seen.length = 3
  no : 0 ≤ own → seen = [false, false, false]
theorem of3 {x : List Bool} (h : x.length = 3) : ∃ a b c, x = [a, b, c] := by
  match x, h with
  | [a, b, c], _ => exact ⟨a, b, c, rfl⟩
theorem int3 {x : Int} (h0 : 0 ≤ x) (h1 : x ≤ 2) : x = 0 ∨ x = 1 ∨ x = 2 := by omega
theorem stOf_len {own : Int} {seen : List Bool} (sl : seen.length = 3) : (stOf own seen).length = 3 := by
  unfold stOf
  split
  · simp
  · simpa using sl
/-- What a request leaves. -/
def ownB (who : Int) (ex : Bool) : Int := if ex = true then who else -1
def seenB (own : Int) (seen : List Bool) (who : Int) (ex : Bool) : List Bool := if ex = true then [false, false, false] else (if 0 ≤ own then seen.set own.toNat true else seen).set who.toNat true
theorem rest_next {own : Int} {seen : List Bool} (h : Rest own seen) {who : Int} (h0 : 0 ≤ who) (h1 : who ≤ 2) (ex : Bool) : Rest (ownB who ex) (seenB own seen who ex) := by
  have sl := h.sl
  unfold ownB seenB
  cases ex with
  | true => exact ⟨by simp; omega, by simpa using h1, rfl, fun _ => rfl⟩
  | false =>
    refine ⟨by simp, by simp, ?_, fun hh => absurd hh (by simp)⟩
    simp only [Bool.false_eq_true, if_false, List.length_set]
    split <;> simpa using sl
theorem owner_seen {own who : Int} (o0 : 0 ≤ own) (o1 : own ≤ 2) (h0 : 0 ≤ who) (h1 : who ≤ 2) (hne : own ≠ who) (ex : Bool) :
    (([false, false, false] : List Bool).set own.toNat (!ex)).set who.toNat (!ex) = seenB own [false, false, false] who ex ∧ gave who ex (took own ex (stOf own [false, false, false])) = stOf (ownB who ex) (seenB own [false, false, false] who ex) := by
  rcases int3 o0 o1 with rfl | rfl | rfl <;> rcases int3 h0 h1 with rfl | rfl | rfl <;> cases ex <;> first | exact absurd rfl hne | exact ⟨by decide, by decide⟩
theorem share_seen {who : Int} {seen : List Bool} (sl : seen.length = 3) (h0 : 0 ≤ who) (h1 : who ≤ 2) :
    seen.set who.toNat true = seenB (-1) seen who false ∧ gave who false (stOf (-1) seen) = stOf (-1) (seenB (-1) seen who false) := by
  obtain ⟨a, b, c, rfl⟩ := of3 sl
  rcases int3 h0 h1 with rfl | rfl | rfl <;> cases a <;> cases b <;> cases c <;> exact ⟨by decide, by decide⟩
theorem gone_seen (words : List Int) {who : Int} {seen : List Bool} (sl : seen.length = 3) (h0 : 0 ≤ who) (h1 : who ≤ 2) :
    (scanL who 0 0 seen).2.length ≤ 2 ∧ (scanL who 0 0 seen).1.set who.toNat false = [false, false, false] ∧ gave who true (tell words (scanL who 0 0 seen).2 (stOf (-1) seen)).1 = stOf who [false, false, false] := by
  obtain ⟨a, b, c, rfl⟩ := of3 sl
  rcases int3 h0 h1 with rfl | rfl | rfl <;> cases a <;> cases b <;> cases c <;> exact ⟨by decide, by decide, by simp [scanL, tell, tell1, gave, stOf]⟩
/-- A request, worked off. -/
theorem round {own : Int} {seen : List Bool} (h : Rest own seen) {words w : List Int} (w4 : words.length = 4) (ww : allW words = true) (v4 : w.length = 4) (vw : allW w = true) (hw : own = -1 → w = words) (c : List Int) (i : Int) {who kind : Int} (hk : kind = 1 ∨ kind = 2) (h0 : 0 ≤ who) (h1 : who ≤ 2) (hne : own ≠ who) :
    DoneQ words c i who own (stOf own seen) [(who, kind, 0, false, [])] w seen (ownB who (decide (kind = 2))) (stOf (ownB who (decide (kind = 2))) (seenB own seen who (decide (kind = 2)))) words (seenB own seen who (decide (kind = 2))) := by
  have hst := stOf_len (own := own) h.sl
  have o1 := h.o1
  have o0 := h.o0
  by_cases ho : 0 ≤ own
  · obtain rfl := h.no ho
    have := done_owner (seen := [false, false, false]) w4 ww v4 vw c i hk hst h0 h1 ho o1 rfl (by rcases int3 ho o1 with rfl | rfl | rfl <;> rfl)
    obtain ⟨e1, e2⟩ := owner_seen ho o1 h0 h1 hne (decide (kind = 2))
    rw [e1, e2] at this
    exact this
  · obtain rfl : own = -1 := by omega
    obtain rfl := hw rfl
    have hok := hk3 (who := 0) (need := 0) w4 ww (by omega) o1 h.sl (by omega) (by omega) (by omega) (by omega)
    rcases hk with rfl | rfl
    · obtain ⟨e1, e2⟩ := share_seen h.sl h0 h1
      have hr : HomeS w (seen.set who.toNat true) [] := hs3 w4 (by rw [List.length_set]; exact h.sl)
      have := done_now w4 c i (ex := false) hst h0 h1 (hears_req hok (hs3 w4 h.sl) h0 h1 (.inl rfl) (r := (w, -1, seen.set who.toNat true, false, 0, false, 0, [], [(who, 3, 0, false, w)])) (page := 0) (by
        unfold nextB
        rw [if_neg (by omega), if_neg (by decide)]
        rfl) hr)
      rw [e1, e2] at this
      exact this
    · obtain ⟨m2, e1, e2⟩ := gone_seen w h.sl h0 h1
      by_cases hm : (scanL who 0 0 seen).2.length = 0
      · have hr : HomeS w ((scanL who 0 0 seen).1.set who.toNat false) [] := hs3 w4 (by rw [List.length_set, (scanL_len who 0 seen 0).1]; exact h.sl)
        have hm0 := List.eq_nil_of_length_eq_zero hm
        have := done_now w4 c i (ex := true) hst h0 h1 (hears_req hok (hs3 w4 h.sl) h0 h1 (.inr rfl) (r := (w, who, (scanL who 0 0 seen).1.set who.toNat false, false, 0, false, 0, [], [(who, 3, 0, true, w)])) (page := 0) (by
          unfold nextB
          rw [if_neg (by omega), if_pos (by decide), if_pos hm, hm0]
          rfl) hr)
        rw [hm0] at e2
        simp only [tell] at e2
        rw [e1, e2] at this
        exact this
      · have := done_gone w4 ww c i hst h0 h1 h.sl hm m2
        rw [e1, e2] at this
        exact this
theorem n4 : N = 1152921504606846972 + 4 := rfl
theorem count (c : List Int) (i who : Int) {own : Int} {seen : List Bool} (h : Rest own seen) (own' : Int) (busy : Bool) (wh : Int) (ex : Bool) (need : Int) (words w : List Int) (seen' : List Bool) (wait : List (Int × Bool)) :
    ∃ have' write : Int, f_laws_FnHomeGives.l5 N c i who 0 0 0 own' busy wh ex need (stOf own seen) words w seen' wait = some (c, i, who, have', write, own', busy, wh, ex, need, stOf own seen, words, w, seen', wait) ∧ ((write = 0 ∧ own = -1) ∨ (write = 1 ∧ have' = 1)) := by
  have o1 := h.o1
  have o0 := h.o0
  rw [n4]
  by_cases ho : 0 ≤ own
  · obtain rfl := h.no ho
    rcases int3 ho o1 with rfl | rfl | rfl <;> exact ⟨1, 1, rfl, .inr ⟨rfl, rfl⟩⟩
  · obtain rfl : own = -1 := by omega
    obtain ⟨a, b, d, rfl⟩ := of3 h.sl
    cases a <;> cases b <;> cases d <;> exact ⟨_, 0, rfl, .inl ⟨rfl, rfl⟩⟩
theorem stOf_who {own : Int} {seen : List Bool} (h : Rest own seen) {who : Int} (h0 : 0 ≤ who) (h1 : who ≤ 2) : (stOf own seen).getD who.toNat 0 = 2 ↔ own = who := by
  have o1 := h.o1
  have o0 := h.o0
  by_cases ho : 0 ≤ own
  · obtain rfl := h.no ho
    rcases int3 ho o1 with rfl | rfl | rfl <;> rcases int3 h0 h1 with rfl | rfl | rfl <;> decide
  · obtain rfl : own = -1 := by omega
    obtain ⟨a, b, d, rfl⟩ := of3 h.sl
    rcases int3 h0 h1 with rfl | rfl | rfl <;> cases a <;> cases b <;> cases d <;> decide
theorem next_who {own : Int} {seen : List Bool} (h : Rest own seen) {who : Int} (h0 : 0 ≤ who) (h1 : who ≤ 2) (hne : own ≠ who) (ex : Bool) : (stOf (ownB who ex) (seenB own seen who ex)).getD who.toNat 0 ≠ 0 := by
  have o1 := h.o1
  have o0 := h.o0
  by_cases ho : 0 ≤ own
  · obtain rfl := h.no ho
    rcases int3 ho o1 with rfl | rfl | rfl <;> rcases int3 h0 h1 with rfl | rfl | rfl <;> cases ex <;> decide
  · obtain rfl : own = -1 := by omega
    obtain ⟨a, b, d, rfl⟩ := of3 h.sl
    rcases int3 h0 h1 with rfl | rfl | rfl <;> cases ex <;> cases a <;> cases b <;> cases d <;> decide
theorem allW_mem (x : List Int) : allW x = true ↔ ∀ w ∈ x, 0 ≤ w ∧ w ≤ 65535 := by
  unfold allW rng
  rw [List.all_eq_true]
  constructor
  · intro h w hw; have := h w hw; simpa using this
  · intro h w hw; have := h w hw; simpa using this
theorem at_i (x : List Int) (hn : x.length ≤ 1048576) (hb : ∀ e ∈ x, 0 ≤ e ∧ e ≤ 255) (i : Int) (i0 : 0 ≤ i) (i1 : i < 30) : ∃ a, f_laws_at x i = some a ∧ 0 ≤ a ∧ a ≤ 255 := by
  unfold f_laws_at
  by_cases h : i < (x.length : Int)
  · have := hb _ (mem_getD x 0 i i0 h)
    rw [decide_eq_true h, decide_eq_true i0, w64 (show -9223372036854775808 ≤ x.getD i.toNat 0 by omega) (by omega)]
    exact ⟨_, rfl, this.1, this.2⟩
  · rw [decide_eq_false h, w64 (show -9223372036854775808 ≤ i * 7 by omega) (by omega), w64 (show -9223372036854775808 ≤ i * 7 + (x.length : Int) by omega) (by omega)]
    refine ⟨_, rfl, Int.tmod_nonneg _ (by omega), ?_⟩
    have := Int.tmod_lt_of_pos (i * 7 + (x.length : Int)) (show (0 : Int) < 256 by omega)
    omega
theorem set_words {words : List Int} (w4 : words.length = 4) (ww : allW words = true) (k : Nat) {v : Int} (v0 : 0 ≤ v) (v1 : v < 30) : (words.set k v).length = 4 ∧ allW (words.set k v) = true :=
  ⟨by rw [List.length_set]; exact w4, (allW_mem _).2 fun z hz => (List.mem_or_eq_of_mem_set hz).elim (fun h => (allW_mem words).1 ww z h) (fun h => by rw [h]; exact ⟨v0, by omega⟩)⟩
theorem l0_all (x : List Int) (hn : x.length ≤ 1048576) (hb : ∀ e ∈ x, 0 ≤ e ∧ e ≤ 255) : ∀ (m n : Nat) (i own : Int) (seen : List Bool) (words w : List Int), i + m = 30 → 0 ≤ i → m < n → Rest own seen → words.length = 4 → allW words = true → w.length = 4 → allW w = true → (own = -1 → w = words) →
    f_laws_FnHomeGives.l0 n x i own false 0 false 0 (stOf own seen) words w seen [] = some (.inr ()) := by
  intro m
  induction m with
  | zero =>
    intro n i own seen words w hi i0 hm h w4 ww v4 vw hw
    obtain ⟨n, rfl⟩ := succ_fuel hm
    simp only [f_laws_FnHomeGives.l0, decide_eq_false (show ¬ i < 30 by omega), cond_false]
  | succ m ih =>
    intro n i own seen words w hi i0 hm h w4 ww v4 vw hw
    obtain ⟨n, rfl⟩ := succ_fuel hm
    obtain ⟨y, hy, y0, y1⟩ := at_i x hn hb i i0 (by omega)
    have h0 : 0 ≤ Int.tmod y 3 := Int.tmod_nonneg _ y0
    have h1 : Int.tmod y 3 ≤ 2 := by have := Int.tmod_lt_of_pos y (show (0 : Int) < 3 by omega); omega
    have g0 : 0 ≤ Int.tmod y 4 := Int.tmod_nonneg _ y0
    have g1 : Int.tmod y 4 < (words.length : Int) := by have := Int.tmod_lt_of_pos y (show (0 : Int) < 4 by omega); omega
    have sl := stOf_len (own := own) h.sl
    have hwho : Int.tmod y 3 < ((stOf own seen).length : Int) := by omega
    have hwr : IntKind.wrap .i64 (i + 1) = i + 1 := w64 (by omega) (by omega)
    have sw := set_words w4 ww (Int.tmod y 4).toNat i0 (show i < 30 by omega)
    rw [f_laws_FnHomeGives.l0]
    simp only [decide_eq_true (show i < 30 by omega), cond_true, hy, Option.bind_some, decide_eq_true h0, decide_eq_true hwho, decide_eq_true g0, decide_eq_true g1, Bool.and_self]
    generalize decide (Int.tmod (IntKind.wrap .i64 (Int.tdiv y 3)) 2 = 0) = kb
    generalize Int.tmod y 3 = who at *
    by_cases ho : own = who
    · have e := (stOf_who h h0 h1).2 ho
      have := ih n (i + 1) own seen (words.set (Int.tmod y 4).toNat i) w (by omega) (by omega) (by omega) h sw.1 sw.2 v4 vw (fun hh => by omega)
      cases kb <;> simp only [cond_true, cond_false, decide_eq_true e, hwr, this]
    · have e : ¬ (stOf own seen).getD who.toNat 0 = 2 := fun hh => ho ((stOf_who h h0 h1).1 hh)
      have fin : ∀ kind : Int, kind = 1 ∨ kind = 2 → ∃ own' seen', DoneQ words x i who own (stOf own seen) [(who, kind, 0, false, [])] w seen own' (stOf own' seen') words seen' ∧ (stOf own' seen').getD who.toNat 0 ≠ 0 ∧ Rest own' seen' := fun kind hk =>
        ⟨_, _, round h w4 ww v4 vw hw x i hk h0 h1 ho, next_who h h0 h1 ho (decide (kind = 2)), rest_next h h0 h1 (decide (kind = 2))⟩
      cases kb with
      | true =>
        obtain ⟨own', seen', ⟨off, len, o1, b1, u1, x1, m1, s1, q1, w1, e1, t1, d1, d2⟩, e2, h'⟩ := fin 2 (.inr rfl)
        obtain ⟨hv, wr, c1, c2⟩ := count x i who h' own' false 0 false 0 words words seen' []
        have hwho' : who < ((stOf own' seen').length : Int) := by rw [stOf_len h'.sl]; omega
        have := ih n (i + 1) own' seen' words words (by omega) (by omega) (by omega) h' w4 ww w4 ww (fun _ => rfl)
        simp only [cond_true, decide_eq_false e, cond_false, d1, Option.bind_some, cs, d2, c1, decide_eq_true h0, decide_eq_true hwho', Bool.and_self, decide_eq_false e2, hwr, this]
        rcases c2 with ⟨rfl, _⟩ | ⟨rfl, rfl⟩ <;> rfl
      | false =>
        obtain ⟨own', seen', ⟨off, len, o1, b1, u1, x1, m1, s1, q1, w1, e1, t1, d1, d2⟩, e2, h'⟩ := fin 1 (.inl rfl)
        obtain ⟨hv, wr, c1, c2⟩ := count x i who h' own' false 0 false 0 words words seen' []
        have hwho' : who < ((stOf own' seen').length : Int) := by rw [stOf_len h'.sl]; omega
        have := ih n (i + 1) own' seen' words words (by omega) (by omega) (by omega) h' w4 ww w4 ww (fun _ => rfl)
        simp only [cond_true, decide_eq_false e, cond_false, d1, Option.bind_some, cs, d2, c1, decide_eq_true h0, decide_eq_true hwho', Bool.and_self, decide_eq_false e2, hwr, this]
        rcases c2 with ⟨rfl, _⟩ | ⟨rfl, rfl⟩ <;> rfl
theorem homeGives (x0 : List Int) (hb : ∀ e ∈ x0, 0 ≤ e ∧ e ≤ 255) : f_laws_FnHomeGives x0 = some true := by
  unfold f_laws_FnHomeGives f_laws_big
  by_cases hl : (1048576 : Int) < (x0.length : Int)
  · rw [decide_eq_true hl]; rfl
  rw [decide_eq_false hl]
  have hn : x0.length ≤ 1048576 := by omega
  have := l0_all x0 hn hb 30 N 0 (-1) [false, false, false] (List.replicate 4 0) (List.replicate 4 0) rfl (by omega) (by rw [n4]; omega) ⟨by omega, by omega, rfl, fun h => absurd h (by omega)⟩ rfl rfl rfl rfl (fun _ => rfl)
  simp only [Option.bind_some, cond_false, implHomeNew 3 (by omega) (by omega)]
  show (f_laws_FnHomeGives.l0 N x0 0 (-1) false 0 false 0 (stOf (-1) [false, false, false]) (List.replicate 4 0) (List.replicate 4 0) [false, false, false] []).bind _ = _
  rw [this]
  rfl
theorem plain : Pure := fun x h => homeGives x (bytes_of x h.2)
end Go.Abs
