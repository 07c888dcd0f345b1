/- The law FnLines returns true for all bytes that a draw is made of: a drawn sender queues behind all, and forgets what was acknowledged alone; a receiver takes the next one alone. More than 2^20 bytes are not asked for. -/
import Derived.Test.YtimpkielhcgfdaaMFnLines
import Derived.Laws.BitsLemmas
namespace Go.Abs
open Go.RowKit
set_option linter.unusedVariables false
set_option linter.unusedSimpArgs false

theorem w64 {n : Int} (h0 : -9223372036854775808 ≤ n) (h1 : n ≤ 9223372036854775807) : IntKind.wrap .i64 n = n := by
  rw [IntKind.wrap_i64]
  omega
theorem succ_fuel {n d : Nat} (h : d < n) : ∃ m, n = m + 1 := ⟨n - 1, by omega⟩
theorem big : (1048577 : Nat) < N := by decide
theorem mem_getD {α : Type} (x : List α) (d : α) (i : Int) (h0 : 0 ≤ i) (h1 : i < x.length) : x.getD i.toNat d ∈ x := by
  have hlt : i.toNat < x.length := by omega
  rw [List.getD_eq_getElem?_getD, List.getElem?_eq_getElem hlt]
  exact List.getElem_mem hlt
theorem drop_getD {α : Type} (x : List α) (d : α) (i : Int) (h0 : 0 ≤ i) (h1 : i < x.length) : x.drop i.toNat = x.getD i.toNat d :: x.drop (i + 1).toNat := by
  have hlt : i.toNat < x.length := by omega
  have e : (i + 1).toNat = i.toNat + 1 := by omega
  rw [e, List.drop_eq_getElem_cons hlt, List.getD_eq_getElem?_getD, List.getElem?_eq_getElem hlt]
  rfl
theorem lt_N {x : Nat} (h : x ≤ 1048576) : x < N := Nat.lt_of_le_of_lt h (Nat.lt_trans (by omega) big)
def rng (x m : Int) : Bool := decide ((0 : Int) ≤ x) && decide (x ≤ m)
theorem in_rng (x m : Int) : f_spec_l1In x 0 m = some (rng x m) := by
  unfold f_spec_l1In rng
  cases decide ((0 : Int) ≤ x) <;> rfl
theorem from_rng (x m : Int) : f_impl_from x 0 m = some (rng x m) := by
  unfold f_impl_from rng
  cases decide ((0 : Int) ≤ x) <;> rfl
def rg (x a b : Int) : Bool := decide (a ≤ x) && decide (x ≤ b)
theorem in_rg (x a b : Int) : f_spec_l1In x a b = some (rg x a b) := by
  unfold f_spec_l1In rg
  cases decide (a ≤ x) <;> rfl
theorem from_rg (x a b : Int) : f_impl_from x a b = some (rg x a b) := by
  unfold f_impl_from rg
  cases decide (a ≤ x) <;> rfl
def allW (x : List Int) : Bool := x.all fun w => rng w 65535
theorem drop_step (x : List Int) (i : Int) (h0 : 0 ≤ i) (h1 : i < x.length) : x.drop i.toNat = x.getD i.toNat 0 :: x.drop (i + 1).toNat := by
  have hlt : i.toNat < x.length := by omega
  have e : (i + 1).toNat = i.toNat + 1 := by omega
  rw [e, List.drop_eq_getElem_cons hlt, List.getD_eq_getElem?_getD, List.getElem?_eq_getElem hlt]
  rfl
theorem specWords_loop (x : List Int) (hn : x.length ≤ 1048576) (k : Int) (b : Bool) (d : Nat) : ∀ (n : Nat) (i : Int), 0 ≤ i → i ≤ x.length → (x.length : Int) - i = d → d < n →
    f_spec_l1Words.l0 n x k b i = some (bif allW (x.drop i.toNat) then .inr (x, k, b) else .inl false) := by
  induction d with
  | zero =>
    intro n i h0 h1 hd hk
    obtain ⟨n, rfl⟩ := succ_fuel hk
    simp only [f_spec_l1Words.l0]
    rw [decide_eq_false (by omega), cond_false, List.drop_eq_nil_of_le (by omega)]
    rfl
  | succ d ih =>
    intro n i h0 h1 hd hk
    obtain ⟨n, rfl⟩ := succ_fuel hk
    have hw : IntKind.wrap .i64 (i + 1) = i + 1 := w64 (by omega) (by omega)
    simp only [f_spec_l1Words.l0]
    rw [decide_eq_true (show i < (x.length : Int) by omega), decide_eq_true h0, hw, in_rng, drop_step x i h0 (by omega)]
    simp only [cond_true, Bool.and_self, Option.bind_some]
    unfold allW
    rw [List.all_cons]
    cases hr : rng (x.getD i.toNat 0) 65535 with
    | false => rfl
    | true =>
      simp only [Bool.not_true, cond_false, Bool.true_and]
      exact ih n (i + 1) (by omega) (by omega) (by omega) (by omega)
theorem specWords (x : List Int) (hn : x.length ≤ 1048576) (k : Int) : f_spec_l1Words x k = some (allW x && decide ((x.length : Int) = k)) := by
  unfold f_spec_l1Words
  rw [specWords_loop x hn k false x.length N 0 (by omega) (by omega) (by omega) (Nat.lt_of_le_of_lt (by omega) big)]
  simp only [Int.toNat_zero, List.drop_zero, Option.bind_some]
  cases allW x <;> rfl
theorem implWords_loop (x : List Int) (hn : x.length ≤ 1048576) (q : Int) (d : Nat) : ∀ (n : Nat) (i : Int), 0 ≤ i → i ≤ x.length → (x.length : Int) - i = d → d < n →
    (allW (x.drop i.toNat) = true ∧ f_impl_wordsOk.l0 n x q (x.length : Int) i = some (.inr q)) ∨ (allW (x.drop i.toNat) = false ∧ ∃ j : Int, 0 ≤ j ∧ f_impl_wordsOk.l0 n x q (x.length : Int) i = some (.inl j)) := by
  induction d with
  | zero =>
    intro n i h0 h1 hd hk
    obtain ⟨n, rfl⟩ := succ_fuel hk
    simp only [f_impl_wordsOk.l0]
    rw [decide_eq_false (show ¬ i < (x.length : Int) by omega), cond_false, List.drop_eq_nil_of_le (by omega)]
    exact .inl ⟨rfl, rfl⟩
  | succ d ih =>
    intro n i h0 h1 hd hk
    obtain ⟨n, rfl⟩ := succ_fuel hk
    have hw : IntKind.wrap .i64 (i + 1) = i + 1 := w64 (by omega) (by omega)
    have ih2 := ih n (i + 1) (by omega) (by omega) (by omega) (by omega)
    simp only [f_impl_wordsOk.l0]
    rw [decide_eq_true (show i < (x.length : Int) by omega), decide_eq_true h0, hw, drop_step x i h0 (by omega)]
    unfold f_impl_wordsOk_1 f_impl_isWord
    simp only [cond_true, Bool.and_self, from_rng, Option.bind_some]
    unfold allW at ih2 ⊢
    rw [List.all_cons]
    cases hr : rng (x.getD i.toNat 0) 65535 with
    | false => exact .inr ⟨rfl, i, h0, rfl⟩
    | true =>
      simp only [Bool.not_true, cond_false, Bool.true_and]
      exact ih2
theorem implWords (x : List Int) (hn : x.length ≤ 1048576) (k : Int) : f_impl_wordsOk x k = some (allW x && decide ((x.length : Int) = k)) := by
  unfold f_impl_wordsOk
  have h := implWords_loop x hn 0 x.length N 0 (by omega) (by omega) (by omega) (Nat.lt_of_le_of_lt (by omega) big)
  simp only [Int.toNat_zero, List.drop_zero] at h
  cases decide ((x.length : Int) = k) with
  | false => simp
  | true =>
    rcases h with ⟨h1, h2⟩ | ⟨h1, j, h3, h2⟩
    · simp only [cond_true, h2, Option.bind_some, h1, Bool.and_true]; rfl
    · simp only [cond_true, h2, Option.bind_some, h1, Bool.and_true]
      show some (!(decide ((0 : Int) ≤ j))) = some false
      rw [decide_eq_true h3]; rfl
theorem allW_nil (x : List Int) : (allW x && decide ((x.length : Int) = 0)) = decide ((x.length : Int) = 0) := by
  cases x with
  | nil => rfl
  | cons a x =>
    rw [decide_eq_false (by simp; omega), Bool.and_false]
theorem same_msgOk (x0 x1 : Int) (x2 : Bool) (x3 : List Int) (hn : x3.length ≤ 1048576) : ∃ b, f_spec_MsgOk x0 x1 x2 x3 = some b ∧ f_impl_MsgOk x0 x1 x2 x3 = some b := by
  unfold f_spec_MsgOk f_impl_MsgOk f_impl_isPage
  simp only [specWords x3 hn, implWords x3 hn, in_rg, from_rg, Option.bind_some, allW_nil]
  by_cases h3 : x0 = 3
  · subst h3
    rw [show rg 3 1 7 = true from rfl]
    cases rg x1 0 5 <;> cases x2 <;> exact ⟨_, rfl, rfl⟩
  · by_cases h7 : x0 = 7
    · subst h7
      rw [show rg 7 1 7 = true from rfl]
      cases rg x1 0 5 <;> cases x2 <;> exact ⟨_, rfl, rfl⟩
    · by_cases h6 : x0 = 6
      · subst h6
        rw [show rg 6 1 7 = true from rfl]
        cases rg x1 0 5 <;> cases x2 <;> exact ⟨_, rfl, rfl⟩
      · rw [decide_eq_false h3, decide_eq_false h7, decide_eq_false h6]
        cases rg x0 1 7 <;> cases rg x1 0 5 <;> cases x2 <;> exact ⟨_, rfl, rfl⟩
abbrev MsgL := Int × Int × Bool × List Int
noncomputable def tM (e : MsgL) : Bool := (f_spec_MsgOk e.1 e.2.1 e.2.2.1 e.2.2.2).getD false
theorem tM_eq (e : MsgL) (h : e.2.2.2.length ≤ 1048576) : f_spec_MsgOk e.1 e.2.1 e.2.2.1 e.2.2.2 = some (tM e) ∧ f_impl_MsgOk e.1 e.2.1 e.2.2.1 e.2.2.2 = some (tM e) := by
  obtain ⟨b, h1, h2⟩ := same_msgOk e.1 e.2.1 e.2.2.1 e.2.2.2 h
  unfold tM
  rw [h1, h2]
  exact ⟨rfl, rfl⟩
theorem senderS_loop (x : List MsgL) (hn : x.length ≤ 1048576) (he : ∀ e ∈ x, e.2.2.2.length ≤ 1048576) (c : Bool) (a : Int) (k : Nat) : ∀ (n : Nat) (i : Int), 0 ≤ i → i ≤ x.length → (x.length : Int) - i = k → k < n →
    f_spec_SenderOk.l0 n c i a x = some (bif (x.drop i.toNat).all tM then .inr (c, a, x) else .inl false) := by
  induction k with
  | zero =>
    intro n i h0 h1 hd hk
    obtain ⟨n, rfl⟩ := succ_fuel hk
    simp only [f_spec_SenderOk.l0]
    rw [decide_eq_false (show ¬ i < (x.length : Int) by omega), cond_false, List.drop_eq_nil_of_le (by omega)]
    rfl
  | succ k ih =>
    intro n i h0 h1 hd hk
    obtain ⟨n, rfl⟩ := succ_fuel hk
    have hw : IntKind.wrap .i64 (i + 1) = i + 1 := w64 (by omega) (by omega)
    simp only [f_spec_SenderOk.l0]
    rw [decide_eq_true (show i < (x.length : Int) by omega), decide_eq_true h0, hw, (tM_eq _ (he _ (mem_getD x (0, 0, false, []) i h0 (by omega)))).1, drop_getD x (0, 0, false, []) i h0 (by omega)]
    simp only [cond_true, Bool.and_self, Option.bind_some, List.all_cons]
    cases tM (x.getD i.toNat (0, 0, false, [])) with
    | false => rfl
    | true =>
      simp only [Bool.not_true, cond_false, Bool.true_and]
      exact ih n (i + 1) (by omega) (by omega) (by omega) (by omega)
theorem senderI_loop (x : List MsgL) (hn : x.length ≤ 1048576) (he : ∀ e ∈ x, e.2.2.2.length ≤ 1048576) (q a : Int) (k : Nat) : ∀ (n : Nat) (i : Int), 0 ≤ i → i ≤ x.length → (x.length : Int) - i = k → k < n →
    ((x.drop i.toNat).all tM = true ∧ f_impl_SenderOk.l0 n x q (x.length : Int) i a x = some (.inr (q, a, x))) ∨ ((x.drop i.toNat).all tM = false ∧ ∃ j : Int, 0 ≤ j ∧ f_impl_SenderOk.l0 n x q (x.length : Int) i a x = some (.inl (j, a, x))) := by
  induction k with
  | zero =>
    intro n i h0 h1 hd hk
    obtain ⟨n, rfl⟩ := succ_fuel hk
    simp only [f_impl_SenderOk.l0]
    rw [decide_eq_false (show ¬ i < (x.length : Int) by omega), cond_false, List.drop_eq_nil_of_le (by omega)]
    exact .inl ⟨rfl, rfl⟩
  | succ k ih =>
    intro n i h0 h1 hd hk
    obtain ⟨n, rfl⟩ := succ_fuel hk
    have hw : IntKind.wrap .i64 (i + 1) = i + 1 := w64 (by omega) (by omega)
    have ih2 := ih n (i + 1) (by omega) (by omega) (by omega) (by omega)
    simp only [f_impl_SenderOk.l0, f_impl_SenderOk_1]
    rw [decide_eq_true (show i < (x.length : Int) by omega), decide_eq_true h0, hw, (tM_eq _ (he _ (mem_getD x (0, 0, false, []) i h0 (by omega)))).2, drop_getD x (0, 0, false, []) i h0 (by omega)]
    simp only [cond_true, Bool.and_self, Option.bind_some, List.all_cons]
    cases tM (x.getD i.toNat (0, 0, false, [])) with
    | false => exact .inr ⟨rfl, i, h0, rfl⟩
    | true =>
      simp only [Bool.not_true, cond_false, Bool.true_and]
      exact ih2
theorem same_senderOk (a : Int) (x : List MsgL) (hn : x.length ≤ 1048576) (he : ∀ e ∈ x, e.2.2.2.length ≤ 1048576) : ∃ b, f_spec_SenderOk a x = some b ∧ f_impl_SenderOk a x = some b := by
  unfold f_spec_SenderOk f_impl_SenderOk f_impl_isSeq
  rw [senderS_loop x hn he false a x.length N 0 (by omega) (by omega) (by omega) (lt_N hn)]
  have hi := senderI_loop x hn he 0 a x.length N 0 (by omega) (by omega) (by omega) (lt_N hn)
  simp only [Int.toNat_zero, List.drop_zero, in_rg, from_rg, Option.bind_some] at hi ⊢
  rcases hi with ⟨h1, h2⟩ | ⟨h1, j, h3, h2⟩
  · rw [h1, h2]
    simp only [cond_true, cs, Option.bind_some]
    cases rg a 0 100000 <;> cases decide ((x.length : Int) ≤ 30) <;> cases decide (IntKind.wrap .i64 (a + (x.length : Int)) ≤ 100000) <;> exact ⟨_, rfl, rfl⟩
  · rw [h1, h2]
    simp only [cond_false, cs, Option.bind_some, decide_eq_true h3]
    cases rg a 0 100000 <;> cases decide ((x.length : Int) ≤ 30) <;> cases decide (IntKind.wrap .i64 (a + (x.length : Int)) ≤ 100000) <;> exact ⟨_, rfl, rfl⟩
theorem cp_gen {α τ : Type} {d : α} {F : Nat → Int → List α → Option τ} {R : List α → τ} (x : List α) (hx : x.length ≤ 1048576) (h0 : ∀ n i y, ¬ i < (x.length : Int) → F (n + 1) i y = some (R y))
    (h1 : ∀ n i y, 0 ≤ i → i < (x.length : Int) → x.getD i.toNat d ∈ x → y.length ≤ 1048576 → F (n + 1) i y = F n (i + 1) (y ++ [x.getD i.toNat d])) : F N 0 [] = some (R x) := by
  have step : ∀ (k n : Nat) (i : Int) (y : List α), 0 ≤ i → i ≤ x.length → (x.length : Int) - i = k → k < n → y = x.take i.toNat → F n i y = some (R x) := by
    intro k
    induction k with
    | zero =>
      intro n i y a0 a1 hd hn hy
      obtain ⟨n, rfl⟩ := succ_fuel hn
      rw [h0 n i y (by omega), hy, List.take_of_length_le (by omega)]
    | succ k ih =>
      intro n i y a0 a1 hd hn hy
      obtain ⟨n, rfl⟩ := succ_fuel hn
      rw [h1 n i y a0 (by omega) (mem_getD x d i a0 (by omega)) (by rw [hy, List.length_take]; omega)]
      refine ih n (i + 1) _ (by omega) (by omega) (by omega) (by omega) ?_
      have e : (i + 1).toNat = i.toNat + 1 := by omega
      have hlt : i.toNat < x.length := by omega
      rw [e, List.take_add_one, List.getElem?_eq_getElem hlt, hy, List.getD_eq_getElem?_getD, List.getElem?_eq_getElem hlt]
      rfl
  exact step x.length N 0 [] (by omega) (by omega) (by omega) (Nat.lt_of_le_of_lt hx (Nat.lt_trans (by omega) big)) rfl
theorem specSenderCopy (a : Int) (x : List MsgL) (hn : x.length ≤ 1048576) (he : ∀ e ∈ x, e.2.2.2.length ≤ 1048576) : f_spec_l2Sender a x = some (a, x) := by
  unfold f_spec_l2Sender
  have c1 := cp_gen (d := ((0 : Int), (0 : Int), false, ([] : List Int))) (F := fun n i y => f_spec_l2Sender.l0 n i a x 0 a [] y) (R := fun y => (0, a, ([] : List MsgL), y)) x hn (fun n i y hi => by simp only [f_spec_l2Sender.l0, decide_eq_false hi, cond_false])
    (fun n i y a0 a1 hm hy => by
      have hk : (x.getD i.toNat (0, 0, false, [])).2.2.2.length ≤ 1048576 := he _ hm
      simp only [f_spec_l2Sender.l0, f_spec_l1Msg, decide_eq_true a0, decide_eq_true a1, cond_true, Bool.and_self, List.length_nil, Nat.zero_add, (blt_iff _ _).2 (show (x.getD i.toNat (0, 0, false, [])).2.2.2.length < 17592186044416 by omega), List.nil_append, Option.bind_some, List.length_singleton, (blt_iff _ _).2 (show y.length + 1 < 2932031007402 by omega), w64 (show -9223372036854775808 ≤ i + 1 by omega) (by omega)])
  rw [c1]
  rfl
theorem implSenderCopy (a : Int) (x : List MsgL) (hn : x.length ≤ 1048576) (he : ∀ e ∈ x, e.2.2.2.length ≤ 1048576) : f_impl_copySender a x = some (a, x) := by
  unfold f_impl_copySender
  have c1 := cp_gen (d := ((0 : Int), (0 : Int), false, ([] : List Int))) (F := fun n i y => f_impl_copySender.l0 n x (x.length : Int) i 0 a [] y) (R := fun y => (0, a, ([] : List MsgL), y)) x hn (fun n i y hi => by simp only [f_impl_copySender.l0, decide_eq_false hi, cond_false])
    (fun n i y a0 a1 hm hy => by
      have hk : (x.getD i.toNat (0, 0, false, [])).2.2.2.length ≤ 1048576 := he _ hm
      simp only [f_impl_copySender.l0, f_impl_copyMsg, f_slices_Clone_int_int, decide_eq_true a0, decide_eq_true a1, cond_true, Bool.and_self, Nat.zero_add, (blt_iff _ _).2 (show (x.getD i.toNat (0, 0, false, [])).2.2.2.length < 17592186044416 by omega), Option.bind_some, List.length_singleton, (blt_iff _ _).2 (show y.length + 1 < 2932031007402 by omega), w64 (show -9223372036854775808 ≤ i + 1 by omega) (by omega)])
  rw [c1]
  rfl
/-- What a right sender's numbers are. -/
theorem senderOk_facts (a : Int) (x : List MsgL) (hn : x.length ≤ 1048576) (he : ∀ e ∈ x, e.2.2.2.length ≤ 1048576) (h : f_spec_SenderOk a x = some true) : 0 ≤ a ∧ a ≤ 100000 ∧ (x.length : Int) ≤ 30 ∧ a + (x.length : Int) ≤ 100000 ∧ x.all tM = true := by
  unfold f_spec_SenderOk at h
  rw [senderS_loop x hn he false a x.length N 0 (by omega) (by omega) (by omega) (lt_N hn)] at h
  simp only [Int.toNat_zero, List.drop_zero, in_rg, Option.bind_some] at h
  cases hall : x.all tM with
  | false => rw [hall] at h; cases h
  | true =>
    rw [hall] at h
    simp only [cond_true, cs] at h
    cases hr : rg a 0 100000 with
    | false => rw [hr] at h; cases h
    | true =>
      unfold rg at hr
      simp only [Bool.and_eq_true, decide_eq_true_eq] at hr
      by_cases h30 : (x.length : Int) ≤ 30
      · rw [decide_eq_true h30, w64 (by omega) (by omega)] at h
        have e : rg a 0 100000 = true := by unfold rg; rw [decide_eq_true hr.1, decide_eq_true hr.2]; rfl
        rw [e] at h
        simp only [cond_true, Option.some.injEq, decide_eq_true_eq] at h
        exact ⟨hr.1, hr.2, h30, h, rfl⟩
      · rw [decide_eq_false h30] at h
        cases h' : rg a 0 100000 <;> rw [h'] at h <;> cases h
def ackedB (a : Int) (x : List MsgL) (b : Bool) (n : Int) : Int × List MsgL := if b = true ∧ a < n ∧ n ≤ a + (x.length : Int) then (n, x.drop (n - a).toNat) else (a, x)
theorem take_drop_all {α : Type} (x : List α) (k : Int) (h : 0 ≤ k) : (x.drop k.toNat).take ((x.length : Int) - k).toNat = x.drop k.toNat := by
  rw [List.take_of_length_le]
  rw [List.length_drop]
  omega
theorem specAcked (a : Int) (x : List MsgL) (n : Int) (hn : x.length ≤ 1048576) (he : ∀ e ∈ x, e.2.2.2.length ≤ 1048576) (b : Bool) (h1 : f_spec_SenderOk a x = some b) : f_spec_Acked a x n = some (ackedB a x b n) := by
  unfold f_spec_Acked
  simp only [specSenderCopy a x hn he, h1, Option.bind_some]
  unfold ackedB
  cases b with
  | false => rw [if_neg (fun h => by cases h.1)]; rfl
  | true =>
    obtain ⟨f0, f1, f2, f3, -⟩ := senderOk_facts a x hn he h1
    simp only [Bool.not_true, cond_false, w64 (show -9223372036854775808 ≤ a + (x.length : Int) by omega) (by omega)]
    by_cases g1 : n ≤ a
    · rw [decide_eq_true g1, if_neg (fun h => by omega)]; rfl
    · rw [decide_eq_false g1, cond_false]
      by_cases g2 : a + (x.length : Int) < n
      · rw [decide_eq_true g2, if_neg (fun h => by omega)]; rfl
      · rw [decide_eq_false g2, if_pos ⟨trivial, by omega, by omega⟩, w64 (show -9223372036854775808 ≤ n - a by omega) (by omega), decide_eq_true (show 0 ≤ n - a by omega), decide_eq_true (show n - a ≤ (x.length : Int) by omega), take_drop_all x (n - a) (by omega)]
        simp only [List.length_nil, Nat.zero_add, cond_false, cond_true, Bool.and_self, List.nil_append, (blt_iff _ _).2 (show (x.drop (n - a).toNat).length < 2932031007402 by rw [List.length_drop]; omega)]
theorem implAcked (a : Int) (x : List MsgL) (n : Int) (hn : x.length ≤ 1048576) (he : ∀ e ∈ x, e.2.2.2.length ≤ 1048576) (b : Bool) (h1 : f_spec_SenderOk a x = some b) (h2 : f_impl_SenderOk a x = some b) : f_impl_Acked a x n = some (ackedB a x b n) := by
  unfold f_impl_Acked
  simp only [implSenderCopy a x hn he, h2, Option.bind_some]
  unfold ackedB
  cases b with
  | false => rw [if_neg (fun h => by cases h.1)]; rfl
  | true =>
    obtain ⟨f0, f1, f2, f3, -⟩ := senderOk_facts a x hn he h1
    simp only [Bool.not_true, cond_false, w64 (show -9223372036854775808 ≤ a + (x.length : Int) by omega) (by omega), from_rg, Option.bind_some]
    unfold rg
    by_cases g1 : a ≤ n
    · by_cases g2 : n ≤ a + (x.length : Int)
      · rw [decide_eq_true g1, decide_eq_true g2, w64 (show -9223372036854775808 ≤ n - a by omega) (by omega), decide_eq_true (show 0 ≤ n - a by omega), decide_eq_true (show n - a ≤ (x.length : Int) by omega), take_drop_all x (n - a) (by omega)]
        by_cases g3 : a < n
        · rw [if_pos ⟨trivial, g3, g2⟩]; rfl
        · have : n = a := by omega
          subst this
          rw [if_neg (fun h => by omega)]
          simp
      · rw [decide_eq_false g2, Bool.and_false, if_neg (fun h => g2 h.2.2)]; rfl
    · rw [decide_eq_false g1, Bool.false_and, if_neg (fun h => by omega)]; rfl
theorem same_acked (a : Int) (x : List MsgL) (n : Int) (hn : x.length ≤ 1048576) (he : ∀ e ∈ x, e.2.2.2.length ≤ 1048576) : ∃ b, f_spec_SenderOk a x = some b ∧ f_impl_SenderOk a x = some b ∧ f_spec_Acked a x n = some (ackedB a x b n) ∧ f_impl_Acked a x n = some (ackedB a x b n) := by
  obtain ⟨b, h1, h2⟩ := same_senderOk a x hn he
  exact ⟨b, h1, h2, specAcked a x n hn he b h1, implAcked a x n hn he b h1 h2⟩
def queueB (a : Int) (x : List MsgL) (b : Bool) (m : MsgL) (ok : Bool) : Int × List MsgL × Bool := if b = true ∧ ok = true ∧ (x.length : Int) ≠ 30 ∧ a + (x.length : Int) ≠ 100000 then (a, x ++ [m], true) else (a, x, false)
theorem same_queue (a : Int) (x : List MsgL) (x2 x3 : Int) (x4 : Bool) (x5 : List Int) (hn : x.length ≤ 1048576) (he : ∀ e ∈ x, e.2.2.2.length ≤ 1048576) (h5 : x5.length ≤ 1048576) :
    ∃ b ok, f_spec_SenderOk a x = some b ∧ f_impl_SenderOk a x = some b ∧ f_spec_MsgOk x2 x3 x4 x5 = some ok ∧ f_impl_MsgOk x2 x3 x4 x5 = some ok ∧ f_spec_Queue a x x2 x3 x4 x5 = some (queueB a x b (x2, x3, x4, x5) ok) ∧ f_impl_Queue a x x2 x3 x4 x5 = some (queueB a x b (x2, x3, x4, x5) ok) := by
  obtain ⟨b, h1, h2⟩ := same_senderOk a x hn he
  obtain ⟨ok, k1, k2⟩ := same_msgOk x2 x3 x4 x5 h5
  have hw : b = true → IntKind.wrap .i64 (a + (x.length : Int)) = a + (x.length : Int) := fun hb => by
    subst hb
    obtain ⟨f0, f1, f2, f3, -⟩ := senderOk_facts a x hn he h1
    exact w64 (by omega) (by omega)
  refine ⟨b, ok, h1, h2, k1, k2, ?_, ?_⟩
  · unfold f_spec_Queue queueB
    simp only [specSenderCopy a x hn he, h1, k1, Option.bind_some]
    cases b with
    | false => rw [if_neg (fun h => by cases h.1)]; rfl
    | true =>
      rw [hw rfl]
      cases ok with
      | false => rw [if_neg (fun h => by cases h.2.1)]; rfl
      | true =>
        by_cases g1 : (x.length : Int) = 30
        · rw [decide_eq_true g1, if_neg (fun h => h.2.2.1 g1)]; rfl
        · by_cases g2 : a + (x.length : Int) = 100000
          · rw [decide_eq_false g1, decide_eq_true g2, if_neg (fun h => h.2.2.2 g2)]; rfl
          · rw [decide_eq_false g1, decide_eq_false g2, if_pos ⟨rfl, rfl, g1, g2⟩]
            simp only [Bool.not_true, cond_false, f_spec_l1Msg, List.length_nil, Nat.zero_add, (blt_iff _ _).2 (show x5.length < 17592186044416 by omega), cond_true, List.nil_append, Option.bind_some, List.length_singleton, (blt_iff _ _).2 (show x.length + 1 < 2932031007402 by omega)]
  · unfold f_impl_Queue queueB
    simp only [implSenderCopy a x hn he, h2, k2, Option.bind_some]
    cases b with
    | false => rw [if_neg (fun h => by cases h.1)]; rfl
    | true =>
      rw [hw rfl]
      cases ok with
      | false => rw [if_neg (fun h => by cases h.2.1)]; rfl
      | true =>
        by_cases g1 : (x.length : Int) = 30
        · rw [decide_eq_true g1, if_neg (fun h => h.2.2.1 g1)]; rfl
        · by_cases g2 : a + (x.length : Int) = 100000
          · rw [decide_eq_false g1, decide_eq_true g2, if_neg (fun h => h.2.2.2 g2)]; rfl
          · rw [decide_eq_false g1, decide_eq_false g2, if_pos ⟨rfl, rfl, g1, g2⟩]
            simp only [Bool.not_true, cond_false, f_impl_copyMsg, f_slices_Clone_int_int, Nat.zero_add, (blt_iff _ _).2 (show x5.length < 17592186044416 by omega), cond_true, Option.bind_some, List.length_singleton, (blt_iff _ _).2 (show x.length + 1 < 2932031007402 by omega)]
theorem specSenderOkB (a : Int) (x : List MsgL) (hn : x.length ≤ 1048576) (he : ∀ e ∈ x, e.2.2.2.length ≤ 1048576) : f_spec_SenderOk a x = some (x.all tM && (rg a 0 100000 && (decide ((x.length : Int) ≤ 30) && decide (IntKind.wrap .i64 (a + (x.length : Int)) ≤ 100000)))) := by
  unfold f_spec_SenderOk
  rw [senderS_loop x hn he false a x.length N 0 (by omega) (by omega) (by omega) (lt_N hn)]
  simp only [Int.toNat_zero, List.drop_zero, in_rg, Option.bind_some]
  cases x.all tM with
  | false => rfl
  | true =>
    simp only [cond_true, cs, Option.bind_some]
    cases rg a 0 100000 <;> cases decide ((x.length : Int) ≤ 30) <;> rfl
def arrB (a q : Int) : Int × Bool := if q = a ∧ 0 ≤ a ∧ a ≤ 99999 then (a + 1, true) else (a, false)
theorem specArrived (a q : Int) : f_spec_Arrived a q = some (arrB a q) := by
  unfold f_spec_Arrived arrB
  simp only [in_rg, Option.bind_some]
  unfold rg
  by_cases h : q = a
  · rw [decide_eq_true h]
    by_cases h0 : 0 ≤ a
    · by_cases h1 : a ≤ 99999
      · rw [decide_eq_true h0, decide_eq_true h1, if_pos ⟨h, h0, h1⟩, w64 (by omega) (by omega)]; rfl
      · rw [decide_eq_false h1, Bool.and_false, if_neg (fun h => h1 h.2.2)]; rfl
    · rw [decide_eq_false h0, if_neg (fun h => h0 h.2.1)]; rfl
  · rw [decide_eq_false h, if_neg (fun h' => h h'.1)]; rfl
theorem implArrived (a q : Int) : f_impl_Arrived a q = some (arrB a q) := by
  unfold f_impl_Arrived arrB
  simp only [from_rg, Option.bind_some]
  unfold rg
  by_cases h : q = a
  · rw [decide_eq_true h]
    by_cases h0 : 0 ≤ a
    · by_cases h1 : a ≤ 99999
      · rw [decide_eq_true h0, decide_eq_true h1, if_pos ⟨h, h0, h1⟩, w64 (by omega) (by omega)]; rfl
      · rw [decide_eq_false h1, Bool.and_false, if_neg (fun h => h1 h.2.2)]; rfl
    · rw [decide_eq_false h0, if_neg (fun h => h0 h.2.1)]; rfl
  · rw [decide_eq_false h, if_neg (fun h' => h h'.1)]; rfl
theorem same_packetOk (x0 x1 : Int) (x2 : Bool) (x3 x4 x5 : Int) (x6 : Bool) (x7 : List Int) (x8 : Int) (hn : x7.length ≤ 1048576) : ∃ b, f_spec_PacketOk x0 x1 x2 x3 x4 x5 x6 x7 x8 = some b ∧ f_impl_PacketOk x0 x1 x2 x3 x4 x5 x6 x7 x8 = some b := by
  obtain ⟨b, h1, h2⟩ := same_msgOk x4 x5 x6 x7 hn
  unfold f_spec_PacketOk f_impl_PacketOk f_impl_isOf f_impl_isSeq
  simp only [in_rg, from_rg, Option.bind_some, h1, h2]
  cases rg x8 1 4 with
  | false => exact ⟨_, rfl, rfl⟩
  | true =>
    cases rg x0 0 (IntKind.wrap .i64 (x8 - 1)) with
    | false => exact ⟨_, rfl, rfl⟩
    | true =>
      cases rg x1 0 (IntKind.wrap .i64 (x8 - 1)) with
      | false => exact ⟨_, rfl, rfl⟩
      | true =>
        cases rg x3 0 100000 with
        | false => exact ⟨_, rfl, rfl⟩
        | true => cases x2 <;> cases decide (x4 = 0) <;> cases decide (x5 = 0) <;> cases x6 <;> exact ⟨_, rfl, rfl⟩
theorem and8 (n : Int) : bitI .and .i64 n 255 = n % 256 := by
  have h : (BitVec.ofInt 64 n &&& BitVec.ofInt 64 255).toNat = (n % 18446744073709551616).toNat % 256 := by
    rw [BitVec.toNat_and, BitVec.toNat_ofInt]
    show (n % 18446744073709551616).toNat &&& (2 ^ 8 - 1) = _
    rw [Nat.and_two_pow_sub_one_eq_mod]
  show IntKind.wrap .i64 ((BitVec.ofInt 64 n &&& BitVec.ofInt 64 255).toNat : Int) = _
  rw [h, w64 (by omega) (by omega)]
  omega
theorem draw_byte (x : List Int) (hn : x.length ≤ 1048576) (p s : Int) (hp : 0 ≤ p) : ∃ b p' s', f_spec_l1Byte x p s = some (b, p', s') ∧ 0 ≤ b ∧ b ≤ 255 ∧ 0 ≤ p' := by
  unfold f_spec_l1Byte
  simp only [and8]
  by_cases h : p < (x.length : Int)
  · rw [decide_eq_true h, decide_eq_true hp, w64 (show -9223372036854775808 ≤ p + 1 by omega) (by omega)]
    exact ⟨_, _, _, rfl, by omega, by omega, by omega⟩
  · rw [decide_eq_false h]
    exact ⟨_, _, _, rfl, by omega, by omega, hp⟩
theorem draw_below (x : List Int) (hn : x.length ≤ 1048576) (p s n : Int) (hp : 0 ≤ p) : ∃ r p' s', f_spec_l1Below x p s n = some (r, p', s') ∧ 0 ≤ p' ∧ 0 ≤ r ∧ (0 < n → r < n) ∧ (n ≤ 0 → r = 0) := by
  unfold f_spec_l1Below
  by_cases h0 : n ≤ 0
  · rw [decide_eq_true h0]
    exact ⟨_, _, _, rfl, hp, Int.le_refl _, fun h => by omega, fun _ => rfl⟩
  · rw [decide_eq_false h0, cond_false, decide_eq_false (show ¬ n = 0 by omega)]
    have hm : ∀ b, 0 ≤ b → 0 ≤ Int.tmod b n ∧ Int.tmod b n < n := fun b hb => by
      rw [Int.tmod_eq_emod_of_nonneg hb]
      exact ⟨Int.emod_nonneg _ (by omega), Int.emod_lt_of_pos _ (by omega)⟩
    by_cases h1 : n ≤ 256
    · obtain ⟨b, p', s', e, b0, b1, q⟩ := draw_byte x hn p s hp
      rw [decide_eq_true h1, e]
      exact ⟨_, _, _, rfl, q, (hm b b0).1, fun _ => (hm b b0).2, fun h => absurd h h0⟩
    · obtain ⟨b, p1, s1, e1, b0, b1, q1⟩ := draw_byte x hn p s hp
      obtain ⟨c, p2, s2, e2, c0, c1, q2⟩ := draw_byte x hn p1 s1 q1
      obtain ⟨d, p3, s3, e3, d0, d1, q3⟩ := draw_byte x hn p2 s2 q2
      obtain ⟨e, p4, s4, e4, f0, f1, q4⟩ := draw_byte x hn p3 s3 q3
      rw [decide_eq_false h1, cond_false, e1, Option.bind_some]
      simp only [e2, e3, e4, Option.bind_some, cond_false]
      rw [w64 (show -9223372036854775808 ≤ b * 16777216 by omega) (by omega), w64 (show -9223372036854775808 ≤ c * 65536 by omega) (by omega), w64 (show -9223372036854775808 ≤ d * 256 by omega) (by omega), w64 (show -9223372036854775808 ≤ b * 16777216 + c * 65536 by omega) (by omega), w64 (show -9223372036854775808 ≤ b * 16777216 + c * 65536 + d * 256 by omega) (by omega), w64 (show -9223372036854775808 ≤ b * 16777216 + c * 65536 + d * 256 + e by omega) (by omega)]
      have := hm (b * 16777216 + c * 65536 + d * 256 + e) (by omega)
      exact ⟨_, _, _, rfl, q4, this.1, fun _ => this.2, fun h => absurd h h0⟩
/-- The head of a draw: the bytes that it was handed, and a number out of them. -/
theorem draw_new {τ : Type} {F : Nat → List Int → Int → Int → Option τ} {G : List Int → Int → τ}
    (hs : ∀ n x s i, F (n + 1) x s i = bif (decide (i < (x.length : Int))) then bif (decide (i < (4000 : Int))) then bif ((decide ((0 : Int) ≤ i)) && (decide (i < (x.length : Int)))) then
      F n x (bitI .and .i64 (IntKind.wrap .i64 ((IntKind.wrap .i64 ((IntKind.wrap .i64 (s * (131 : Int))) + (IntKind.wrap .i64 ((x.getD i.toNat 0))))) + (7 : Int))) (1073741823 : Int)) (IntKind.wrap .i64 (i + (1 : Int))) else none else some (G x s) else some (G x s))
    (x : List Int) (hn : x.length ≤ 1048576) : ∀ s, ∃ s', F N x s 0 = some (G x s') := by
  have key : ∀ (k n : Nat) (s i : Int), 0 ≤ i → (x.length : Int) - i ≤ k → k < n → ∃ s', F n x s i = some (G x s') := by
    intro k
    induction k with
    | zero =>
      intro n s i h0 h1 hk
      obtain ⟨n, rfl⟩ := succ_fuel hk
      rw [hs, decide_eq_false (by omega)]
      exact ⟨_, rfl⟩
    | succ k ih =>
      intro n s i h0 h1 hk
      obtain ⟨n, rfl⟩ := succ_fuel hk
      rw [hs]
      by_cases h : i < (x.length : Int)
      · rw [decide_eq_true h, decide_eq_true h0, w64 (show -9223372036854775808 ≤ i + 1 by omega) (by omega)]
        cases decide (i < 4000)
        · exact ⟨_, rfl⟩
        · exact ih n _ (i + 1) (by omega) (by omega) (by omega)
      · rw [decide_eq_false h]; exact ⟨_, rfl⟩
  intro s
  exact key x.length N s 0 (Int.le_refl _) (by omega) (Nat.lt_of_le_of_lt hn (Nat.lt_trans (by omega) big))
theorem draw_pick (x : List Int) (hn : x.length ≤ 1048576) (p s : Int) (hp : 0 ≤ p) (l : List Int) (hl : 0 < (l.length : Int)) : ∃ e p' s', f_spec_l1PickInt x p s l = some (e, p', s') ∧ e ∈ l ∧ 0 ≤ p' := by
  unfold f_spec_l1PickInt
  obtain ⟨r, p', s', e, q, r0, r1, -⟩ := draw_below x hn p s (l.length : Int) hp
  rw [e, Option.bind_some]
  have r2 := r1 hl
  have hlt : r.toNat < l.length := by omega
  simp only [decide_eq_true r0, decide_eq_true r2, Bool.and_self, cond_true]
  refine ⟨_, _, _, rfl, ?_, q⟩
  rw [List.getD_eq_getElem?_getD, List.getElem?_eq_getElem hlt]
  exact List.getElem_mem hlt
theorem draw_once (x : List Int) (hn : x.length ≤ 1048576) (p s n : Int) (hp : 0 ≤ p) : ∃ b p' s', f_spec_l1Once x p s n = some (b, p', s') ∧ 0 ≤ p' := by
  unfold f_spec_l1Once
  obtain ⟨r, p', s', e, q, -⟩ := draw_below x hn p s n hp
  rw [e]
  exact ⟨_, _, _, rfl, q⟩
theorem drawList_loop (x : List Int) (hn : x.length ≤ 1048576) : ∀ (k n : Nat) (i p s : Int) (y : List Int), 0 ≤ i → 4 - i = k → k < n → 0 ≤ p → (y.length : Int) = i →
    ∃ p' s' y', f_spec_l1DrawList.l0 n i x p s y = some (x, p', s', y') ∧ 0 ≤ p' ∧ y'.length = 4 := by
  intro k
  induction k with
  | zero =>
    intro n i p s y h0 hk hn' hp hy
    obtain ⟨n, rfl⟩ := succ_fuel hn'
    simp only [f_spec_l1DrawList.l0, decide_eq_false (show ¬ i < 4 by omega), cond_false]
    exact ⟨_, _, _, rfl, hp, by omega⟩
  | succ k ih =>
    intro n i p s y h0 hk hn' hp hy
    obtain ⟨n, rfl⟩ := succ_fuel hn'
    obtain ⟨v, p1, s1, e1, -, q1⟩ := draw_pick x hn p s hp ([0, 1, 5, 300, 65535] : List Int) (by simp)
    simp only [f_spec_l1DrawList.l0, decide_eq_true (show i < 4 by omega), cond_true, e1, Option.bind_some, (blt_iff _ _).2 (show y.length + ([v] : List Int).length < 17592186044416 by simp; omega), w64 (show -9223372036854775808 ≤ i + 1 by omega) (by omega)]
    exact ih n (i + 1) p1 s1 _ (by omega) (by omega) (by omega) q1 (by rw [List.length_append]; simp; omega)
theorem drawList (x : List Int) (hn : x.length ≤ 1048576) (p s : Int) (hp : 0 ≤ p) : ∃ y p' s', f_spec_l1DrawList x p s = some (y, p', s') ∧ 0 ≤ p' ∧ y.length = 4 := by
  unfold f_spec_l1DrawList
  obtain ⟨p2, s2, y, e2, q2, hy⟩ := drawList_loop x hn 4 N 0 p s [] (Int.le_refl _) rfl (Nat.lt_of_lt_of_le (by omega) (Nat.le_of_lt big)) hp rfl
  rw [e2]
  exact ⟨_, _, _, rfl, q2, hy⟩
theorem drawMsgRight (x : List Int) (hn : x.length ≤ 1048576) (p s : Int) (hp : 0 ≤ p) : ∃ a b c y p' s', f_spec_l1DrawRight x p s = some (a, b, c, y, p', s') ∧ 0 ≤ p' ∧ y.length ≤ 4 := by
  unfold f_spec_l1DrawRight
  obtain ⟨r, p1, s1, e1, q1, -⟩ := draw_below x hn p s 7 hp
  obtain ⟨r2, p2, s2, e2, q2, -⟩ := draw_below x hn p1 s1 6 q1
  obtain ⟨b, p3, s3, e3, q3⟩ := draw_once x hn p2 s2 2 q2
  obtain ⟨y4, p4, s4, e4, q4, hy4⟩ := drawList x hn p3 s3 q3
  obtain ⟨y5, p5, s5, e5, q5, hy5⟩ := drawList x hn p2 s2 q2
  rw [e1, Option.bind_some]
  simp only [e2, e3, e4, e5, Option.bind_some]
  cases decide (IntKind.wrap .i64 (1 + r) = 3) <;> cases decide (IntKind.wrap .i64 (1 + r) = 6) <;> cases decide (IntKind.wrap .i64 (1 + r) = 7) <;> simp only [cond_true, cond_false] <;>
    first | exact ⟨_, _, _, _, _, _, rfl, q4, by omega⟩ | exact ⟨_, _, _, _, _, _, rfl, q5, by omega⟩ | exact ⟨_, _, _, _, _, _, rfl, q3, by simp⟩ | exact ⟨_, _, _, _, _, _, rfl, q2, by simp⟩
theorem drawMsg (x : List Int) (hn : x.length ≤ 1048576) (p s : Int) (hp : 0 ≤ p) : ∃ a b c y p' s', f_spec_l1Draw x p s = some (a, b, c, y, p', s') ∧ 0 ≤ p' ∧ y.length ≤ 5 := by
  unfold f_spec_l1Draw
  obtain ⟨a, b, c, y, p1, s1, e1, q1, hy⟩ := drawMsgRight x hn p s hp
  obtain ⟨r2, p2, s2, e2, q2, -⟩ := draw_below x hn p1 s1 12 q1
  obtain ⟨r3, p3, s3, e3, q3, -⟩ := draw_below x hn p2 s2 9 q2
  obtain ⟨r4, p4, s4, e4, -, q4⟩ := draw_pick x hn p2 s2 q2 ([-1, 6] : List Int) (by simp)
  obtain ⟨r5, p5, s5, e5, -, q5⟩ := draw_pick x hn p2 s2 q2 ([-1, 3, 65536] : List Int) (by simp)
  rw [e1, Option.bind_some]
  simp only [e2, e3, e4, e5, Option.bind_some, List.length_singleton, (blt_iff _ _).2 (show y.length + 1 < 17592186044416 by omega), cond_true]
  cases decide (r2 = 0)
  · cases decide (r2 = 1)
    · cases decide (r2 = 2)
      · cases decide (r2 = 3)
        · exact ⟨_, _, _, _, _, _, rfl, q2, by omega⟩
        · exact ⟨_, _, _, _, _, _, rfl, q5, by rw [List.length_append, List.length_singleton]; omega⟩
      · exact ⟨_, _, _, _, _, _, rfl, q2, by omega⟩
    · exact ⟨_, _, _, _, _, _, rfl, q4, by omega⟩
  · exact ⟨_, _, _, _, _, _, rfl, q3, by omega⟩
theorem drawSender_l0 (x : List Int) (hn : x.length ≤ 1048576) (a b : Int) (c : List MsgL) : ∀ (k n : Nat) (i p s : Int) (y : List MsgL), 0 ≤ i → 4 - i = k → k < n → 0 ≤ p → (y.length : Int) = i → (∀ e ∈ y, e.2.2.2.length ≤ 5) →
    ∃ p' s' y', f_spec_l2Draw.l0 n i x p s a b c y = some (x, p', s', a, b, c, y') ∧ 0 ≤ p' ∧ y'.length ≤ 4 ∧ ∀ e ∈ y', e.2.2.2.length ≤ 5 := by
  intro k
  induction k with
  | zero =>
    intro n i p s y h0 hk hn' hp hy he
    obtain ⟨n, rfl⟩ := succ_fuel hn'
    obtain ⟨r, p1, s1, e1, q1, r0, r1, -⟩ := draw_below x hn p s 5 hp
    simp only [f_spec_l2Draw.l0, e1, Option.bind_some, decide_eq_false (show ¬ i < r by have := r1 (by omega); omega), cond_false]
    exact ⟨_, _, _, rfl, q1, by omega, he⟩
  | succ k ih =>
    intro n i p s y h0 hk hn' hp hy he
    obtain ⟨n, rfl⟩ := succ_fuel hn'
    obtain ⟨r, p1, s1, e1, q1, r0, r1, -⟩ := draw_below x hn p s 5 hp
    obtain ⟨m1, m2, m3, m4, p2, s2, e2, q2, hm⟩ := drawMsgRight x hn p1 s1 q1
    simp only [f_spec_l2Draw.l0, e1, Option.bind_some]
    by_cases hr : i < r
    · rw [decide_eq_true hr]
      simp only [cond_true, e2, Option.bind_some, List.length_singleton, (blt_iff _ _).2 (show y.length + 1 < 2932031007402 by omega), w64 (show -9223372036854775808 ≤ i + 1 by omega) (by omega)]
      exact ih n (i + 1) p2 s2 _ (by omega) (by omega) (by omega) q2 (by rw [List.length_append, List.length_singleton]; omega) fun e h => (List.mem_append.1 h).elim (he e) fun h => by rw [List.mem_singleton.1 h]; show m4.length ≤ 5; omega
    · rw [decide_eq_false hr]
      exact ⟨_, _, _, rfl, q1, by omega, he⟩
theorem drawSender_l1 (x : List Int) (hn : x.length ≤ 1048576) (a b : Int) (c : List MsgL) : ∀ (k n : Nat) (p s : Int) (y : List MsgL), 31 - (y.length : Int) = k → k < n → 0 ≤ p → (∀ e ∈ y, e.2.2.2.length ≤ 5) →
    ∃ p' s' y', f_spec_l2Draw.l1 n x p s a b c y = some (x, p', s', a, b, c, y') ∧ 0 ≤ p' ∧ y'.length ≤ 31 ∧ ∀ e ∈ y', e.2.2.2.length ≤ 5 := by
  intro k
  induction k with
  | zero =>
    intro n p s y hk hn' hp he
    obtain ⟨n, rfl⟩ := succ_fuel hn'
    obtain ⟨r, p1, s1, e1, q1, r0, r1, -⟩ := draw_below x hn p s 2 hp
    have := r1 (by omega)
    simp only [f_spec_l2Draw.l1, e1, Option.bind_some, w64 (show -9223372036854775808 ≤ 30 + r by omega) (by omega), decide_eq_false (show ¬ (y.length : Int) < 30 + r by omega), cond_false]
    exact ⟨_, _, _, rfl, q1, by omega, he⟩
  | succ k ih =>
    intro n p s y hk hn' hp he
    obtain ⟨n, rfl⟩ := succ_fuel hn'
    obtain ⟨r, p1, s1, e1, q1, r0, r1, -⟩ := draw_below x hn p s 2 hp
    have := r1 (by omega)
    simp only [f_spec_l2Draw.l1, e1, Option.bind_some, w64 (show -9223372036854775808 ≤ 30 + r by omega) (by omega)]
    by_cases hr : (y.length : Int) < 30 + r
    · rw [decide_eq_true hr]
      simp only [cond_true, List.length_singleton, (blt_iff _ _).2 (show y.length + 1 < 2932031007402 by omega), Option.bind_some]
      exact ih n p1 s1 _ (by rw [List.length_append, List.length_singleton]; omega) (by omega) q1 fun e h => (List.mem_append.1 h).elim (he e) fun h => by rw [List.mem_singleton.1 h]; exact Nat.zero_le _
    · rw [decide_eq_false hr]
      exact ⟨_, _, _, rfl, q1, by omega, he⟩
theorem drawSender (x : List Int) (hn : x.length ≤ 1048576) (p s : Int) (hp : 0 ≤ p) : ∃ a y p' s', f_spec_l2Draw x p s = some (a, y, p', s') ∧ 0 ≤ p' ∧ y.length ≤ 31 ∧ ∀ e ∈ y, e.2.2.2.length ≤ 5 := by
  unfold f_spec_l2Draw
  obtain ⟨v, p1, s1, e1, -, q1⟩ := draw_pick x hn p s hp ([0, 0, 3, 50] : List Int) (by simp)
  obtain ⟨p2, s2, y, e2, q2, hy, he⟩ := drawSender_l0 x hn 0 v [] 4 N 0 p1 s1 [] (by omega) rfl (Nat.lt_of_lt_of_le (by omega) (Nat.le_of_lt big)) q1 rfl (fun e h => by cases h)
  obtain ⟨r3, p3, s3, e3, q3, -⟩ := draw_below x hn p2 s2 12 q2
  obtain ⟨r4, p4, s4, e4, -, q4⟩ := draw_pick x hn p3 s3 q3 ([-1, 100000, 99998, 100001] : List Int) (by simp)
  obtain ⟨m1, m2, m3, m4, p5, s5, e5, q5, hm⟩ := drawMsg x hn p3 s3 q3
  obtain ⟨p6, s6, y6, e6, q6, hy6, he6⟩ := drawSender_l1 x hn 0 v [] (31 - y.length) N p3 s3 y (by omega) (Nat.lt_of_le_of_lt (show 31 - y.length ≤ 31 by omega) (Nat.lt_of_lt_of_le (by omega) (Nat.le_of_lt big))) q3 he
  rw [e1, Option.bind_some]
  simp only [e2, e3, e4, e5, e6, Option.bind_some, List.length_singleton, (blt_iff _ _).2 (show y.length + 1 < 2932031007402 by omega), cond_true]
  cases decide (r3 = 0)
  · cases decide (r3 = 1)
    · cases decide (r3 = 2)
      · exact ⟨_, _, _, _, rfl, q3, by omega, he⟩
      · exact ⟨_, _, _, _, rfl, q6, hy6, he6⟩
    · exact ⟨_, _, _, _, rfl, q5, by rw [List.length_append, List.length_singleton]; omega, fun e h => (List.mem_append.1 h).elim (he e) fun h => by rw [List.mem_singleton.1 h]; exact hm⟩
  · exact ⟨_, _, _, _, rfl, q4, by omega, he⟩
theorem drawAcked (x : List Int) (hn : x.length ≤ 1048576) : ∃ a y n, f_spec_DrawAcked x = some (a, y, n) ∧ y.length ≤ 31 ∧ ∀ e ∈ y, e.2.2.2.length ≤ 5 := by
  unfold f_spec_DrawAcked
  obtain ⟨s', h⟩ := draw_new (F := fun n x s i => f_spec_DrawAcked.l0 n x s i 0) (G := fun x s => (x, s, 0)) (fun _ _ _ _ => rfl) x hn (IntKind.wrap .i64 ((20404 : Int) + (x.length : Int)))
  obtain ⟨a, y, p1, s1, e1, q1, hy, he⟩ := drawSender x hn 0 s' (Int.le_refl _)
  obtain ⟨r2, p2, s2, e2, q2, -⟩ := draw_below x hn p1 s1 (IntKind.wrap .i64 ((y.length : Int) + 4)) q1
  rw [h, Option.bind_some]
  simp only [e1, e2, Option.bind_some]
  exact ⟨_, _, _, rfl, hy, he⟩
theorem drawArrived (x : List Int) (hn : x.length ≤ 1048576) : ∃ a n, f_spec_DrawArrived x = some (a, n) := by
  unfold f_spec_DrawArrived
  obtain ⟨s', h⟩ := draw_new (F := fun n x s i => f_spec_DrawArrived.l0 n x s i 0) (G := fun x s => (x, s, 0)) (fun _ _ _ _ => rfl) x hn (IntKind.wrap .i64 ((20404 : Int) + (x.length : Int)))
  obtain ⟨r1, p1, s1, e1, -, q1⟩ := draw_pick x hn 0 s' (Int.le_refl _) ([0, 3, 100000, 99999, -1] : List Int) (by simp)
  obtain ⟨r2, p2, s2, e2, -, q2⟩ := draw_pick x hn p1 s1 q1 ([0, 0, 1, -1] : List Int) (by simp)
  rw [h, Option.bind_some]
  simp only [e1, e2, Option.bind_some]
  exact ⟨_, _, rfl⟩
theorem drawQueue (x : List Int) (hn : x.length ≤ 1048576) : ∃ a y k p c w, f_spec_DrawQueue x = some (a, y, k, p, c, w) ∧ y.length ≤ 31 ∧ (∀ e ∈ y, e.2.2.2.length ≤ 5) ∧ w.length ≤ 5 := by
  unfold f_spec_DrawQueue
  obtain ⟨s', h⟩ := draw_new (F := fun n x s i => f_spec_DrawQueue.l0 n x s i 0 0 0 false) (G := fun x s => (x, s, 0, 0, 0, false)) (fun _ _ _ _ => rfl) x hn (IntKind.wrap .i64 ((20404 : Int) + (x.length : Int)))
  obtain ⟨a, y, p1, s1, e1, q1, hy, he⟩ := drawSender x hn 0 s' (Int.le_refl _)
  obtain ⟨k, p, c, w, p2, s2, e2, q2, hw⟩ := drawMsg x hn p1 s1 q1
  rw [h, Option.bind_some]
  simp only [e1, e2, Option.bind_some]
  exact ⟨_, _, _, _, _, _, rfl, hy, he, hw⟩
theorem drawPacketOk (x : List Int) (hn : x.length ≤ 1048576) : ∃ a b c d k p e w n, f_spec_DrawPacketOk x = some (a, b, c, d, k, p, e, w, n) ∧ w.length ≤ 5 := by
  unfold f_spec_DrawPacketOk
  obtain ⟨s', h⟩ := draw_new (F := fun n x s i => f_spec_DrawPacketOk.l0 n x s i 0 0 false 0 0 0 false) (G := fun x s => (x, s, 0, 0, false, 0, 0, 0, false)) (fun _ _ _ _ => rfl) x hn (IntKind.wrap .i64 ((20404 : Int) + (x.length : Int)))
  obtain ⟨r1, p1, s1, e1, q1, -⟩ := draw_below x hn 0 s' 3 (Int.le_refl _)
  obtain ⟨r2, p2, s2, e2, q2, -⟩ := draw_below x hn p1 s1 3 q1
  obtain ⟨b, p3, s3, e3, q3⟩ := draw_once x hn p2 s2 3 q2
  obtain ⟨r4, p4, s4, e4, q4, -⟩ := draw_below x hn p3 s3 9 q3
  have end_ : ∀ (p s : Int), 0 ≤ p → ∃ t, f_spec_l1PickInt x p s ([3, 3, 4, 2, 0, 5] : List Int) = some t := fun p s hp => by
    obtain ⟨v, p', s', e, -⟩ := draw_pick x hn p s hp ([3, 3, 4, 2, 0, 5] : List Int) (by simp)
    exact ⟨_, e⟩
  have tail : ∀ (k p : Int) (c : Bool) (w : List Int) (pp ss : Int), 0 ≤ pp → w.length ≤ 5 → ∃ a b' c' d k' p' e w' n, ((f_spec_l1Below x pp ss 9).bind fun y209 =>
    bif (decide (y209.1 = (0 : Int))) then
      (f_spec_l1PickInt x y209.2.1 y209.2.2 ([-1, 4] : List Int)).bind fun y210 =>
      (f_spec_l1PickInt x y210.2.1 y210.2.2 ([3, 3, 4, 2, 0, 5] : List Int)).bind fun y211 =>
      some (y210.1, r2, b, r4, k, p, c, w, y211.1)
    else
      bif (decide (y209.1 = (1 : Int))) then
        (f_spec_l1PickInt x y209.2.1 y209.2.2 ([-1, 100000, 100001] : List Int)).bind fun y212 =>
        (f_spec_l1PickInt x y212.2.1 y212.2.2 ([3, 3, 4, 2, 0, 5] : List Int)).bind fun y213 =>
        some (r1, r2, b, y212.1, k, p, c, w, y213.1)
      else
        (f_spec_l1PickInt x y209.2.1 y209.2.2 ([3, 3, 4, 2, 0, 5] : List Int)).bind fun y214 =>
        some (r1, r2, b, r4, k, p, c, w, y214.1)) = some (a, b', c', d, k', p', e, w', n) ∧ w'.length ≤ 5 := by
    intro k p c w pp ss hp hw
    obtain ⟨u, p5, s5, e5, q5, -⟩ := draw_below x hn pp ss 9 hp
    obtain ⟨v, p6, s6, e6, -, q6⟩ := draw_pick x hn p5 s5 q5 ([-1, 4] : List Int) (by simp)
    obtain ⟨v7, p7, s7, e7, -, q7⟩ := draw_pick x hn p5 s5 q5 ([-1, 100000, 100001] : List Int) (by simp)
    obtain ⟨t1, g1⟩ := end_ p6 s6 q6
    obtain ⟨t2, g2⟩ := end_ p7 s7 q7
    obtain ⟨t3, g3⟩ := end_ p5 s5 q5
    simp only [e5, e6, e7, g1, g2, g3, Option.bind_some]
    cases decide (u = 0)
    · cases decide (u = 1)
      · exact ⟨_, _, _, _, _, _, _, _, _, rfl, hw⟩
      · exact ⟨_, _, _, _, _, _, _, _, _, rfl, hw⟩
    · exact ⟨_, _, _, _, _, _, _, _, _, rfl, hw⟩
  obtain ⟨k, p, c, w, p5, s5, e5, q5, hw5⟩ := drawMsg x hn p4 s4 q4
  obtain ⟨o, p6, s6, e6, q6⟩ := draw_once x hn p4 s4 5 q4
  obtain ⟨k7, m7, c7, w7, p7, s7, e7, q7, hw7⟩ := drawMsg x hn p6 s6 q6
  rw [h, Option.bind_some]
  simp only [e1, Option.bind_some, e2, e3, e4]
  cases b with
  | false =>
    simp only [Bool.not_false, cond_true, e5, Option.bind_some]
    exact tail k p c w p5 s5 q5 hw5
  | true =>
    simp only [Bool.not_true, cond_false, e6, Option.bind_some]
    cases o with
    | true =>
      simp only [cond_true, e7, Option.bind_some]
      exact tail k7 m7 c7 w7 p7 s7 q7 hw7
    | false =>
      simp only [cond_false]
      exact tail 0 0 false [] p6 s6 q6 (by simp)
theorem arr_val (a q : Int) : ((arrB a q).2 = true → (arrB a q).1 = IntKind.wrap .i64 (a + 1)) ∧ ((arrB a q).2 = false → (arrB a q).1 = a) := by
  unfold arrB
  by_cases h : q = a ∧ 0 ≤ a ∧ a ≤ 99999
  · rw [if_pos h]
    exact ⟨fun _ => (w64 (by omega) (by omega)).symm, fun h => by cases h⟩
  · rw [if_neg h]
    exact ⟨(fun h => by cases h), fun _ => rfl⟩
theorem senderOk_put (a : Int) (x : List MsgL) (hn : x.length ≤ 1048576) (he : ∀ e ∈ x, e.2.2.2.length ≤ 1048576) (h0 : 0 ≤ a) (h1 : (x.length : Int) ≤ 30) (h2 : a + (x.length : Int) ≤ 100000) (h3 : x.all tM = true) : f_impl_SenderOk a x = some true := by
  obtain ⟨b, e1, e2⟩ := same_senderOk a x hn he
  rw [specSenderOkB a x hn he] at e1
  rw [e2, ← e1, h3]
  unfold rg
  simp only [decide_eq_true h0, decide_eq_true (show a ≤ 100000 by omega), decide_eq_true h1, w64 (show -9223372036854775808 ≤ a + (x.length : Int) by omega) (by omega), decide_eq_true h2, Bool.and_self]
theorem bind_some' {α : Type} (o : Option α) : (o.bind fun r => some r) = o := by cases o <;> rfl
theorem lines (x0 : List Int) : f_laws_FnLines x0 = some true := by
  unfold f_laws_FnLines f_laws_big
  by_cases hb : (1048576 : Int) < (x0.length : Int)
  · rw [decide_eq_true hb]; rfl
  rw [decide_eq_false hb]
  have hn : x0.length ≤ 1048576 := by omega
  obtain ⟨a, x, k, p, c, w, e1, hx, he, hw⟩ := drawQueue x0 hn
  obtain ⟨a2, x2, n2, e2, hx2, he2⟩ := drawAcked x0 hn
  obtain ⟨a3, n3, e3⟩ := drawArrived x0 hn
  obtain ⟨pa, pb, pc, pd, pk, pp, pe, pw, pn, e4, hpw⟩ := drawPacketOk x0 hn
  have hx' : x.length ≤ 1048576 := by omega
  have he' : ∀ e ∈ x, e.2.2.2.length ≤ 1048576 := fun e h => by have := he e h; omega
  have hx2' : x2.length ≤ 1048576 := by omega
  have he2' : ∀ e ∈ x2, e.2.2.2.length ≤ 1048576 := fun e h => by have := he2 e h; omega
  obtain ⟨b, ok, q1, q2, q3, q4, q5, q6⟩ := same_queue a x k p c w hx' he' (by omega)
  obtain ⟨b2, k1, k2, k3, k4⟩ := same_acked a2 x2 n2 hx2' he2'
  obtain ⟨pk', r1, r2⟩ := same_packetOk pa pb pc pd pk pp pe pw pn (by omega)
  obtain ⟨v1, v2⟩ := arr_val a3 n3
  -- what was queued
  have hq : ((queueB a x b (k, p, c, w) ok).2.2 = true → ((queueB a x b (k, p, c, w) ok).2.1.length : Int) = IntKind.wrap .i64 ((x.length : Int) + 1) ∧ (queueB a x b (k, p, c, w) ok).1 = a ∧ f_impl_SenderOk (queueB a x b (k, p, c, w) ok).1 (queueB a x b (k, p, c, w) ok).2.1 = some true) ∧
      ((queueB a x b (k, p, c, w) ok).2.2 = false → ((queueB a x b (k, p, c, w) ok).2.1.length : Int) = (x.length : Int)) := by
    unfold queueB
    by_cases h : b = true ∧ ok = true ∧ (x.length : Int) ≠ 30 ∧ a + (x.length : Int) ≠ 100000
    · rw [if_pos h]
      obtain ⟨rfl, rfl, h3, h4⟩ := h
      obtain ⟨f0, f1, f2, f3, f4⟩ := senderOk_facts a x hx' he' q1
      refine ⟨fun _ => ⟨?_, rfl, ?_⟩, fun h => by cases h⟩
      · rw [w64 (by omega) (by omega)]; simp
      · refine senderOk_put a (x ++ [(k, p, c, w)]) (by simp; omega) (fun e h => ?_) f0 (by simp; omega) (by simp; omega) ?_
        · rcases List.mem_append.1 h with h | h
          · exact he' e h
          · rw [List.mem_singleton.1 h]; show w.length ≤ 1048576; omega
        · rw [List.all_append, f4]
          have : tM (k, p, c, w) = true := by unfold tM; simp only [q3]; rfl
          simp [this]
    · rw [if_neg h]
      exact ⟨fun h => (by cases h), fun _ => rfl⟩
  -- what was forgotten
  have hk : IntKind.wrap .i64 ((ackedB a2 x2 b2 n2).1 + ((ackedB a2 x2 b2 n2).2.length : Int)) = IntKind.wrap .i64 (a2 + (x2.length : Int)) ∧ a2 ≤ (ackedB a2 x2 b2 n2).1 ∧ (b2 = true → f_impl_SenderOk (ackedB a2 x2 b2 n2).1 (ackedB a2 x2 b2 n2).2 = some true) := by
    unfold ackedB
    by_cases h : b2 = true ∧ a2 < n2 ∧ n2 ≤ a2 + (x2.length : Int)
    · rw [if_pos h]
      obtain ⟨rfl, h3, h4⟩ := h
      obtain ⟨f0, f1, f2, f3, f4⟩ := senderOk_facts a2 x2 hx2' he2' k1
      have hl : ((x2.drop (n2 - a2).toNat).length : Int) = (x2.length : Int) - (n2 - a2) := by rw [List.length_drop]; omega
      refine ⟨by simp only [hl]; congr 1; omega, by simp only; omega, fun _ => ?_⟩
      refine senderOk_put n2 (x2.drop (n2 - a2).toNat) (by omega) (fun e h => he2' e (List.mem_of_mem_drop h)) (by omega) (by omega) (by omega) ?_
      rw [List.all_eq_true] at f4 ⊢
      exact fun e h => f4 e (List.mem_of_mem_drop h)
    · rw [if_neg h]
      refine ⟨rfl, Int.le_refl _, fun hb => ?_⟩
      subst hb
      exact k2
  obtain ⟨g1, g2⟩ := hq
  obtain ⟨g3, g4, g5⟩ := hk
  simp only [f_laws_FnLines.j1, f_laws_FnLines.j0, bind_some', Option.bind_some, cond_false, e1, e2, e3, e4, q2, q1, q5, q6, k2, k3, k4, specArrived, implArrived, r1, r2, beq_self_eq_true, Bool.not_true, decide_true]
  generalize arrB a3 n3 = ar at v1 v2
  generalize queueB a x b (k, p, c, w) ok = qu at g1 g2
  generalize ackedB a2 x2 b2 n2 = ac at g3 g4 g5
  have fin : ∀ (s : Option Bool), (b2 = true → f_impl_SenderOk ac.1 ac.2 = some true) → (bif (!b2) then some true else f_impl_SenderOk ac.1 ac.2) = some true := by
    intro s hs
    cases b2 with
    | false => rfl
    | true => rw [hs rfl]; rfl
  simp only [g3, decide_true, decide_eq_true g4, cond_true, fin none g5]
  cases ha : ar.2 with
  | true =>
    rw [v1 ha]
    cases hq : qu.2.2 with
    | true =>
      obtain ⟨h1, h2, h3⟩ := g1 hq
      simp only [cond_true, cond_false, Bool.not_true, decide_true, h1, h2, Option.bind_some]
      rw [h2] at h3
      simp only [h3, Option.bind_some, Bool.not_true, cond_false]
    | false =>
      simp only [cond_true, cond_false, Bool.not_true, Bool.not_false, decide_true, g2 hq]
  | false =>
    rw [v2 ha]
    cases hq : qu.2.2 with
    | true =>
      obtain ⟨h1, h2, h3⟩ := g1 hq
      rw [h2] at h3
      simp only [cond_true, cond_false, Bool.not_true, Bool.not_false, decide_true, h1, h2, h3, Option.bind_some]
    | false =>
      simp only [cond_true, cond_false, Bool.not_true, Bool.not_false, decide_true, g2 hq]
theorem plain : Pure := fun x _ => lines x
end Go.Abs
