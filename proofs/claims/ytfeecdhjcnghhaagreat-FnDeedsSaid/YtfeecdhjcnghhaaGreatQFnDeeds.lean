/- The law FnDeeds returns true for all codes: a drawn deed in a drawn world does what the reference does, whether the world is right is answered alike, and a new world is right and sane. No condition. -/
import Derived.Test.YtfeecdhjcnghhaaGreatMFnDeeds
import Derived.Laws.BitsLemmas
namespace Go.Abs
open Go.RowKit
set_option linter.unusedVariables false
set_option linter.unusedSimpArgs false

theorem dt {p : Prop} [Decidable p] (h : p) : decide p = true := decide_eq_true h
theorem df {p : Prop} [Decidable p] (h : ¬ p) : decide p = false := decide_eq_false h
theorem w64 {n : Int} (h0 : -9223372036854775808 ≤ n) (h1 : n ≤ 9223372036854775807) : IntKind.wrap .i64 n = n := by
 rw [IntKind.wrap_i64]
 omega
theorem wz (n : Int) (h : -9223372036854775808 ≤ n ∧ n ≤ 9223372036854775807) : IntKind.wrap .i64 n = n := w64 h.1 h.2
theorem succ_fuel {n d : Nat} (h : d < n) : ∃ m, n = m + 1 := ⟨n - 1, by omega⟩
theorem big : (1048577 : Nat) < N := by decide
theorem mem_getD {α : Type} (x : List α) (d : α) (i : Int) (h0 : 0 ≤ i) (h1 : i < x.length) : x.getD i.toNat d ∈ x := by
 have hlt : i.toNat < x.length := by omega
 rw [List.getD_eq_getElem?_getD, List.getElem?_eq_getElem hlt]
 exact List.getElem_mem hlt
theorem drop_getD {α : Type} (x : List α) (d : α) (i : Int) (h0 : 0 ≤ i) (h1 : i < x.length) : x.drop i.toNat = x.getD i.toNat d :: x.drop (i + 1).toNat := by
 have hlt : i.toNat < x.length := by omega
 have e : (i + 1).toNat = i.toNat + 1 := by omega
 rw [e, List.drop_eq_getElem_cons hlt, List.getD_eq_getElem?_getD, List.getElem?_eq_getElem hlt]
 rfl
theorem lt_N {x : Nat} (h : x ≤ 1048576) : x < N := Nat.lt_of_le_of_lt h (Nat.lt_trans (by omega) big)
def rng (x m : Int) : Bool := decide ((0 : Int) ≤ x) && decide (x ≤ m)
theorem in_rng (x m : Int) : f_spec_l1In x 0 m = some (rng x m) := by
 unfold f_spec_l1In rng
 cases decide ((0 : Int) ≤ x) <;> rfl
theorem from_rng (x m : Int) : f_impl_from x 0 m = some (rng x m) := by
 unfold f_impl_from rng
 cases decide ((0 : Int) ≤ x) <;> rfl
def rg (x a b : Int) : Bool := decide (a ≤ x) && decide (x ≤ b)
theorem in_rg (x a b : Int) : f_spec_l1In x a b = some (rg x a b) := by
 unfold f_spec_l1In rg
 cases decide (a ≤ x) <;> rfl
theorem from_rg (x a b : Int) : f_impl_from x a b = some (rg x a b) := by
 unfold f_impl_from rg
 cases decide (a ≤ x) <;> rfl
def allW (x : List Int) : Bool := x.all fun w => rng w 65535
theorem drop_step (x : List Int) (i : Int) (h0 : 0 ≤ i) (h1 : i < x.length) : x.drop i.toNat = x.getD i.toNat 0 :: x.drop (i + 1).toNat := by
 have hlt : i.toNat < x.length := by omega
 have e : (i + 1).toNat = i.toNat + 1 := by omega
 rw [e, List.drop_eq_getElem_cons hlt, List.getD_eq_getElem?_getD, List.getElem?_eq_getElem hlt]
 rfl
theorem specWords_loop (x : List Int) (hn : x.length ≤ 1048576) (k : Int) (b : Bool) (d : Nat) : ∀ (n : Nat) (i : Int), 0 ≤ i → i ≤ x.length → (x.length : Int) - i = d → d < n →
   f_spec_l1Words.l0 n x k b i = some (bif allW (x.drop i.toNat) then .inr (x, k, b) else .inl false) := by
 induction d with
 | zero =>
   intro n i h0 h1 hd hk
   obtain ⟨n, rfl⟩ := succ_fuel hk
   simp only [f_spec_l1Words.l0]
   rw [df (by omega), cond_false, List.drop_eq_nil_of_le (by omega)]
   rfl
 | succ d ih =>
   intro n i h0 h1 hd hk
   obtain ⟨n, rfl⟩ := succ_fuel hk
   have hw : IntKind.wrap .i64 (i + 1) = i + 1 := w64 (by omega) (by omega)
   simp only [f_spec_l1Words.l0]
   rw [dt (show i < (x.length : Int) by omega), dt h0, hw, in_rng, drop_step x i h0 (by omega)]
   simp only [cond_true, Bool.and_self, Option.bind_some]
   unfold allW
   rw [List.all_cons]
   cases hr : rng (x.getD i.toNat 0) 65535 with
   | false => rfl
   | true =>
     simp only [Bool.not_true, cond_false, Bool.true_and]
     exact ih n (i + 1) (by omega) (by omega) (by omega) (by omega)
theorem specWords (x : List Int) (hn : x.length ≤ 1048576) (k : Int) : f_spec_l1Words x k = some (allW x && decide ((x.length : Int) = k)) := by
 unfold f_spec_l1Words
 rw [specWords_loop x hn k false x.length N 0 (by omega) (by omega) (by omega) (Nat.lt_of_le_of_lt (by omega) big)]
 simp only [Int.toNat_zero, List.drop_zero, Option.bind_some]
 cases allW x <;> rfl
theorem implWords_loop (x : List Int) (hn : x.length ≤ 1048576) (q : Int) (d : Nat) : ∀ (n : Nat) (i : Int), 0 ≤ i → i ≤ x.length → (x.length : Int) - i = d → d < n →
   (allW (x.drop i.toNat) = true ∧ f_impl_wordsOk.l0 n x q (x.length : Int) i = some (.inr q)) ∨ (allW (x.drop i.toNat) = false ∧ ∃ j : Int, 0 ≤ j ∧ f_impl_wordsOk.l0 n x q (x.length : Int) i = some (.inl j)) := by
 induction d with
 | zero =>
   intro n i h0 h1 hd hk
   obtain ⟨n, rfl⟩ := succ_fuel hk
   simp only [f_impl_wordsOk.l0]
   rw [df (show ¬ i < (x.length : Int) by omega), cond_false, List.drop_eq_nil_of_le (by omega)]
   exact .inl ⟨rfl, rfl⟩
 | succ d ih =>
   intro n i h0 h1 hd hk
   obtain ⟨n, rfl⟩ := succ_fuel hk
   have hw : IntKind.wrap .i64 (i + 1) = i + 1 := w64 (by omega) (by omega)
   have ih2 := ih n (i + 1) (by omega) (by omega) (by omega) (by omega)
   simp only [f_impl_wordsOk.l0]
   rw [dt (show i < (x.length : Int) by omega), dt h0, hw, drop_step x i h0 (by omega)]
   unfold f_impl_wordsOk_1 f_impl_isWord
   simp only [cond_true, Bool.and_self, from_rng, Option.bind_some]
   unfold allW at ih2 ⊢
   rw [List.all_cons]
   cases hr : rng (x.getD i.toNat 0) 65535 with
   | false => exact .inr ⟨rfl, i, h0, rfl⟩
   | true =>
     simp only [Bool.not_true, cond_false, Bool.true_and]
     exact ih2
theorem implWords (x : List Int) (hn : x.length ≤ 1048576) (k : Int) : f_impl_wordsOk x k = some (allW x && decide ((x.length : Int) = k)) := by
 unfold f_impl_wordsOk
 have h := implWords_loop x hn 0 x.length N 0 (by omega) (by omega) (by omega) (Nat.lt_of_le_of_lt (by omega) big)
 simp only [Int.toNat_zero, List.drop_zero] at h
 cases decide ((x.length : Int) = k) with
 | false => simp
 | true =>
   rcases h with ⟨h1, h2⟩ | ⟨h1, j, h3, h2⟩
   · simp only [cond_true, h2, Option.bind_some, h1, Bool.and_true]; rfl
   · simp only [cond_true, h2, Option.bind_some, h1, Bool.and_true]
     show some (!(decide ((0 : Int) ≤ j))) = some false
     rw [dt h3]; rfl
theorem same_frameOk (x0 : Int) (x1 : List Int) (x2 : Bool) (hn : x1.length ≤ 1048576) : ∃ b, f_spec_FrameOk x0 x1 x2 = some b ∧ f_impl_FrameOk x0 x1 x2 = some b := by
 unfold f_spec_FrameOk f_impl_FrameOk
 simp only [specWords x1 hn, implWords x1 hn, in_rng, Option.bind_some]
 by_cases h0 : x0 = 0
 · rw [dt h0]; exact ⟨_, rfl, rfl⟩
 · rw [df h0]
   by_cases h1 : x0 = 1
   · subst h1; exact ⟨_, rfl, rfl⟩
   · by_cases h2 : x0 = 2
     · subst h2; exact ⟨_, rfl, rfl⟩
     · have hr : rng x0 2 = false := by
         unfold rng
         by_cases h3 : 0 ≤ x0
         · rw [dt h3, df (by omega)]; rfl
         · rw [df h3]; rfl
       rw [hr, df h1, df h2]
       exact ⟨_, rfl, rfl⟩
theorem allW_nil (x : List Int) : (allW x && decide ((x.length : Int) = 0)) = decide ((x.length : Int) = 0) := by
 cases x with
 | nil => rfl
 | cons a x =>
   rw [df (by simp; omega), Bool.and_false]
theorem same_msgOk (x0 x1 : Int) (x2 : Bool) (x3 : List Int) (hn : x3.length ≤ 1048576) : ∃ b, f_spec_MsgOk x0 x1 x2 x3 = some b ∧ f_impl_MsgOk x0 x1 x2 x3 = some b := by
 unfold f_spec_MsgOk f_impl_MsgOk f_impl_isPage
 simp only [specWords x3 hn, implWords x3 hn, in_rg, from_rg, Option.bind_some, allW_nil]
 by_cases h3 : x0 = 3
 · subst h3
   rw [show rg 3 1 7 = true from rfl]
   cases rg x1 0 5 <;> cases x2 <;> exact ⟨_, rfl, rfl⟩
 · by_cases h7 : x0 = 7
   · subst h7
     rw [show rg 7 1 7 = true from rfl]
     cases rg x1 0 5 <;> cases x2 <;> exact ⟨_, rfl, rfl⟩
   · by_cases h6 : x0 = 6
     · subst h6
       rw [show rg 6 1 7 = true from rfl]
       cases rg x1 0 5 <;> cases x2 <;> exact ⟨_, rfl, rfl⟩
     · rw [df h3, df h7, df h6]
       cases rg x0 1 7 <;> cases rg x1 0 5 <;> cases x2 <;> exact ⟨_, rfl, rfl⟩
abbrev MsgL := Int × Int × Bool × List Int
noncomputable def tM (e : MsgL) : Bool := (f_spec_MsgOk e.1 e.2.1 e.2.2.1 e.2.2.2).getD false
theorem tM_eq (e : MsgL) (h : e.2.2.2.length ≤ 1048576) : f_spec_MsgOk e.1 e.2.1 e.2.2.1 e.2.2.2 = some (tM e) ∧ f_impl_MsgOk e.1 e.2.1 e.2.2.1 e.2.2.2 = some (tM e) := by
 obtain ⟨b, h1, h2⟩ := same_msgOk e.1 e.2.1 e.2.2.1 e.2.2.2 h
 unfold tM
 rw [h1, h2]
 exact ⟨rfl, rfl⟩
theorem senderS_loop (x : List MsgL) (hn : x.length ≤ 1048576) (he : ∀ e ∈ x, e.2.2.2.length ≤ 1048576) (c : Bool) (a : Int) (k : Nat) : ∀ (n : Nat) (i : Int), 0 ≤ i → i ≤ x.length → (x.length : Int) - i = k → k < n →
   f_spec_SenderOk.l0 n c i a x = some (bif (x.drop i.toNat).all tM then .inr (c, a, x) else .inl false) := by
 induction k with
 | zero =>
   intro n i h0 h1 hd hk
   obtain ⟨n, rfl⟩ := succ_fuel hk
   simp only [f_spec_SenderOk.l0]
   rw [df (show ¬ i < (x.length : Int) by omega), cond_false, List.drop_eq_nil_of_le (by omega)]
   rfl
 | succ k ih =>
   intro n i h0 h1 hd hk
   obtain ⟨n, rfl⟩ := succ_fuel hk
   have hw : IntKind.wrap .i64 (i + 1) = i + 1 := w64 (by omega) (by omega)
   simp only [f_spec_SenderOk.l0]
   rw [dt (show i < (x.length : Int) by omega), dt h0, hw, (tM_eq _ (he _ (mem_getD x (0, 0, false, []) i h0 (by omega)))).1, drop_getD x (0, 0, false, []) i h0 (by omega)]
   simp only [cond_true, Bool.and_self, Option.bind_some, List.all_cons]
   cases tM (x.getD i.toNat (0, 0, false, [])) with
   | false => rfl
   | true =>
     simp only [Bool.not_true, cond_false, Bool.true_and]
     exact ih n (i + 1) (by omega) (by omega) (by omega) (by omega)
theorem senderI_loop (x : List MsgL) (hn : x.length ≤ 1048576) (he : ∀ e ∈ x, e.2.2.2.length ≤ 1048576) (q a : Int) (k : Nat) : ∀ (n : Nat) (i : Int), 0 ≤ i → i ≤ x.length → (x.length : Int) - i = k → k < n →
   ((x.drop i.toNat).all tM = true ∧ f_impl_SenderOk.l0 n x q (x.length : Int) i a x = some (.inr (q, a, x))) ∨ ((x.drop i.toNat).all tM = false ∧ ∃ j : Int, 0 ≤ j ∧ f_impl_SenderOk.l0 n x q (x.length : Int) i a x = some (.inl (j, a, x))) := by
 induction k with
 | zero =>
   intro n i h0 h1 hd hk
   obtain ⟨n, rfl⟩ := succ_fuel hk
   simp only [f_impl_SenderOk.l0]
   rw [df (show ¬ i < (x.length : Int) by omega), cond_false, List.drop_eq_nil_of_le (by omega)]
   exact .inl ⟨rfl, rfl⟩
 | succ k ih =>
   intro n i h0 h1 hd hk
   obtain ⟨n, rfl⟩ := succ_fuel hk
   have hw : IntKind.wrap .i64 (i + 1) = i + 1 := w64 (by omega) (by omega)
   have ih2 := ih n (i + 1) (by omega) (by omega) (by omega) (by omega)
   simp only [f_impl_SenderOk.l0, f_impl_SenderOk_1]
   rw [dt (show i < (x.length : Int) by omega), dt h0, hw, (tM_eq _ (he _ (mem_getD x (0, 0, false, []) i h0 (by omega)))).2, drop_getD x (0, 0, false, []) i h0 (by omega)]
   simp only [cond_true, Bool.and_self, Option.bind_some, List.all_cons]
   cases tM (x.getD i.toNat (0, 0, false, [])) with
   | false => exact .inr ⟨rfl, i, h0, rfl⟩
   | true =>
     simp only [Bool.not_true, cond_false, Bool.true_and]
     exact ih2
theorem same_senderOk (a : Int) (x : List MsgL) (hn : x.length ≤ 1048576) (he : ∀ e ∈ x, e.2.2.2.length ≤ 1048576) : ∃ b, f_spec_SenderOk a x = some b ∧ f_impl_SenderOk a x = some b := by
 unfold f_spec_SenderOk f_impl_SenderOk f_impl_isSeq
 rw [senderS_loop x hn he false a x.length N 0 (by omega) (by omega) (by omega) (lt_N hn)]
 have hi := senderI_loop x hn he 0 a x.length N 0 (by omega) (by omega) (by omega) (lt_N hn)
 simp only [Int.toNat_zero, List.drop_zero, in_rg, from_rg, Option.bind_some] at hi ⊢
 rcases hi with ⟨h1, h2⟩ | ⟨h1, j, h3, h2⟩
 · rw [h1, h2]
   simp only [cond_true, cs, Option.bind_some]
   cases rg a 0 100000 <;> cases decide ((x.length : Int) ≤ 30) <;> cases decide (IntKind.wrap .i64 (a + (x.length : Int)) ≤ 100000) <;> exact ⟨_, rfl, rfl⟩
 · rw [h1, h2]
   simp only [cond_false, cs, Option.bind_some, dt h3]
   cases rg a 0 100000 <;> cases decide ((x.length : Int) ≤ 30) <;> cases decide (IntKind.wrap .i64 (a + (x.length : Int)) ≤ 100000) <;> exact ⟨_, rfl, rfl⟩
structure HomeS (x0 : List Int) (x2 : List Bool) (x7 : List (Int × Bool)) : Prop where
 g0 : x0.length ≤ 1048576
 g2 : x2.length ≤ 1048576
 g7 : x7.length ≤ 1048576
theorem all_loop {α β : Type} {d : α} {F : Nat → Int → Option (Bool ⊕ β)} {q : α → Bool} {b : β} (x : List α) (hx : x.length ≤ 1048576) (h0 : ∀ n i, ¬ i < (x.length : Int) → F (n + 1) i = some (.inr b))
   (h1 : ∀ n i, 0 ≤ i → i < (x.length : Int) → x.getD i.toNat d ∈ x → F (n + 1) i = bif q (x.getD i.toNat d) then F n (i + 1) else some (.inl false)) : F N 0 = some (bif x.all q then .inr b else .inl false) := by
 have step : ∀ (k n : Nat) (i : Int), 0 ≤ i → i ≤ x.length → (x.length : Int) - i = k → k < n → F n i = some (bif (x.drop i.toNat).all q then .inr b else .inl false) := by
   intro k
   induction k with
   | zero =>
     intro n i a0 a1 hd hn
     obtain ⟨n, rfl⟩ := succ_fuel hn
     rw [h0 n i (by omega), List.drop_eq_nil_of_le (by omega)]
     rfl
   | succ k ih =>
     intro n i a0 a1 hd hn
     obtain ⟨n, rfl⟩ := succ_fuel hn
     rw [h1 n i a0 (by omega) (mem_getD x d i a0 (by omega)), drop_getD x d i a0 (by omega), List.all_cons]
     cases q (x.getD i.toNat d) with
     | false => rfl
     | true => simp only [cond_true, Bool.true_and]; exact ih n (i + 1) (by omega) (by omega) (by omega) (by omega)
 have := step x.length N 0 (by omega) (by omega) (by omega) (Nat.lt_of_le_of_lt hx (Nat.lt_trans (by omega) big))
 simpa using this
theorem any_loop {α β γ : Type} {d : α} {F : Nat → Int → Option (β ⊕ γ)} {q : α → Bool} {g : Int → β} {e : γ} (x : List α) (hx : x.length ≤ 1048576) (h0 : ∀ n i, ¬ i < (x.length : Int) → F (n + 1) i = some (.inr e))
   (h1 : ∀ n i, 0 ≤ i → i < (x.length : Int) → x.getD i.toNat d ∈ x → F (n + 1) i = bif q (x.getD i.toNat d) then F n (i + 1) else some (.inl (g i))) : (x.all q = true ∧ F N 0 = some (.inr e)) ∨ (x.all q = false ∧ ∃ j : Int, 0 ≤ j ∧ j < x.length ∧ F N 0 = some (.inl (g j))) := by
 have step : ∀ (k n : Nat) (i : Int), 0 ≤ i → i ≤ x.length → (x.length : Int) - i = k → k < n → ((x.drop i.toNat).all q = true ∧ F n i = some (.inr e)) ∨ ((x.drop i.toNat).all q = false ∧ ∃ j : Int, 0 ≤ j ∧ j < x.length ∧ F n i = some (.inl (g j))) := by
   intro k
   induction k with
   | zero =>
     intro n i a0 a1 hd hn
     obtain ⟨n, rfl⟩ := succ_fuel hn
     rw [h0 n i (by omega), List.drop_eq_nil_of_le (by omega)]
     exact .inl ⟨rfl, rfl⟩
   | succ k ih =>
     intro n i a0 a1 hd hn
     obtain ⟨n, rfl⟩ := succ_fuel hn
     rw [h1 n i a0 (by omega) (mem_getD x d i a0 (by omega)), drop_getD x d i a0 (by omega), List.all_cons]
     cases q (x.getD i.toNat d) with
     | false => exact .inr ⟨rfl, i, a0, by omega, rfl⟩
     | true => simp only [cond_true, Bool.true_and]; exact ih n (i + 1) (by omega) (by omega) (by omega) (by omega)
 have := step x.length N 0 (by omega) (by omega) (by omega) (Nat.lt_of_le_of_lt hx (Nat.lt_trans (by omega) big))
 simpa using this
def rng2 (a x m : Int) : Bool := decide (a ≤ x) && decide (x ≤ m)
theorem in_rng2 (a x m : Int) : f_spec_l1In x a m = some (rng2 a x m) := by
 unfold f_spec_l1In rng2
 cases decide (a ≤ x) <;> rfl
theorem from_rng2 (a x m : Int) : f_impl_from x a m = some (rng2 a x m) := by
 unfold f_impl_from rng2
 cases decide (a ≤ x) <;> rfl
def homeOkB (x0 : List Int) (x1 : Int) (x2 : List Bool) (x4 x6 : Int) (x7 : List (Int × Bool)) (x8 : Int) : Bool :=
 rng2 1 x8 4 && (allW x0 && decide ((x0.length : Int) = 4)) && rng2 (-1) x1 (x8 - 1) && decide ((x2.length : Int) = x8) && rng2 0 x4 (x8 - 1) && rng2 0 x6 x8 && decide ((x7.length : Int) ≤ 12) && x7.all fun e => rng2 0 e.1 (x8 - 1)
theorem isOf_rng (x k : Int) (h0 : 1 ≤ k) (h1 : k ≤ 4) : f_impl_isOf x k = some (rng2 0 x (k - 1)) := by
 unfold f_impl_isOf
 have e : rng2 1 k 4 = true := by unfold rng2; rw [dt h0, dt h1]; rfl
 simp only [from_rng2, e, cond_true, wz (k - 1) (by omega), Option.bind_some]
theorem specHomeOk (x0 : List Int) (x1 : Int) (x2 : List Bool) (x3 : Bool) (x4 : Int) (x5 : Bool) (x6 : Int) (x7 : List (Int × Bool)) (x8 : Int) (h : HomeS x0 x2 x7) : f_spec_HomeOk x0 x1 x2 x3 x4 x5 x6 x7 x8 = some (homeOkB x0 x1 x2 x4 x6 x7 x8) := by
 unfold f_spec_HomeOk homeOkB
 rw [in_rng2]
 cases hr : rng2 1 x8 4 with
 | false => rfl
 | true =>
   have hr' := hr
   unfold rng2 at hr'
   simp only [Bool.and_eq_true, decide_eq_true_eq] at hr'
   have hl := all_loop (d := ((0 : Int), false)) (F := fun n i => f_spec_HomeOk.l0 n x8 false i x0 x1 x2 x3 x4 x5 x6 x7) (q := fun e => rng2 0 e.1 (x8 - 1)) (b := false) x7 h.g7
     (fun n i hi => by simp only [f_spec_HomeOk.l0, df hi, cond_false])
     (fun n i h0 h1 _ => by
       have := h.g7
       simp only [f_spec_HomeOk.l0, dt h1, dt h0, cond_true, Bool.and_self, in_rng2, Option.bind_some, wz (x8 - 1) (by omega), wz (i + 1) (by omega)]
       cases rng2 0 ((x7.getD i.toNat (0, false)).1) (x8 - 1) <;> rfl)
   simp only [in_rng2, specWords x0 h.g0, Option.bind_some, wz (x8 - 1) (by omega), hl]
   cases allW x0 && decide ((x0.length : Int) = 4) <;> cases rng2 (-1) x1 (x8 - 1) <;> cases decide ((x2.length : Int) = x8) <;> cases rng2 0 x4 (x8 - 1) <;> cases rng2 0 x6 x8 <;> try rfl
   by_cases h12 : (x7.length : Int) ≤ 12
   · rw [dt h12, df (by omega)]
     cases x7.all fun e => rng2 0 e.1 (x8 - 1) <;> rfl
   · rw [df h12, dt (by omega)]; rfl
theorem implHomeOk (x0 : List Int) (x1 : Int) (x2 : List Bool) (x3 : Bool) (x4 : Int) (x5 : Bool) (x6 : Int) (x7 : List (Int × Bool)) (x8 : Int) (h : HomeS x0 x2 x7) : f_impl_HomeOk x0 x1 x2 x3 x4 x5 x6 x7 x8 = some (homeOkB x0 x1 x2 x4 x6 x7 x8) := by
 unfold f_impl_HomeOk homeOkB
 rw [from_rng2]
 cases hr : rng2 1 x8 4 with
 | false => rfl
 | true =>
   have hr' := hr
   unfold rng2 at hr'
   simp only [Bool.and_eq_true, decide_eq_true_eq] at hr'
   have hl := any_loop (d := ((0 : Int), false)) (F := fun n i => f_impl_HomeOk.l0 n x7 0 (x7.length : Int) i x0 x1 x2 x3 x4 x5 x6 x7 x8) (q := fun e => rng2 0 e.1 (x8 - 1)) (g := fun i => (i, x0, x1, x2, x3, x4, x5, x6, x7, x8)) (e := (0, x0, x1, x2, x3, x4, x5, x6, x7, x8)) x7 h.g7
     (fun n i hi => by simp only [f_impl_HomeOk.l0, df hi, cond_false])
     (fun n i h0 h1 _ => by
       have := h.g7
       simp only [f_impl_HomeOk.l0, f_impl_HomeOk_1, dt h1, dt h0, cond_true, Bool.and_self, isOf_rng _ _ hr'.1 hr'.2, Option.bind_some, wz (i + 1) (by omega)]
       cases rng2 0 ((x7.getD i.toNat (0, false)).1) (x8 - 1) <;> rfl)
   simp only [from_rng2, implWords x0 h.g0, Option.bind_some, isOf_rng _ _ hr'.1 hr'.2, wz (x8 - 1) (by omega)]
   cases allW x0 && decide ((x0.length : Int) = 4) <;> cases rng2 (-1) x1 (x8 - 1) <;> cases decide ((x2.length : Int) = x8) <;> cases rng2 0 x4 (x8 - 1) <;> cases rng2 0 x6 x8 <;> try rfl
   cases decide ((x7.length : Int) ≤ 12) with
   | false => rfl
   | true =>
     rcases hl with ⟨e1, e2⟩ | ⟨e1, j, e3, _, e2⟩
     · simp only [e2, e1]; rfl
     · simp only [e2, e1, Option.bind_some]
       show some (!(decide ((0 : Int) ≤ j))) = some false
       rw [dt e3]; rfl
theorem all2_loop {α α' β : Type} {d : α} {d' : α'} {F : Nat → Int → Option (Bool ⊕ β)} {q : α → Bool} {r : α' → Bool} {b : β} (x : List α) (y : List α') (hx : x.length ≤ 1048576) (hy : y.length = x.length) (h0 : ∀ n i, ¬ i < (x.length : Int) → F (n + 1) i = some (.inr b))
   (h1 : ∀ n i, 0 ≤ i → i < (x.length : Int) → x.getD i.toNat d ∈ x → y.getD i.toNat d' ∈ y → F (n + 1) i = bif q (x.getD i.toNat d) then (bif r (y.getD i.toNat d') then F n (i + 1) else some (.inl false)) else some (.inl false)) : F N 0 = some (bif x.all q && y.all r then .inr b else .inl false) := by
 have step : ∀ (k n : Nat) (i : Int), 0 ≤ i → i ≤ x.length → (x.length : Int) - i = k → k < n → F n i = some (bif (x.drop i.toNat).all q && (y.drop i.toNat).all r then .inr b else .inl false) := by
   intro k
   induction k with
   | zero =>
     intro n i a0 a1 hd hn
     obtain ⟨n, rfl⟩ := succ_fuel hn
     rw [h0 n i (by omega), List.drop_eq_nil_of_le (by omega), List.drop_eq_nil_of_le (by omega)]
     rfl
   | succ k ih =>
     intro n i a0 a1 hd hn
     obtain ⟨n, rfl⟩ := succ_fuel hn
     rw [h1 n i a0 (by omega) (mem_getD x d i a0 (by omega)) (mem_getD y d' i a0 (by omega)), drop_getD x d i a0 (by omega), drop_getD y d' i a0 (by omega), List.all_cons, List.all_cons]
     cases q (x.getD i.toNat d) with
     | false => rfl
     | true =>
       cases r (y.getD i.toNat d') with
       | false => simp
       | true => simp only [cond_true, Bool.true_and]; exact ih n (i + 1) (by omega) (by omega) (by omega) (by omega)
 have := step x.length N 0 (by omega) (by omega) (by omega) (Nat.lt_of_le_of_lt hx (Nat.lt_trans (by omega) big))
 simpa using this
abbrev FrameT := Int × List Int × Bool
def okFrame (e : FrameT) : Prop := e.2.1.length ≤ 1048576
abbrev HomeT := List Int × Int × List Bool × Bool × Int × Bool × Int × List (Int × Bool)
def okHome (e : HomeT) : Prop := HomeS e.1 e.2.2.1 e.2.2.2.2.2.2.2
abbrev SenderT := Int × List MsgL
def okSender (e : SenderT) : Prop := e.2.length ≤ 1048576 ∧ ∀ f ∈ e.2, f.2.2.2.length ≤ 1048576
structure NodeK (x1 : List FrameT) (x2 : List HomeT) (x3 : List SenderT) (x4 : List Int) : Prop where
 l1 : x1.length ≤ 1048576
 l2 : x2.length ≤ 1048576
 l3 : x3.length ≤ 1048576
 l4 : x4.length ≤ 1048576
 e1 : ∀ e ∈ x1, okFrame e
 e2 : ∀ e ∈ x2, okHome e
 e3 : ∀ e ∈ x3, okSender e
noncomputable def tF (e : FrameT) : Bool := (f_spec_FrameOk e.1 e.2.1 e.2.2).getD false
theorem tF_eq (e : FrameT) (h : okFrame e) : f_spec_FrameOk e.1 e.2.1 e.2.2 = some (tF e) ∧ f_impl_FrameOk e.1 e.2.1 e.2.2 = some (tF e) := by
 obtain ⟨b, h1, h2⟩ := same_frameOk e.1 e.2.1 e.2.2 h
 unfold tF
 rw [h1, h2]
 exact ⟨rfl, rfl⟩
noncomputable def tS (e : SenderT) : Bool := (f_spec_SenderOk e.1 e.2).getD false
theorem tS_eq (e : SenderT) (h : okSender e) : f_spec_SenderOk e.1 e.2 = some (tS e) ∧ f_impl_SenderOk e.1 e.2 = some (tS e) := by
 obtain ⟨b, h1, h2⟩ := same_senderOk e.1 e.2 h.1 h.2
 unfold tS
 rw [h1, h2]
 exact ⟨rfl, rfl⟩
def tH (k : Int) (e : HomeT) : Bool := homeOkB e.1 e.2.1 e.2.2.1 e.2.2.2.2.1 e.2.2.2.2.2.2.1 e.2.2.2.2.2.2.2 k
theorem tH_eq (k : Int) (e : HomeT) (h : okHome e) : f_spec_HomeOk e.1 e.2.1 e.2.2.1 e.2.2.2.1 e.2.2.2.2.1 e.2.2.2.2.2.1 e.2.2.2.2.2.2.1 e.2.2.2.2.2.2.2 k = some (tH k e) ∧ f_impl_HomeOk e.1 e.2.1 e.2.2.1 e.2.2.2.1 e.2.2.2.2.1 e.2.2.2.2.2.1 e.2.2.2.2.2.2.1 e.2.2.2.2.2.2.2 k = some (tH k e) :=
 ⟨specHomeOk _ _ _ _ _ _ _ _ _ h, implHomeOk _ _ _ _ _ _ _ _ _ h⟩
noncomputable def nodeOkB (x0 : Int) (x1 : List FrameT) (x2 : List HomeT) (x3 : List SenderT) (x4 : List Int) (k : Int) : Bool :=
 rng2 1 k 4 && (rng2 0 x0 (k - 1) && (decide ((x1.length : Int) = 6) && (decide ((x2.length : Int) = 6) && (decide ((x3.length : Int) = k) && (decide ((x4.length : Int) = k) && ((x1.all tF && x2.all (tH k)) && (x3.all tS && x4.all fun e => rng2 0 e 100000)))))))
theorem specNodeOk (x0 : Int) (x1 : List FrameT) (x2 : List HomeT) (x3 : List SenderT) (x4 : List Int) (k : Int) (h : NodeK x1 x2 x3 x4) : f_spec_NodeOk x0 x1 x2 x3 x4 k = some (nodeOkB x0 x1 x2 x3 x4 k) := by
 unfold f_spec_NodeOk nodeOkB
 rw [in_rng2]
 cases hr : rng2 1 k 4 with
 | false => rfl
 | true =>
   have hr' := hr
   unfold rng2 at hr'
   simp only [Bool.and_eq_true, decide_eq_true_eq] at hr'
   simp only [in_rng2, Option.bind_some, wz (k - 1) (by omega)]
   cases rng2 0 x0 (k - 1) with
   | false => rfl
   | true =>
     by_cases h1 : (x1.length : Int) = 6
     · rw [dt h1]
       by_cases h2 : (x2.length : Int) = 6
       · rw [dt h2]
         by_cases h3 : (x3.length : Int) = k
         · rw [dt h3]
           by_cases h4 : (x4.length : Int) = k
           · rw [dt h4]
             have e0 := all2_loop (d := ((0 : Int), ([] : List Int), false)) (d' := (([] : List Int), (0 : Int), ([] : List Bool), false, (0 : Int), false, (0 : Int), ([] : List (Int × Bool)))) (F := fun n i => f_spec_NodeOk.l0 n k false i x0 x1 x2 x3 x4) (q := tF) (r := tH k) (b := (k, false, x0, x1, x2, x3, x4)) x1 x2 h.l1 (by omega)
               (fun n i hi => by simp only [f_spec_NodeOk.l0, df (show ¬ i < 6 by omega), cond_false])
               (fun n i a0 a1 m1 m2 => by
                 simp only [f_spec_NodeOk.l0, dt (show i < 6 by omega), dt a0, dt a1, dt (show i < (x2.length : Int) by omega), cond_true, Bool.and_self, (tF_eq _ (h.e1 _ m1)).1, (tH_eq k _ (h.e2 _ m2)).1, Option.bind_some, wz (i + 1) (by omega)]
                 cases tF (x1.getD i.toNat (0, [], false)) <;> cases tH k (x2.getD i.toNat ([], 0, [], false, 0, false, 0, [])) <;> rfl)
             have e1 := all2_loop (d := ((0 : Int), ([] : List MsgL))) (d' := (0 : Int)) (F := fun n i => f_spec_NodeOk.l1 n k false i x0 x1 x2 x3 x4) (q := tS) (r := fun e => rng2 0 e 100000) (b := false) x3 x4 h.l3 (by omega)
               (fun n i hi => by simp only [f_spec_NodeOk.l1, df (show ¬ i < k by omega), cond_false])
               (fun n i a0 a1 m1 m2 => by
                 simp only [f_spec_NodeOk.l1, dt (show i < k by omega), dt a0, dt a1, dt (show i < (x4.length : Int) by omega), cond_true, Bool.and_self, (tS_eq _ (h.e3 _ m1)).1, in_rng2, Option.bind_some, wz (i + 1) (by omega)]
                 cases tS (x3.getD i.toNat (0, [])) <;> cases rng2 0 (x4.getD i.toNat 0) 100000 <;> rfl)
             simp only [Bool.not_true, cond_false, e0, Option.bind_some, Bool.true_and]
             cases x1.all tF && x2.all (tH k) with
             | false => rfl
             | true =>
               simp only [cond_true, cs, e1, Option.bind_some, Bool.true_and]
               cases x3.all tS && x4.all fun e => rng2 0 e 100000 <;> rfl
           · rw [df h4]; rfl
         · rw [df h3]; rfl
       · rw [df h2]; rfl
     · rw [df h1]; rfl
theorem implNodeOk (x0 : Int) (x1 : List FrameT) (x2 : List HomeT) (x3 : List SenderT) (x4 : List Int) (k : Int) (h : NodeK x1 x2 x3 x4) : f_impl_NodeOk x0 x1 x2 x3 x4 k = some (nodeOkB x0 x1 x2 x3 x4 k) := by
 unfold f_impl_NodeOk nodeOkB f_impl_isOf
 rw [from_rng2]
 cases hr : rng2 1 k 4 with
 | false => rfl
 | true =>
   have hr' := hr
   unfold rng2 at hr'
   simp only [Bool.and_eq_true, decide_eq_true_eq] at hr'
   simp only [from_rng2, cond_true, Option.bind_some, wz (k - 1) (by omega), Bool.true_and]
   have f0 := any_loop (d := ((0 : Int), ([] : List Int), false)) (F := fun n i => f_impl_NodeOk.l0 n x1 0 (x1.length : Int) i x0 x1 x2 x3 x4 k) (q := tF) (g := fun i => (i, x0, x1, x2, x3, x4, k)) (e := (0, x0, x1, x2, x3, x4, k)) x1 h.l1
     (fun n i hi => by simp only [f_impl_NodeOk.l0, df hi, cond_false])
     (fun n i a0 a1 m => by
       have := h.l1
       simp only [f_impl_NodeOk.l0, f_impl_NodeOk_1, dt a1, dt a0, cond_true, Bool.and_self, (tF_eq _ (h.e1 _ m)).2, Option.bind_some, wz (i + 1) (by omega)]
       cases tF (x1.getD i.toNat (0, [], false)) <;> rfl)
   have f7 := any_loop (d := (([] : List Int), (0 : Int), ([] : List Bool), false, (0 : Int), false, (0 : Int), ([] : List (Int × Bool)))) (F := fun n i => f_impl_NodeOk.l7 n x2 0 (x2.length : Int) i x0 x1 x2 x3 x4 k) (q := tH k) (g := fun i => (i, x0, x1, x2, x3, x4, k)) (e := (0, x0, x1, x2, x3, x4, k)) x2 h.l2
     (fun n i hi => by simp only [f_impl_NodeOk.l7, df hi, cond_false])
     (fun n i a0 a1 m => by
       have := h.l2
       simp only [f_impl_NodeOk.l7, f_impl_NodeOk_2, dt a1, dt a0, cond_true, Bool.and_self, (tH_eq k _ (h.e2 _ m)).2, Option.bind_some, wz (i + 1) (by omega)]
       cases tH k (x2.getD i.toNat ([], 0, [], false, 0, false, 0, [])) <;> rfl)
   have f8 := any_loop (d := ((0 : Int), ([] : List MsgL))) (F := fun n i => f_impl_NodeOk.l8 n x3 0 (x3.length : Int) i x0 x1 x2 x3 x4 k) (q := tS) (g := fun i => (i, x0, x1, x2, x3, x4, k)) (e := (0, x0, x1, x2, x3, x4, k)) x3 h.l3
     (fun n i hi => by simp only [f_impl_NodeOk.l8, df hi, cond_false])
     (fun n i a0 a1 m => by
       have := h.l3
       simp only [f_impl_NodeOk.l8, f_impl_NodeOk_3, dt a1, dt a0, cond_true, Bool.and_self, (tS_eq _ (h.e3 _ m)).2, Option.bind_some, wz (i + 1) (by omega)]
       cases tS (x3.getD i.toNat (0, [])) <;> rfl)
   have f9 := any_loop (d := (0 : Int)) (F := fun n i => f_impl_NodeOk.l9 n x4 0 (x4.length : Int) i x0 x1 x2 x3 x4 k) (q := fun e => rng2 0 e 100000) (g := fun i => (i, x0, x1, x2, x3, x4, k)) (e := (0, x0, x1, x2, x3, x4, k)) x4 h.l4
     (fun n i hi => by simp only [f_impl_NodeOk.l9, df hi, cond_false])
     (fun n i a0 a1 m => by
       have := h.l4
       simp only [f_impl_NodeOk.l9, f_impl_NodeOk_4, f_impl_isSeq, dt a1, dt a0, cond_true, Bool.and_self, from_rng2, Option.bind_some, wz (i + 1) (by omega)]
       cases rng2 0 (x4.getD i.toNat 0) 100000 <;> rfl)
   cases rng2 0 x0 (k - 1) <;> cases decide ((x1.length : Int) = 6) <;> cases decide ((x2.length : Int) = 6) <;> cases decide ((x3.length : Int) = k) <;> cases decide ((x4.length : Int) = k) <;> try rfl
   rcases f0 with ⟨q0, e0⟩ | ⟨q0, j, j0, -, e0⟩
   · rcases f7 with ⟨q7, e7⟩ | ⟨q7, j, j0, -, e7⟩
     · rcases f8 with ⟨q8, e8⟩ | ⟨q8, j, j0, -, e8⟩
       · rcases f9 with ⟨q9, e9⟩ | ⟨q9, j, j0, -, e9⟩
         · simp only [cond_true, e0, e7, e8, e9, q0, q7, q8, q9, Option.bind_some, cs, Bool.and_self]
         · simp only [cond_true, e0, e7, e8, e9, q0, q7, q8, q9, Option.bind_some, cs, Bool.and_self, Bool.and_false, dt j0, Bool.not_true]
       · simp only [cond_true, e0, e7, e8, q0, q7, q8, Option.bind_some, cs, Bool.and_self, Bool.and_false, Bool.false_and, dt j0, Bool.not_true, cond_false]
     · simp only [cond_true, e0, e7, q0, q7, Option.bind_some, cs, Bool.and_false, Bool.false_and, dt j0, Bool.not_true, cond_false]
   · simp only [cond_true, e0, q0, Option.bind_some, cs, Bool.and_false, Bool.false_and, dt j0, Bool.not_true, cond_false]
theorem same_packetOk (x0 x1 : Int) (x2 : Bool) (x3 x4 x5 : Int) (x6 : Bool) (x7 : List Int) (x8 : Int) (hn : x7.length ≤ 1048576) : ∃ b, f_spec_PacketOk x0 x1 x2 x3 x4 x5 x6 x7 x8 = some b ∧ f_impl_PacketOk x0 x1 x2 x3 x4 x5 x6 x7 x8 = some b := by
 obtain ⟨b, h1, h2⟩ := same_msgOk x4 x5 x6 x7 hn
 unfold f_spec_PacketOk f_impl_PacketOk f_impl_isOf f_impl_isSeq
 simp only [in_rg, from_rg, Option.bind_some, h1, h2]
 cases rg x8 1 4 with
 | false => exact ⟨_, rfl, rfl⟩
 | true =>
   cases rg x0 0 (IntKind.wrap .i64 (x8 - 1)) with
   | false => exact ⟨_, rfl, rfl⟩
   | true =>
     cases rg x1 0 (IntKind.wrap .i64 (x8 - 1)) with
     | false => exact ⟨_, rfl, rfl⟩
     | true =>
       cases rg x3 0 100000 with
       | false => exact ⟨_, rfl, rfl⟩
       | true => cases x2 <;> cases decide (x4 = 0) <;> cases decide (x5 = 0) <;> cases x6 <;> exact ⟨_, rfl, rfl⟩
abbrev NodeT := Int × List FrameT × List HomeT × List SenderT × List Int
def okNode (e : NodeT) : Prop := NodeK e.2.1 e.2.2.1 e.2.2.2.1 e.2.2.2.2
abbrev PacketT := Int × Int × Bool × Int × Int × Int × Bool × List Int
def okPacket (e : PacketT) : Prop := e.2.2.2.2.2.2.2.length ≤ 1048576
def allF {α : Type} (q : Int → α → Bool) : Int → List α → Bool
 | _, [] => true
 | i, a :: x => q i a && allF q (i + 1) x
theorem alli_loop {α β : Type} {d : α} {F : Nat → Int → Option (Bool ⊕ β)} {q : Int → α → Bool} {b : β} (x : List α) (hx : x.length ≤ 1048576) (h0 : ∀ n i, ¬ i < (x.length : Int) → F (n + 1) i = some (.inr b))
   (h1 : ∀ n i, 0 ≤ i → i < (x.length : Int) → x.getD i.toNat d ∈ x → F (n + 1) i = bif q i (x.getD i.toNat d) then F n (i + 1) else some (.inl false)) : F N 0 = some (bif allF q 0 x then .inr b else .inl false) := by
 have step : ∀ (k n : Nat) (i : Int), 0 ≤ i → i ≤ x.length → (x.length : Int) - i = k → k < n → F n i = some (bif allF q i (x.drop i.toNat) then .inr b else .inl false) := by
   intro k
   induction k with
   | zero =>
     intro n i a0 a1 hd hn
     obtain ⟨n, rfl⟩ := succ_fuel hn
     rw [h0 n i (by omega), List.drop_eq_nil_of_le (by omega)]
     rfl
   | succ k ih =>
     intro n i a0 a1 hd hn
     obtain ⟨n, rfl⟩ := succ_fuel hn
     rw [h1 n i a0 (by omega) (mem_getD x d i a0 (by omega)), drop_getD x d i a0 (by omega)]
     unfold allF
     cases q i (x.getD i.toNat d) with
     | false => rfl
     | true => simp only [cond_true, Bool.true_and]; exact ih n (i + 1) (by omega) (by omega) (by omega) (by omega)
 have := step x.length N 0 (by omega) (by omega) (by omega) (Nat.lt_of_le_of_lt hx (Nat.lt_trans (by omega) big))
 simpa using this
structure WorldK (x1 : List NodeT) (x2 : List PacketT) : Prop where
 l1 : x1.length ≤ 1048576
 l2 : x2.length ≤ 1048576
 e1 : ∀ e ∈ x1, okNode e
 e2 : ∀ e ∈ x2, okPacket e
noncomputable def tP (k : Int) (e : PacketT) : Bool := (f_spec_PacketOk e.1 e.2.1 e.2.2.1 e.2.2.2.1 e.2.2.2.2.1 e.2.2.2.2.2.1 e.2.2.2.2.2.2.1 e.2.2.2.2.2.2.2 k).getD false
theorem tP_eq (k : Int) (e : PacketT) (h : okPacket e) : f_spec_PacketOk e.1 e.2.1 e.2.2.1 e.2.2.2.1 e.2.2.2.2.1 e.2.2.2.2.2.1 e.2.2.2.2.2.2.1 e.2.2.2.2.2.2.2 k = some (tP k e) ∧ f_impl_PacketOk e.1 e.2.1 e.2.2.1 e.2.2.2.1 e.2.2.2.2.1 e.2.2.2.2.2.1 e.2.2.2.2.2.2.1 e.2.2.2.2.2.2.2 k = some (tP k e) := by
 obtain ⟨b, h1, h2⟩ := same_packetOk e.1 e.2.1 e.2.2.1 e.2.2.2.1 e.2.2.2.2.1 e.2.2.2.2.2.1 e.2.2.2.2.2.2.1 e.2.2.2.2.2.2.2 k h
 unfold tP
 rw [h1, h2]
 exact ⟨rfl, rfl⟩
noncomputable def tN (k i : Int) (e : NodeT) : Bool := nodeOkB e.1 e.2.1 e.2.2.1 e.2.2.2.1 e.2.2.2.2 k && decide (e.1 = i)
noncomputable def worldOkB (x0 : Int) (x1 : List NodeT) (x2 : List PacketT) : Bool := rng2 1 x0 4 && (decide ((x1.length : Int) = x0) && (!(decide ((40 : Int) < (x2.length : Int))) && (allF (tN x0) 0 x1 && x2.all (tP x0))))
theorem specWorldOk (x0 : Int) (x1 : List NodeT) (x2 : List PacketT) (h : WorldK x1 x2) : f_spec_WorldOk x0 x1 x2 = some (worldOkB x0 x1 x2) := by
 unfold f_spec_WorldOk worldOkB
 rw [in_rng2]
 cases hr : rng2 1 x0 4 with
 | false => rfl
 | true =>
   simp only [Option.bind_some, Bool.not_true, cond_false, Bool.true_and]
   by_cases h1 : (x1.length : Int) = x0
   · rw [dt h1]
     cases decide ((40 : Int) < (x2.length : Int)) with
     | true => rfl
     | false =>
       have e0 := alli_loop (d := ((0 : Int), ([] : List FrameT), ([] : List HomeT), ([] : List SenderT), ([] : List Int))) (F := fun n i => f_spec_WorldOk.l0 n false i x0 x1 x2) (q := tN x0) (b := (false, x0, x1, x2)) x1 h.l1
         (fun n i hi => by simp only [f_spec_WorldOk.l0, df (show ¬ i < x0 by omega), cond_false])
         (fun n i a0 a1 m => by
           have := h.l1
           simp only [f_spec_WorldOk.l0, dt (show i < x0 by omega), dt a0, dt a1, cond_true, Bool.and_self, specNodeOk _ _ _ _ _ _ (h.e1 _ m), Option.bind_some, wz (i + 1) (by omega)]
           unfold tN
           cases nodeOkB (x1.getD i.toNat (0, [], [], [], [])).1 (x1.getD i.toNat (0, [], [], [], [])).2.1 (x1.getD i.toNat (0, [], [], [], [])).2.2.1 (x1.getD i.toNat (0, [], [], [], [])).2.2.2.1 (x1.getD i.toNat (0, [], [], [], [])).2.2.2.2 x0 <;> cases decide ((x1.getD i.toNat (0, [], [], [], [])).1 = i) <;> rfl)
       have e1 := all_loop (d := ((0 : Int), (0 : Int), false, (0 : Int), (0 : Int), (0 : Int), false, ([] : List Int))) (F := fun n i => f_spec_WorldOk.l1 n false i x0 x1 x2) (q := tP x0) (b := false) x2 h.l2
         (fun n i hi => by simp only [f_spec_WorldOk.l1, df hi, cond_false])
         (fun n i a0 a1 m => by
           have := h.l2
           simp only [f_spec_WorldOk.l1, dt a0, dt a1, cond_true, Bool.and_self, (tP_eq x0 _ (h.e2 _ m)).1, Option.bind_some, wz (i + 1) (by omega)]
           cases tP x0 (x2.getD i.toNat (0, 0, false, 0, 0, 0, false, [])) <;> rfl)
       simp only [Bool.not_true, cond_false, e0, Option.bind_some]
       cases allF (tN x0) 0 x1 with
       | false => rfl
       | true =>
         simp only [cond_true, cs, e1, Option.bind_some]
         cases x2.all (tP x0) <;> rfl
   · rw [df h1]; rfl
theorem implWorldOk (x0 : Int) (x1 : List NodeT) (x2 : List PacketT) (h : WorldK x1 x2) : f_impl_WorldOk x0 x1 x2 = some (worldOkB x0 x1 x2) := by
 unfold f_impl_WorldOk worldOkB
 rw [from_rng2]
 cases hr : rng2 1 x0 4 with
 | false => rfl
 | true =>
   simp only [Option.bind_some, Bool.not_true, cond_false, Bool.true_and]
   by_cases h1 : (x1.length : Int) = x0
   · rw [dt h1]
     cases decide ((40 : Int) < (x2.length : Int)) with
     | true => rfl
     | false =>
       have e0 := alli_loop (d := ((0 : Int), ([] : List FrameT), ([] : List HomeT), ([] : List SenderT), ([] : List Int))) (F := fun n i => f_impl_WorldOk.l0 n false x1 (x1.length : Int) i x0 x1 x2) (q := tN x0) (b := (false, x0, x1, x2)) x1 h.l1
         (fun n i hi => by simp only [f_impl_WorldOk.l0, df hi, cond_false])
         (fun n i a0 a1 m => by
           have := h.l1
           simp only [f_impl_WorldOk.l0, dt a0, dt a1, cond_true, Bool.and_self, implNodeOk _ _ _ _ _ _ (h.e1 _ m), Option.bind_some, wz (i + 1) (by omega)]
           unfold tN
           cases nodeOkB (x1.getD i.toNat (0, [], [], [], [])).1 (x1.getD i.toNat (0, [], [], [], [])).2.1 (x1.getD i.toNat (0, [], [], [], [])).2.2.1 (x1.getD i.toNat (0, [], [], [], [])).2.2.2.1 (x1.getD i.toNat (0, [], [], [], [])).2.2.2.2 x0 <;> cases decide ((x1.getD i.toNat (0, [], [], [], [])).1 = i) <;> rfl)
       have f1 := any_loop (d := ((0 : Int), (0 : Int), false, (0 : Int), (0 : Int), (0 : Int), false, ([] : List Int))) (F := fun n i => f_impl_WorldOk.l1 n x2 0 (x2.length : Int) i x0 x1 x2) (q := tP x0) (g := fun i => (i, x0, x1, x2)) (e := (0, x0, x1, x2)) x2 h.l2
         (fun n i hi => by simp only [f_impl_WorldOk.l1, df hi, cond_false])
         (fun n i a0 a1 m => by
           have := h.l2
           simp only [f_impl_WorldOk.l1, f_impl_WorldOk_1, dt a0, dt a1, cond_true, Bool.and_self, (tP_eq x0 _ (h.e2 _ m)).2, Option.bind_some, wz (i + 1) (by omega)]
           cases tP x0 (x2.getD i.toNat (0, 0, false, 0, 0, 0, false, [])) <;> rfl)
       simp only [Bool.not_true, cond_false, e0, Option.bind_some]
       cases allF (tN x0) 0 x1 with
       | false => rfl
       | true =>
         rcases f1 with ⟨q1, e1⟩ | ⟨q1, j, j0, -, e1⟩
         · simp only [cond_true, cs, e1, q1, Option.bind_some, Bool.not_false, Bool.and_self]
         · simp only [cond_true, cs, e1, q1, Option.bind_some, dt j0, Bool.not_true, Bool.not_false, Bool.and_false]
   · rw [df h1]; rfl
def sumW {α : Type} (W : α → Int) : List α → Int
 | [] => 0
 | a :: x => W a + sumW W x
def wFrame (e : FrameT) : Int := 2 + (e.2.1.length : Int)
def wHome (e : HomeT) : Int := 5 + (e.1.length : Int) + (e.2.2.1.length : Int) + 2 * (e.2.2.2.2.2.2.2.length : Int)
def wMsg (e : MsgL) : Int := 3 + (e.2.2.2.length : Int)
def wSender (e : SenderT) : Int := 1 + sumW wMsg e.2
def wNode (x1 : List FrameT) (x2 : List HomeT) (x3 : List SenderT) (x4 : List Int) : Int := sumW wFrame x1 + sumW wHome x2 + sumW wSender x3 + (x4.length : Int)
def wNodeE (e : NodeT) : Int := 1 + wNode e.2.1 e.2.2.1 e.2.2.2.1 e.2.2.2.2
theorem tF_state (e : FrameT) (h : tF e = true) : 0 ≤ e.1 ∧ e.1 ≤ 2 := by
 unfold tF f_spec_FrameOk at h
 by_cases h0 : e.1 = 0
 · omega
 · simp only [df h0, cond_false, in_rng, Option.bind_some] at h
   by_cases h1 : rng e.1 2 = true
   · simpa only [rng, Bool.and_eq_true, decide_eq_true_eq] using h1
   · rw [Bool.not_eq_true] at h1
     rw [h1] at h
     cases h
theorem allF_mem {α : Type} {q : Int → α → Bool} : ∀ (x : List α) (i : Int), allF q i x = true → ∀ j (hj : j < x.length), q (i + j) x[j] = true
 | [], _, _, j, hj => by cases hj
 | a :: x, i, h, 0, hj => by
   unfold allF at h
   rw [Bool.and_eq_true] at h
   simpa using h.1
 | a :: x, i, h, j + 1, hj => by
   unfold allF at h
   rw [Bool.and_eq_true] at h
   have := allF_mem x (i + 1) h.2 j (by simpa using hj)
   rw [show i + ((j + 1 : Nat) : Int) = i + 1 + (j : Int) by omega]
   simpa using this
structure NodeFacts (e : NodeT) (k i : Int) : Prop where
 a : e.1 = i
 l1 : e.2.1.length = 6
 l2 : e.2.2.1.length = 6
 l3 : (e.2.2.2.1.length : Int) = k
 l4 : (e.2.2.2.2.length : Int) = k
 f : ∀ g ∈ e.2.1, tF g = true
 h : ∀ g ∈ e.2.2.1, tH k g = true
 s : ∀ g ∈ e.2.2.2.1, tS g = true
 r : ∀ g ∈ e.2.2.2.2, 0 ≤ g ∧ g ≤ 100000
theorem nodeFacts (x0 : Int) (x1 : List FrameT) (x2 : List HomeT) (x3 : List SenderT) (x4 : List Int) (k : Int) (h : nodeOkB x0 x1 x2 x3 x4 k = true) : (1 ≤ k ∧ k ≤ 4) ∧ (0 ≤ x0 ∧ x0 ≤ k - 1) ∧ NodeFacts (x0, x1, x2, x3, x4) k x0 := by
 unfold nodeOkB rng2 at h
 simp only [Bool.and_eq_true, decide_eq_true_eq, List.all_eq_true] at h
 obtain ⟨h1, h2, h3, h4, h5, h6, ⟨h7, h8⟩, h9, h10⟩ := h
 exact ⟨h1, h2, rfl, show x1.length = 6 by omega, show x2.length = 6 by omega, h5, h6, h7, h8, h9, h10⟩
structure WorldFacts (x0 : Int) (x1 : List NodeT) (x2 : List PacketT) : Prop where
 k : 1 ≤ x0 ∧ x0 ≤ 4
 l1 : (x1.length : Int) = x0
 l2 : x2.length ≤ 40
 n : ∀ j (hj : j < x1.length), NodeFacts x1[j] x0 (j : Int)
 p : ∀ e ∈ x2, tP x0 e = true
theorem worldFacts (x0 : Int) (x1 : List NodeT) (x2 : List PacketT) (h : worldOkB x0 x1 x2 = true) : WorldFacts x0 x1 x2 := by
 unfold worldOkB rng2 at h
 simp only [Bool.and_eq_true, decide_eq_true_eq, List.all_eq_true, Bool.not_eq_true', decide_eq_false_iff_not] at h
 obtain ⟨h1, h2, h3, h4, h5⟩ := h
 refine ⟨h1, h2, by omega, fun j hj => ?_, h5⟩
 have := allF_mem x1 0 h4 j hj
 unfold tN at this
 rw [Bool.and_eq_true, decide_eq_true_eq] at this
 obtain ⟨-, -, q⟩ := nodeFacts _ _ _ _ _ _ this.1
 exact ⟨by omega, q.l1, q.l2, q.l3, q.l4, q.f, q.h, q.s, q.r⟩
theorem worldAt {x0 : Int} {x1 : List NodeT} {x2 : List PacketT} (w : WorldFacts x0 x1 x2) (i : Int) (h0 : 0 ≤ i) (h1 : i < (x1.length : Int)) : NodeFacts (x1.getD i.toNat (0, [], [], [], [])) x0 i := by
 have hj : i.toNat < x1.length := by omega
 have := w.n i.toNat hj
 rw [List.getD_eq_getElem?_getD, List.getElem?_eq_getElem hj]
 rw [show ((i.toNat : Nat) : Int) = i by omega] at this
 exact this
theorem cp_gen {α τ : Type} {d : α} {F : Nat → Int → List α → Option τ} {R : List α → τ} (x : List α) (hx : x.length ≤ 1048576) (h0 : ∀ n i y, ¬ i < (x.length : Int) → F (n + 1) i y = some (R y))
   (h1 : ∀ n i y, 0 ≤ i → i < (x.length : Int) → x.getD i.toNat d ∈ x → y.length ≤ 1048576 → F (n + 1) i y = F n (i + 1) (y ++ [x.getD i.toNat d])) : F N 0 [] = some (R x) := by
 have step : ∀ (k n : Nat) (i : Int) (y : List α), 0 ≤ i → i ≤ x.length → (x.length : Int) - i = k → k < n → y = x.take i.toNat → F n i y = some (R x) := by
   intro k
   induction k with
   | zero =>
     intro n i y a0 a1 hd hn hy
     obtain ⟨n, rfl⟩ := succ_fuel hn
     rw [h0 n i y (by omega), hy, List.take_of_length_le (by omega)]
   | succ k ih =>
     intro n i y a0 a1 hd hn hy
     obtain ⟨n, rfl⟩ := succ_fuel hn
     rw [h1 n i y a0 (by omega) (mem_getD x d i a0 (by omega)) (by rw [hy, List.length_take]; omega)]
     refine ih n (i + 1) _ (by omega) (by omega) (by omega) (by omega) ?_
     have e : (i + 1).toNat = i.toNat + 1 := by omega
     have hlt : i.toNat < x.length := by omega
     rw [e, List.take_add_one, List.getElem?_eq_getElem hlt, hy, List.getD_eq_getElem?_getD, List.getElem?_eq_getElem hlt]
     rfl
 exact step x.length N 0 [] (by omega) (by omega) (by omega) (Nat.lt_of_le_of_lt hx (Nat.lt_trans (by omega) big)) rfl
theorem specSenderCopy (a : Int) (x : List MsgL) (hn : x.length ≤ 1048576) (he : ∀ e ∈ x, e.2.2.2.length ≤ 1048576) : f_spec_l2Sender a x = some (a, x) := by
 unfold f_spec_l2Sender
 have c1 := cp_gen (d := ((0 : Int), (0 : Int), false, ([] : List Int))) (F := fun n i y => f_spec_l2Sender.l0 n i a x 0 a [] y) (R := fun y => (0, a, ([] : List MsgL), y)) x hn (fun n i y hi => by simp only [f_spec_l2Sender.l0, df hi, cond_false])
   (fun n i y a0 a1 hm hy => by
     have hk : (x.getD i.toNat (0, 0, false, [])).2.2.2.length ≤ 1048576 := he _ hm
     simp only [f_spec_l2Sender.l0, f_spec_l1Msg, dt a0, dt a1, cond_true, Bool.and_self, List.length_nil, Nat.zero_add, (blt_iff _ _).2 (show (x.getD i.toNat (0, 0, false, [])).2.2.2.length < 17592186044416 by omega), List.nil_append, Option.bind_some, List.length_singleton, (blt_iff _ _).2 (show y.length + 1 < 2932031007402 by omega), wz (i + 1) (by omega)])
 rw [c1]
 rfl
theorem implSenderCopy (a : Int) (x : List MsgL) (hn : x.length ≤ 1048576) (he : ∀ e ∈ x, e.2.2.2.length ≤ 1048576) : f_impl_copySender a x = some (a, x) := by
 unfold f_impl_copySender
 have c1 := cp_gen (d := ((0 : Int), (0 : Int), false, ([] : List Int))) (F := fun n i y => f_impl_copySender.l0 n x (x.length : Int) i 0 a [] y) (R := fun y => (0, a, ([] : List MsgL), y)) x hn (fun n i y hi => by simp only [f_impl_copySender.l0, df hi, cond_false])
   (fun n i y a0 a1 hm hy => by
     have hk : (x.getD i.toNat (0, 0, false, [])).2.2.2.length ≤ 1048576 := he _ hm
     simp only [f_impl_copySender.l0, f_impl_copyMsg, f_slices_Clone_int_int, dt a0, dt a1, cond_true, Bool.and_self, Nat.zero_add, (blt_iff _ _).2 (show (x.getD i.toNat (0, 0, false, [])).2.2.2.length < 17592186044416 by omega), Option.bind_some, List.length_singleton, (blt_iff _ _).2 (show y.length + 1 < 2932031007402 by omega), wz (i + 1) (by omega)])
 rw [c1]
 rfl
/-- What a right sender's numbers are. -/
theorem senderOk_facts (a : Int) (x : List MsgL) (hn : x.length ≤ 1048576) (he : ∀ e ∈ x, e.2.2.2.length ≤ 1048576) (h : f_spec_SenderOk a x = some true) : 0 ≤ a ∧ a ≤ 100000 ∧ (x.length : Int) ≤ 30 ∧ a + (x.length : Int) ≤ 100000 ∧ x.all tM = true := by
 unfold f_spec_SenderOk at h
 rw [senderS_loop x hn he false a x.length N 0 (by omega) (by omega) (by omega) (lt_N hn)] at h
 simp only [Int.toNat_zero, List.drop_zero, in_rg, Option.bind_some] at h
 cases hall : x.all tM with
 | false => rw [hall] at h; cases h
 | true =>
   rw [hall] at h
   simp only [cond_true, cs] at h
   cases hr : rg a 0 100000 with
   | false => rw [hr] at h; cases h
   | true =>
     unfold rg at hr
     simp only [Bool.and_eq_true, decide_eq_true_eq] at hr
     by_cases h30 : (x.length : Int) ≤ 30
     · rw [dt h30, w64 (by omega) (by omega)] at h
       have e : rg a 0 100000 = true := by unfold rg; rw [dt hr.1, dt hr.2]; rfl
       rw [e] at h
       simp only [cond_true, Option.some.injEq, decide_eq_true_eq] at h
       exact ⟨hr.1, hr.2, h30, h, rfl⟩
     · rw [df h30] at h
       cases h' : rg a 0 100000 <;> rw [h'] at h <;> cases h
def queueB (a : Int) (x : List MsgL) (b : Bool) (m : MsgL) (ok : Bool) : Int × List MsgL × Bool := if b = true ∧ ok = true ∧ (x.length : Int) ≠ 30 ∧ a + (x.length : Int) ≠ 100000 then (a, x ++ [m], true) else (a, x, false)
theorem same_queue (a : Int) (x : List MsgL) (x2 x3 : Int) (x4 : Bool) (x5 : List Int) (hn : x.length ≤ 1048576) (he : ∀ e ∈ x, e.2.2.2.length ≤ 1048576) (h5 : x5.length ≤ 1048576) :
   ∃ b ok, f_spec_SenderOk a x = some b ∧ f_impl_SenderOk a x = some b ∧ f_spec_MsgOk x2 x3 x4 x5 = some ok ∧ f_impl_MsgOk x2 x3 x4 x5 = some ok ∧ f_spec_Queue a x x2 x3 x4 x5 = some (queueB a x b (x2, x3, x4, x5) ok) ∧ f_impl_Queue a x x2 x3 x4 x5 = some (queueB a x b (x2, x3, x4, x5) ok) := by
 obtain ⟨b, h1, h2⟩ := same_senderOk a x hn he
 obtain ⟨ok, k1, k2⟩ := same_msgOk x2 x3 x4 x5 h5
 have hw : b = true → IntKind.wrap .i64 (a + (x.length : Int)) = a + (x.length : Int) := fun hb => by
   subst hb
   obtain ⟨f0, f1, f2, f3, -⟩ := senderOk_facts a x hn he h1
   exact w64 (by omega) (by omega)
 refine ⟨b, ok, h1, h2, k1, k2, ?_, ?_⟩
 · unfold f_spec_Queue queueB
   simp only [specSenderCopy a x hn he, h1, k1, Option.bind_some]
   cases b with
   | false => rw [if_neg (fun h => by cases h.1)]; rfl
   | true =>
     rw [hw rfl]
     cases ok with
     | false => rw [if_neg (fun h => by cases h.2.1)]; rfl
     | true =>
       by_cases g1 : (x.length : Int) = 30
       · rw [dt g1, if_neg (fun h => h.2.2.1 g1)]; rfl
       · by_cases g2 : a + (x.length : Int) = 100000
         · rw [df g1, dt g2, if_neg (fun h => h.2.2.2 g2)]; rfl
         · rw [df g1, df g2, if_pos ⟨rfl, rfl, g1, g2⟩]
           simp only [Bool.not_true, cond_false, f_spec_l1Msg, List.length_nil, Nat.zero_add, (blt_iff _ _).2 (show x5.length < 17592186044416 by omega), cond_true, List.nil_append, Option.bind_some, List.length_singleton, (blt_iff _ _).2 (show x.length + 1 < 2932031007402 by omega)]
 · unfold f_impl_Queue queueB
   simp only [implSenderCopy a x hn he, h2, k2, Option.bind_some]
   cases b with
   | false => rw [if_neg (fun h => by cases h.1)]; rfl
   | true =>
     rw [hw rfl]
     cases ok with
     | false => rw [if_neg (fun h => by cases h.2.1)]; rfl
     | true =>
       by_cases g1 : (x.length : Int) = 30
       · rw [dt g1, if_neg (fun h => h.2.2.1 g1)]; rfl
       · by_cases g2 : a + (x.length : Int) = 100000
         · rw [df g1, dt g2, if_neg (fun h => h.2.2.2 g2)]; rfl
         · rw [df g1, df g2, if_pos ⟨rfl, rfl, g1, g2⟩]
           simp only [Bool.not_true, cond_false, f_impl_copyMsg, f_slices_Clone_int_int, Nat.zero_add, (blt_iff _ _).2 (show x5.length < 17592186044416 by omega), cond_true, Option.bind_some, List.length_singleton, (blt_iff _ _).2 (show x.length + 1 < 2932031007402 by omega)]
theorem msgOk_facts (k p : Int) (c : Bool) (w : List Int) (hn : w.length ≤ 1048576) (h : f_spec_MsgOk k p c w = some true) : 1 ≤ k ∧ k ≤ 7 ∧ 0 ≤ p ∧ p ≤ 5 ∧ allW w = true ∧ w.length = (if k = 3 ∨ k = 7 then 4 else 0) := by
 unfold f_spec_MsgOk at h
 simp only [specWords w hn, in_rg, Option.bind_some] at h
 have key : rg k 1 7 = true ∧ rg p 0 5 = true ∧ allW w = true ∧ (w.length : Int) = (if k = 3 ∨ k = 7 then 4 else 0) := by
   by_cases h3 : k = 3
   · subst h3
     rw [show rg 3 1 7 = true from rfl] at h ⊢
     cases hp : rg p 0 5 <;> simp [hp] at h ⊢
     exact ⟨h.1, by omega⟩
   · by_cases h7 : k = 7
     · subst h7
       rw [show rg 7 1 7 = true from rfl] at h ⊢
       cases hp : rg p 0 5 <;> cases c <;> simp [hp] at h ⊢
       exact ⟨h.1, by omega⟩
     · rw [df h3, df h7] at h
       cases hr : rg k 1 7 <;> cases hp : rg p 0 5 <;> cases hk : decide (k = 6) <;> cases c <;> simp [hr, hp, hk, h3, h7] at h ⊢ <;> exact ⟨h.1, h.2⟩
 obtain ⟨k1, k2, k3, k4⟩ := key
 unfold rg at k1 k2
 simp only [Bool.and_eq_true, decide_eq_true_eq] at k1 k2
 refine ⟨k1.1, k1.2, k2.1, k2.2, k3, ?_⟩
 by_cases hk : k = 3 ∨ k = 7
 · rw [if_pos hk] at k4 ⊢; omega
 · rw [if_neg hk] at k4 ⊢; omega
theorem frame_words (e : FrameT) (hk : okFrame e) (h : tF e = true) (h0 : ¬ e.1 = 0) : e.2.1.length = 4 := by
 have hk' : e.2.1.length ≤ 1048576 := hk
 unfold tF f_spec_FrameOk at h
 simp only [df h0, cond_false, in_rng, Option.bind_some, specWords _ hk'] at h
 cases hr : rng e.1 2 with
 | false => rw [hr] at h; cases h
 | true =>
   rw [hr] at h
   simp only [cond_true, Option.bind_some, Option.getD_some, Bool.and_eq_true, decide_eq_true_eq] at h
   omega
theorem sumW_le {α : Type} {W : α → Int} {M : Int} : ∀ x : List α, (∀ e ∈ x, W e ≤ M) → sumW W x ≤ M * x.length
 | [], _ => by simp [sumW]
 | a :: x, h => by
   have h1 := h a (.head _)
   have h2 := sumW_le x (fun e he => h e (.tail _ he))
   simp only [sumW, List.length_cons, Int.natCast_add, Int.mul_add]
   omega
theorem mem_set {α : Type} : ∀ {x : List α} {i : Nat} {e a : α}, a ∈ x.set i e → a = e ∨ a ∈ x
 | [], i, e, a, h => by cases h
 | b :: x, 0, e, a, h => by
   rw [List.set_cons_zero] at h
   rcases List.mem_cons.1 h with h | h
   · exact .inl h
   · exact .inr (.tail _ h)
 | b :: x, i + 1, e, a, h => by
   rw [List.set_cons_succ] at h
   rcases List.mem_cons.1 h with h | h
   · exact .inr (h ▸ .head _)
   · exact (mem_set h).elim .inl fun h => .inr (.tail _ h)
theorem specNodeCopy (x0 : Int) (x1 : List FrameT) (x2 : List HomeT) (x3 : List SenderT) (x4 : List Int) (h : NodeK x1 x2 x3 x4) : f_spec_l5Copy x0 x1 x2 x3 x4 = some (x0, x1, x2, x3, x4) := by
 unfold f_spec_l5Copy
 have hl4 := h.l4
 have c1 := cp_gen (d := ((0 : Int), ([] : List Int), false)) (F := fun n i y => f_spec_l5Copy.l0 n i x0 x1 x2 x3 x4 0 x0 [] [] [] [] y [] [] x4) (R := fun y => (x0, x1, x2, x3, x4, (0 : Int), x0, ([] : List FrameT), ([] : List HomeT), ([] : List SenderT), ([] : List Int), y, ([] : List HomeT), ([] : List SenderT), x4)) x1 h.l1 (fun n i y hi => by simp only [f_spec_l5Copy.l0, df hi, cond_false])
   (fun n i y a0 a1 hm hy => by
     have hl := h.l1
     have hk : (x1.getD i.toNat (0, [], false)).2.1.length ≤ 1048576 := h.e1 _ hm
     simp only [f_spec_l5Copy.l0, f_spec_l3Copy, dt a0, dt a1, cond_true, Bool.and_self, List.length_nil, Nat.zero_add, (blt_iff _ _).2 (show (x1.getD i.toNat (0, [], false)).2.1.length < 17592186044416 by omega), List.nil_append, Option.bind_some, List.length_singleton, (blt_iff _ _).2 (show y.length + 1 < 3518437208883 by omega), wz (i + 1) (by omega)])
 have c2 := cp_gen (d := (([] : List Int), (0 : Int), ([] : List Bool), false, (0 : Int), false, (0 : Int), ([] : List (Int × Bool)))) (F := fun n i y => f_spec_l5Copy.l1 n i x0 x1 x2 x3 x4 0 x0 [] [] [] [] x1 y [] x4) (R := fun y => (x0, x1, x2, x3, x4, (0 : Int), x0, ([] : List FrameT), ([] : List HomeT), ([] : List SenderT), ([] : List Int), x1, y, ([] : List SenderT), x4)) x2 h.l2 (fun n i y hi => by simp only [f_spec_l5Copy.l1, df hi, cond_false])
   (fun n i y a0 a1 hm hy => by
     have hl := h.l2
     have hk : okHome (x2.getD i.toNat ([], 0, [], false, 0, false, 0, [])) := h.e2 _ hm
     have k0 := hk.g0
     have k2 := hk.g2
     have k7 := hk.g7
     simp only [f_spec_l5Copy.l1, f_spec_l4Copy, dt a0, dt a1, cond_true, Bool.and_self, List.length_nil, Nat.zero_add, (blt_iff _ _).2 (show (x2.getD i.toNat ([], 0, [], false, 0, false, 0, [])).1.length < 17592186044416 by omega), (blt_iff _ _).2 (show (x2.getD i.toNat ([], 0, [], false, 0, false, 0, [])).2.2.1.length < 140737488355328 by omega), (blt_iff _ _).2 (show (x2.getD i.toNat ([], 0, [], false, 0, false, 0, [])).2.2.2.2.2.2.2.length < 8796093022208 by omega), List.nil_append, Option.bind_some, List.length_singleton, (blt_iff _ _).2 (show y.length + 1 < 1256584717458 by omega), wz (i + 1) (by omega)])
 have c3 := cp_gen (d := ((0 : Int), ([] : List MsgL))) (F := fun n i y => f_spec_l5Copy.l2 n i x0 x1 x2 x3 x4 0 x0 [] [] [] [] x1 x2 y x4) (R := fun y => ((0 : Int), x0, ([] : List FrameT), ([] : List HomeT), ([] : List SenderT), ([] : List Int), x1, x2, y, x4)) x3 h.l3 (fun n i y hi => by simp only [f_spec_l5Copy.l2, df hi, cond_false])
   (fun n i y a0 a1 hm hy => by
     have hl := h.l3
     have hk : okSender (x3.getD i.toNat (0, [])) := h.e3 _ hm
     simp only [f_spec_l5Copy.l2, specSenderCopy _ _ hk.1 hk.2, dt a0, dt a1, cond_true, Bool.and_self, Option.bind_some, List.length_singleton, (blt_iff _ _).2 (show y.length + 1 < 4398046511104 by omega), wz (i + 1) (by omega)])
 simp only [List.length_nil, Nat.zero_add, (blt_iff _ _).2 (show x4.length < 17592186044416 by omega), cond_true, List.nil_append, Option.bind_some, c1, c2, c3]
theorem implNodeCopy (x0 : Int) (x1 : List FrameT) (x2 : List HomeT) (x3 : List SenderT) (x4 : List Int) (h : NodeK x1 x2 x3 x4) : f_impl_copyNode x0 x1 x2 x3 x4 = some (x0, x1, x2, x3, x4) := by
 unfold f_impl_copyNode
 have hl4 := h.l4
 have c1 := cp_gen (d := ((0 : Int), ([] : List Int), false)) (F := fun n i y => f_impl_copyNode.l0 n x1 (x1.length : Int) i x0 x1 x2 x3 x4 0 x0 [] [] [] [] y [] [] x4) (R := fun y => (x0, x1, x2, x3, x4, (0 : Int), x0, ([] : List FrameT), ([] : List HomeT), ([] : List SenderT), ([] : List Int), y, ([] : List HomeT), ([] : List SenderT), x4)) x1 h.l1 (fun n i y hi => by simp only [f_impl_copyNode.l0, df hi, cond_false])
   (fun n i y a0 a1 hm hy => by
     have hl := h.l1
     have hk : (x1.getD i.toNat (0, [], false)).2.1.length ≤ 1048576 := h.e1 _ hm
     simp only [f_impl_copyNode.l0, f_impl_copyFrame, f_slices_Clone_int_int, dt a0, dt a1, cond_true, Bool.and_self, Nat.zero_add, (blt_iff _ _).2 (show (x1.getD i.toNat (0, [], false)).2.1.length < 17592186044416 by omega), Option.bind_some, List.length_singleton, (blt_iff _ _).2 (show y.length + 1 < 3518437208883 by omega), wz (i + 1) (by omega)])
 have c2 := cp_gen (d := (([] : List Int), (0 : Int), ([] : List Bool), false, (0 : Int), false, (0 : Int), ([] : List (Int × Bool)))) (F := fun n i y => f_impl_copyNode.l1 n x2 (x2.length : Int) i x0 x1 x2 x3 x4 0 x0 [] [] [] [] x1 y [] x4) (R := fun y => (x0, x1, x2, x3, x4, (0 : Int), x0, ([] : List FrameT), ([] : List HomeT), ([] : List SenderT), ([] : List Int), x1, y, ([] : List SenderT), x4)) x2 h.l2 (fun n i y hi => by simp only [f_impl_copyNode.l1, df hi, cond_false])
   (fun n i y a0 a1 hm hy => by
     have hl := h.l2
     have hk : okHome (x2.getD i.toNat ([], 0, [], false, 0, false, 0, [])) := h.e2 _ hm
     have k0 := hk.g0
     have k2 := hk.g2
     have k7 := hk.g7
     simp only [f_impl_copyNode.l1, f_impl_copyHome, f_slices_Clone_int_int, f_slices_Clone_bool_bool, f_slices_Clone_impl_Wait_impl_Wait, dt a0, dt a1, cond_true, Bool.and_self, Nat.zero_add, (blt_iff _ _).2 (show (x2.getD i.toNat ([], 0, [], false, 0, false, 0, [])).1.length < 17592186044416 by omega), (blt_iff _ _).2 (show (x2.getD i.toNat ([], 0, [], false, 0, false, 0, [])).2.2.1.length < 140737488355328 by omega), (blt_iff _ _).2 (show (x2.getD i.toNat ([], 0, [], false, 0, false, 0, [])).2.2.2.2.2.2.2.length < 8796093022208 by omega), Option.bind_some, List.length_singleton, (blt_iff _ _).2 (show y.length + 1 < 1256584717458 by omega), wz (i + 1) (by omega)])
 have c3 := cp_gen (d := ((0 : Int), ([] : List MsgL))) (F := fun n i y => f_impl_copyNode.l2 n x3 (x3.length : Int) i 0 x0 [] [] [] [] x1 x2 y x4) (R := fun y => ((0 : Int), x0, ([] : List FrameT), ([] : List HomeT), ([] : List SenderT), ([] : List Int), x1, x2, y, x4)) x3 h.l3 (fun n i y hi => by simp only [f_impl_copyNode.l2, df hi, cond_false])
   (fun n i y a0 a1 hm hy => by
     have hl := h.l3
     have hk : okSender (x3.getD i.toNat (0, [])) := h.e3 _ hm
     simp only [f_impl_copyNode.l2, implSenderCopy _ _ hk.1 hk.2, dt a0, dt a1, cond_true, Bool.and_self, Option.bind_some, List.length_singleton, (blt_iff _ _).2 (show y.length + 1 < 4398046511104 by omega), wz (i + 1) (by omega)])
 simp only [f_slices_Clone_impl_Receiver_impl_Receiver, Nat.zero_add, (blt_iff _ _).2 (show x4.length < 17592186044416 by omega), cond_true, Option.bind_some, c1, c2, c3]
def lessB (st : Int) (w : Bool) : Bool := decide (st = 0) || (w && decide (st = 1))
theorem specLess (st : Int) (a : List Int) (b w : Bool) : f_spec_l5Less st a b w = some (lessB st w) := by
 unfold f_spec_l5Less lessB
 by_cases h : st = 0
 · simp only [dt h, cond_true, Bool.true_or]
 · cases w <;> simp only [df h, cond_false, cond_true, Bool.false_or, Bool.true_and, Bool.false_and]
theorem implLess (st : Int) (a : List Int) (b w : Bool) (h0 : 0 ≤ st) (h2 : st ≤ 2) : f_impl_lacks st a b w = some (lessB st w) := by
 unfold f_impl_lacks lessB
 by_cases h : st = 0
 · simp only [dt h, cond_true, Bool.true_or]
 · by_cases h1 : st = 1
   · cases w <;> simp only [df h, dt h1, df (show ¬ st = 2 by omega), cond_false, cond_true, Bool.false_or, Bool.true_and, Bool.false_and, Bool.not_false]
   · cases w <;> simp only [df h, df h1, dt (show st = 2 by omega), cond_false, cond_true, Bool.false_or, Bool.true_and, Bool.false_and, Bool.not_true]
abbrev ToldT := Int × Int × Int × Bool × List Int
abbrev KT := List Int × Int × List Bool × Bool × Int × Bool × Int × List (Int × Bool) × Int × List ToldT
def okT (k : Int) (e : ToldT) : Prop := 0 ≤ e.1 ∧ e.1 ≤ k - 1 ∧ e.2.2.2.2.length ≤ 4 ∧ f_spec_MsgOk e.2.1 e.2.2.1 e.2.2.2.1 e.2.2.2.2 = some true
structure HK (k : Int) (w : List Int) (own : Int) (seen : List Bool) (who need : Int) (wait : List (Int × Bool)) (page : Int) (told : List ToldT) : Prop where
 k0 : 1 ≤ k
 k1 : k ≤ 4
 w4 : w.length = 4
 ww : allW w = true
 o0 : -1 ≤ own
 o1 : own ≤ k - 1
 sl : (seen.length : Int) = k
 h0 : 0 ≤ who
 h1 : who ≤ k - 1
 n0 : 0 ≤ need
 n1 : need ≤ k
 q : ∀ e ∈ wait, 0 ≤ e.1 ∧ e.1 ≤ k - 1
 ql : wait.length ≤ 12
 p0 : 0 ≤ page
 p1 : page ≤ 5
 t : ∀ e ∈ told, okT k e
 tl : told.length + 8 * wait.length ≤ 120
structure SI (own : Int) (seen : List Bool) (busy : Bool) (who : Int) (ex : Bool) (need : Int) : Prop where
 a : 0 ≤ own → ∀ j : Nat, seen.getD j false = false
 b : busy = true → (0 ≤ own ∧ need = 0) ∨ (own = -1 ∧ 0 < need ∧ ex = true ∧ ∀ j : Nat, (j : Int) ≠ who → seen.getD j false = false)
 c : busy = false → need = 0
theorem msg_data (page : Int) (p0 : 0 ≤ page) (p1 : page ≤ 5) (ex : Bool) (w : List Int) (h4 : w.length = 4) (hw : allW w = true) : f_spec_MsgOk 3 page ex w = some true := by
 unfold f_spec_MsgOk
 have h1 : f_spec_l1In 3 1 7 = some true := rfl
 have h2 : f_spec_l1In page 0 5 = some true := by unfold f_spec_l1In; rw [dt p0, dt p1]; rfl
 simp only [decide_true, cond_true, h1, h2, Option.bind_some, specWords w (by omega), hw, h4, Bool.true_and]
 rfl
theorem msg_none (kind page : Int) (hk : kind = 4 ∨ kind = 6) (p0 : 0 ≤ page) (p1 : page ≤ 5) (ex : Bool) (he : ex = true → kind = 6) : f_spec_MsgOk kind page ex [] = some true := by
 have h2 : f_spec_l1In page 0 5 = some true := by unfold f_spec_l1In; rw [dt p0, dt p1]; rfl
 have h3 : f_spec_l1Words [] 0 = some true := by rw [specWords [] (by simp)]; rfl
 rcases hk with rfl | rfl
 · have e : ex = false := by cases ex with
     | false => rfl
     | true => exact absurd (he rfl) (by omega)
   subst e
   have h1 : f_spec_l1In 4 1 7 = some true := rfl
   unfold f_spec_MsgOk
   simp only [df (show ¬ (4 : Int) = 3 by omega), df (show ¬ (4 : Int) = 6 by omega), df (show ¬ (4 : Int) = 7 by omega), cond_false, cond_true, h1, h2, h3, Option.bind_some, Bool.not_false, List.length_nil]
   try rfl
 · have h1 : f_spec_l1In 6 1 7 = some true := rfl
   unfold f_spec_MsgOk
   simp only [df (show ¬ (6 : Int) = 3 by omega), dt (show (6 : Int) = 6 by omega), df (show ¬ (6 : Int) = 7 by omega), cond_false, cond_true, h1, h2, h3, Option.bind_some, Bool.not_false, List.length_nil]
   try rfl
/-- The page is given. -/
def giveB (w : List Int) (own : Int) (seen : List Bool) (who : Int) (ex : Bool) (need : Int) (wait : List (Int × Bool)) (page : Int) (told : List ToldT) : KT := (w, if ex = true then who else own, seen.set who.toNat (!ex), false, 0, false, need, wait, page, told ++ [(who, 3, page, ex, w)])
theorem give_eq {k : Int} {w : List Int} {own : Int} {seen : List Bool} {who need : Int} {wait : List (Int × Bool)} {page : Int} {told : List ToldT} (h : HK k w own seen who need wait page told) (busy ex : Bool) :
   f_spec_l4Give w own seen busy who ex need wait page told = some (giveB w own seen who ex need wait page told) ∧ f_impl_keeper_give w own seen busy who ex need wait page told = some (giveB w own seen who ex need wait page told) := by
 have h4 := h.w4
 have ht := h.tl
 have hs := h.sl
 have h0 := h.h0
 have h1 := h.h1
 unfold f_spec_l4Give f_impl_keeper_give giveB
 constructor
 · simp only [f_spec_l4Tell, List.length_nil, Nat.zero_add, (blt_iff _ _).2 (show w.length < 17592186044416 by omega), cond_true, List.nil_append, Option.bind_some, List.length_singleton, (blt_iff _ _).2 (show told.length + 1 < 2513169434916 by omega), dt h0, dt (show who < (seen.length : Int) by omega), Bool.and_self]
   cases ex <;> rfl
 · simp only [f_slices_Clone_int_int, Nat.zero_add, (blt_iff _ _).2 (show w.length < 17592186044416 by omega), cond_true, Option.bind_some, List.length_singleton, (blt_iff _ _).2 (show told.length + 1 < 2513169434916 by omega), dt h0, dt (show who < (seen.length : Int) by omega), Bool.and_self]
   cases ex <;> rfl
theorem give_ok {k : Int} {w : List Int} {own : Int} {seen : List Bool} {who need : Int} {wait : List (Int × Bool)} {page : Int} {told : List ToldT} (h : HK k w own seen who need wait page told) (ex : Bool) (ht : told.length + 8 * wait.length ≤ 119) :
   HK k w (if ex = true then who else own) (seen.set who.toNat (!ex)) 0 need wait page (told ++ [(who, 3, page, ex, w)]) := by
 have h0 := h.h0
 have h1 := h.h1
 have o0 := h.o0
 have o1 := h.o1
 have k0 := h.k0
 refine ⟨h.k0, h.k1, h.w4, h.ww, ?_, ?_, by rw [List.length_set]; exact h.sl, Int.le_refl _, by omega, h.n0, h.n1, h.q, h.ql, h.p0, h.p1, fun e he => ?_, by rw [List.length_append, List.length_singleton]; omega⟩
 · cases ex <;> simp <;> omega
 · cases ex <;> simp <;> omega
 · rcases List.mem_append.1 he with he | he
   · exact h.t e he
   · rw [List.mem_singleton.1 he]
     exact ⟨h0, h1, by show w.length ≤ 4; have := h.w4; omega, msg_data page h.p0 h.p1 ex w h.w4 h.ww⟩
/-- Those who read are told that it is gone. -/
def scanL (who page : Int) : Int → List Bool → List Bool × List ToldT
 | _, [] => ([], [])
 | i, b :: x => if b = true ∧ i ≠ who then (false :: (scanL who page (i + 1) x).1, (i, 4, page, false, []) :: (scanL who page (i + 1) x).2) else (b :: (scanL who page (i + 1) x).1, (scanL who page (i + 1) x).2)
theorem scanL_len (who page : Int) : ∀ (x : List Bool) (i : Int), (scanL who page i x).1.length = x.length ∧ (scanL who page i x).2.length ≤ x.length
 | [], i => ⟨rfl, Nat.le_refl _⟩
 | b :: x, i => by
   obtain ⟨h1, h2⟩ := scanL_len who page x (i + 1)
   unfold scanL
   split <;> simp only [List.length_cons] <;> omega
theorem scanL_mem (who page : Int) : ∀ (x : List Bool) (i : Int), ∀ e ∈ (scanL who page i x).2, i ≤ e.1 ∧ e.1 < i + x.length ∧ e.2 = (4, page, false, [])
 | [], i, e, he => by cases he
 | b :: x, i, e, he => by
   have ih := scanL_mem who page x (i + 1)
   have low : ∀ e ∈ (scanL who page (i + 1) x).2, i ≤ e.1 ∧ e.1 < i + ((b :: x).length : Nat) ∧ e.2 = (4, page, false, []) := by
     intro e he
     obtain ⟨h1, h2, h3⟩ := ih e he
     simp only [List.length_cons]
     exact ⟨by omega, by omega, h3⟩
   unfold scanL at he
   split at he
   · rcases List.mem_cons.1 he with rfl | he
     · exact ⟨Int.le_refl _, by simp only [List.length_cons]; omega, rfl⟩
     · exact low e he
   · exact low e he
theorem scanL_other (who page : Int) : ∀ (x : List Bool) (i : Int) (j : Nat), i + (j : Int) ≠ who → (scanL who page i x).1.getD j false = false
 | [], i, j, _ => by simp [scanL]
 | b :: x, i, 0, h => by
   unfold scanL
   split
   · rfl
   · rename_i hn
     cases b with
     | false => rfl
     | true => exact absurd ⟨rfl, by omega⟩ hn
 | b :: x, i, j + 1, h => by
   have ih := scanL_other who page x (i + 1) j (by omega)
   unfold scanL
   split <;> simpa using ih
theorem spec_scan (own : Int) (busy : Bool) (who : Int) (page : Int) (w : List Int) (wait : List (Int × Bool)) : ∀ (r n : Nat) (pre x : List Bool) (need : Int) (told : List ToldT), x.length = r → r < n → pre.length + x.length ≤ 4 → 0 ≤ need → need + x.length ≤ 100 → told.length + x.length ≤ 1000 →
   f_spec_l4Next.l0 n (pre.length : Int) own busy who true need page w (pre ++ x) wait told = some (own, busy, who, true, need + ((scanL who page pre.length x).2.length : Int), page, w, pre ++ (scanL who page pre.length x).1, wait, told ++ (scanL who page pre.length x).2) := by
 intro r
 induction r with
 | zero =>
   intro n pre x need told hx hn hl hn0 hn1 ht
   obtain ⟨n, rfl⟩ := succ_fuel hn
   obtain rfl := List.eq_nil_of_length_eq_zero hx
   simp only [f_spec_l4Next.l0, List.append_nil, df (show ¬ (pre.length : Int) < (pre.length : Int) by omega), cond_false, scanL, List.length_nil, Int.natCast_zero, Int.add_zero]
 | succ r ih =>
   intro n pre x need told hx hn hl hn0 hn1 ht
   obtain ⟨n, rfl⟩ := succ_fuel hn
   cases x with
   | nil => cases hx
   | cons b x =>
     simp only [List.length_cons] at hx hl hn1 ht
     have hg : (pre ++ b :: x).getD pre.length false = b := by simp [List.getD_eq_getElem?_getD]
     have hs : (pre ++ b :: x).set pre.length false = (pre ++ [false]) ++ x := by simp
     have hb : (pre ++ b :: x) = (pre ++ [b]) ++ x := by simp
     have hlen : ((pre ++ b :: x).length : Int) = pre.length + 1 + x.length := by simp; omega
     simp only [f_spec_l4Next.l0, hlen, dt (show (pre.length : Int) < (pre.length : Int) + 1 + (x.length : Int) by omega), dt (show 0 ≤ (pre.length : Int) by omega), cond_true, Bool.and_self, Int.toNat_natCast, hg, f_spec_l4Tell, List.length_singleton, (blt_iff _ _).2 (show told.length + 1 < 2513169434916 by omega), Option.bind_some, hs, wz ((pre.length : Int) + 1) (by omega), wz (need + 1) (by omega)]
     cases b with
     | false =>
       have := ih n (pre ++ [false]) x need told (by omega) (by omega) (by simp; omega) hn0 (by omega) (by omega)
       simp only [List.length_append, List.length_singleton, Int.natCast_add, Int.natCast_one] at this
       simp only [cond_false]
       rw [hb, this]
       simp only [scanL, Bool.false_eq_true, false_and, if_false, List.append_assoc, List.singleton_append]
     | true =>
       by_cases hw : (pre.length : Int) = who
       · have := ih n (pre ++ [true]) x need told (by omega) (by omega) (by simp; omega) hn0 (by omega) (by omega)
         simp only [List.length_append, List.length_singleton, Int.natCast_add, Int.natCast_one] at this
         simp only [cond_true, dt hw, Bool.not_true, cond_false]
         rw [hb, this]
         simp only [scanL, ne_eq, hw, not_true_eq_false, and_false, if_false, List.append_assoc, List.singleton_append]
       · have := ih n (pre ++ [false]) x (need + 1) (told ++ [((pre.length : Int), 4, page, false, [])]) (by omega) (by omega) (by simp; omega) (by omega) (by omega) (by simp; omega)
         simp only [List.length_append, List.length_singleton, Int.natCast_add, Int.natCast_one] at this
         simp only [cond_true, df hw, Bool.not_false, this]
         simp only [scanL, ne_eq, hw, not_false_eq_true, and_self, if_true, List.append_assoc, List.singleton_append, List.length_cons, Int.natCast_add, Int.natCast_one]
         rw [show need + 1 + ((scanL who page ((pre.length : Int) + 1) x).2.length : Int) = need + (((scanL who page ((pre.length : Int) + 1) x).2.length : Int) + 1) by omega]
theorem impl_scan (own : Int) (busy : Bool) (who : Int) (page : Int) (w : List Int) (wait : List (Int × Bool)) (vo vl : Int) (len : Int) : ∀ (r n : Nat) (pre x : List Bool) (need : Int) (told : List ToldT), x.length = r → r < n → pre.length + x.length ≤ 4 → len = pre.length + x.length → 0 ≤ need → need + x.length ≤ 100 → told.length + x.length ≤ 1000 →
   f_impl_keeper_begin.l0 n len (pre.length : Int) own busy who true need vo vl page (pre ++ x) w wait told = some (own, busy, who, true, need + ((scanL who page pre.length x).2.length : Int), vo, vl, page, w, pre ++ (scanL who page pre.length x).1, wait, told ++ (scanL who page pre.length x).2) := by
 intro r
 induction r with
 | zero =>
   intro n pre x need told hx hn hl hlen hn0 hn1 ht
   obtain ⟨n, rfl⟩ := succ_fuel hn
   obtain rfl := List.eq_nil_of_length_eq_zero hx
   simp only [List.length_nil] at hlen
   simp only [f_impl_keeper_begin.l0, List.append_nil, df (show ¬ (pre.length : Int) < len by omega), cond_false, scanL, List.length_nil, Int.natCast_zero, Int.add_zero]
 | succ r ih =>
   intro n pre x need told hx hn hl hlen hn0 hn1 ht
   obtain ⟨n, rfl⟩ := succ_fuel hn
   cases x with
   | nil => cases hx
   | cons b x =>
     simp only [List.length_cons] at hx hl hn1 ht hlen
     have hg : (pre ++ b :: x).getD pre.length false = b := by simp [List.getD_eq_getElem?_getD]
     have hs : (pre ++ b :: x).set pre.length false = (pre ++ [false]) ++ x := by simp
     have hb : (pre ++ b :: x) = (pre ++ [b]) ++ x := by simp
     have hlen2 : ((pre ++ b :: x).length : Int) = pre.length + 1 + x.length := by simp; omega
     simp only [f_impl_keeper_begin.l0, hlen2, dt (show (pre.length : Int) < len by omega), dt (show (pre.length : Int) < (pre.length : Int) + 1 + (x.length : Int) by omega), dt (show 0 ≤ (pre.length : Int) by omega), cond_true, Bool.and_self, Int.toNat_natCast, hg, List.length_singleton, (blt_iff _ _).2 (show told.length + 1 < 2513169434916 by omega), Option.bind_some, hs, wz ((pre.length : Int) + 1) (by omega), wz (need + 1) (by omega)]
     cases b with
     | false =>
       have := ih n (pre ++ [false]) x need told (by omega) (by omega) (by simp; omega) (by simp; omega) hn0 (by omega) (by omega)
       simp only [List.length_append, List.length_singleton, Int.natCast_add, Int.natCast_one] at this
       simp only [cond_false]
       rw [hb, this]
       simp only [scanL, Bool.false_eq_true, false_and, if_false, List.append_assoc, List.singleton_append]
     | true =>
       by_cases hw : (pre.length : Int) = who
       · have := ih n (pre ++ [true]) x need told (by omega) (by omega) (by simp; omega) (by simp; omega) hn0 (by omega) (by omega)
         simp only [List.length_append, List.length_singleton, Int.natCast_add, Int.natCast_one] at this
         simp only [cond_true, dt hw, Bool.not_true, cond_false]
         rw [hb, this]
         simp only [scanL, ne_eq, hw, not_true_eq_false, and_false, if_false, List.append_assoc, List.singleton_append]
       · have := ih n (pre ++ [false]) x (need + 1) (told ++ [((pre.length : Int), 4, page, false, [])]) (by omega) (by omega) (by simp; omega) (by simp; omega) (by omega) (by omega) (by simp; omega)
         simp only [List.length_append, List.length_singleton, Int.natCast_add, Int.natCast_one] at this
         simp only [cond_true, df hw, Bool.not_false, this]
         simp only [scanL, ne_eq, hw, not_false_eq_true, and_self, if_true, List.append_assoc, List.singleton_append, List.length_cons, Int.natCast_add, Int.natCast_one]
         rw [show need + 1 + ((scanL who page ((pre.length : Int) + 1) x).2.length : Int) = need + (((scanL who page ((pre.length : Int) + 1) x).2.length : Int) + 1) by omega]
theorem impl_skip (own : Int) (busy : Bool) (who : Int) (page : Int) (w : List Int) (wait : List (Int × Bool)) (vo vl need : Int) (seen : List Bool) (told : List ToldT) (hs : seen.length ≤ 4) : ∀ (r n : Nat) (i : Nat), i + r = seen.length → r < n →
   f_impl_keeper_begin.l0 n (seen.length : Int) (i : Int) own busy who false need vo vl page seen w wait told = some (own, busy, who, false, need, vo, vl, page, w, seen, wait, told) := by
 intro r
 induction r with
 | zero =>
   intro n i hi hn
   obtain ⟨n, rfl⟩ := succ_fuel hn
   simp only [f_impl_keeper_begin.l0, df (show ¬ (i : Int) < (seen.length : Int) by omega), cond_false]
 | succ r ih =>
   intro n i hi hn
   obtain ⟨n, rfl⟩ := succ_fuel hn
   simp only [f_impl_keeper_begin.l0, dt (show (i : Int) < (seen.length : Int) by omega), dt (show 0 ≤ (i : Int) by omega), cond_true, cond_false, Bool.and_self, wz ((i : Int) + 1) (by omega)]
   rw [show (i : Int) + 1 = ((i + 1 : Nat) : Int) by omega]
   exact ih n (i + 1) (by omega) (by omega)
/-- The first one that waits. -/
def nextB (w : List Int) (own : Int) (seen : List Bool) (who : Int) (ex : Bool) (need : Int) (wait : List (Int × Bool)) (page : Int) (told : List ToldT) : KT :=
 if 0 ≤ own then (w, own, seen, true, who, ex, need, wait, page, told ++ [(own, 6, page, ex, [])])
 else if ex = true then
   if (scanL who page 0 seen).2.length = 0 then giveB w own (scanL who page 0 seen).1 who true 0 wait page (told ++ (scanL who page 0 seen).2)
   else (w, own, (scanL who page 0 seen).1, true, who, true, ((scanL who page 0 seen).2.length : Int), wait, page, told ++ (scanL who page 0 seen).2)
 else giveB w own seen who false 0 wait page told
theorem scan_ok {k : Int} {w : List Int} {own : Int} {seen : List Bool} {who need : Int} {wait : List (Int × Bool)} {page : Int} {told : List ToldT} (h : HK k w own seen who need wait page told) (ht : told.length + 8 * wait.length ≤ 112) :
   HK k w own (scanL who page 0 seen).1 who ((scanL who page 0 seen).2.length : Int) wait page (told ++ (scanL who page 0 seen).2) := by
 obtain ⟨l1, l2⟩ := scanL_len who page seen 0
 have hs := h.sl
 have hk := h.k1
 refine ⟨h.k0, h.k1, h.w4, h.ww, h.o0, h.o1, by rw [l1]; exact hs, h.h0, h.h1, by omega, by omega, h.q, h.ql, h.p0, h.p1, fun e he => ?_, by rw [List.length_append]; omega⟩
 rcases List.mem_append.1 he with he | he
 · exact h.t e he
 · obtain ⟨a, b, c⟩ := scanL_mem who page seen 0 e he
   refine ⟨a, by omega, ?_, ?_⟩
   · rw [c]; exact Nat.zero_le _
   · rw [c]; exact msg_none 4 page (.inl rfl) h.p0 h.p1 false (fun h => by cases h)
theorem next_eq {k : Int} {w : List Int} {own : Int} {seen : List Bool} {who need : Int} {i : Int} {ex : Bool} {wt : List (Int × Bool)} {page : Int} {told : List ToldT} (h : HK k w own seen who need ((i, ex) :: wt) page told) (busy ex0 : Bool) :
   f_spec_l4Next w own seen busy who ex0 need ((i, ex) :: wt) page told = some (nextB w own seen i ex need wt page told) ∧ f_impl_keeper_begin w own seen busy who ex0 need ((i, ex) :: wt) page told = some (nextB w own seen i ex need wt page told) := by
 have ht := h.tl
 have hq := h.ql
 have hs := h.sl
 have hk := h.k1
 have hi := h.q (i, ex) (.head _)
 simp only [List.length_cons] at ht hq
 have h' : HK k w own seen i 0 wt page told := ⟨h.k0, h.k1, h.w4, h.ww, h.o0, h.o1, h.sl, hi.1, hi.2, Int.le_refl _, by have := h.k0; omega, fun e he => h.q e (.tail _ he), by omega, h.p0, h.p1, h.t, by omega⟩
 have hsc := scan_ok h' (by omega)
 have e1 : (((i, ex) :: wt).drop 1).take ((((i, ex) :: wt).length : Int) - 1).toNat = wt := by simp
 have e2 : ((i, ex) :: wt).getD 0 (0, false) = (i, ex) := rfl
 have fuel : seen.length < N := Nat.lt_of_le_of_lt (show seen.length ≤ 4 by omega) (Nat.lt_trans (by omega) big)
 unfold f_spec_l4Next f_impl_keeper_begin nextB
 simp only [dt (show (0 : Int) < (((i, ex) :: wt).length : Int) by simp only [List.length_cons]; omega), dt (show (1 : Int) ≤ (((i, ex) :: wt).length : Int) by simp only [List.length_cons]; omega), cond_true, e1, e2, List.length_nil, Nat.zero_add, (blt_iff _ _).2 (show wt.length < 8796093022208 by omega), List.nil_append, Option.bind_some]
 by_cases ho : 0 ≤ own
 · simp only [dt ho, cond_true, if_pos ho, f_spec_l4Tell, List.length_singleton, (blt_iff _ _).2 (show told.length + 1 < 2513169434916 by omega), Option.bind_some]
   exact ⟨trivial, trivial⟩
 · simp only [df ho, cond_false, if_neg ho]
   cases ex with
   | true =>
     have s1 := spec_scan own true i page w wt seen.length N [] seen 0 told rfl fuel (by simp; omega) (by omega) (by omega) (by omega)
     have s2 := impl_scan own true i page w ((i, true) :: wt) 1 ((((i, true) :: wt).length : Int) - 1) (seen.length : Int) seen.length N [] seen 0 told rfl fuel (by simp; omega) (by simp) (by omega) (by omega) (by omega)
     simp only [List.length_nil, Int.natCast_zero, List.nil_append, Int.zero_add] at s1 s2
     simp only [s1, s2, Option.bind_some, if_true, show ((1 : Int)).toNat = 1 from rfl, e1]
     by_cases hz : (scanL i page 0 seen).2.length = 0
     · simp only [hz, Int.natCast_zero, decide_true, cond_true, if_true]
       rw [hz] at hsc
       obtain ⟨g1, g2⟩ := give_eq hsc true true
       simp only [Int.natCast_zero] at g1 g2
       rw [g1, g2]
       exact ⟨rfl, rfl⟩
     · simp only [df (show ¬ ((scanL i page 0 seen).2.length : Int) = 0 by omega), cond_false, if_neg hz]
       exact ⟨trivial, trivial⟩
   | false =>
     obtain ⟨n, hn⟩ : ∃ n, N = n + 1 := ⟨N - 1, rfl⟩
     have s1 : f_spec_l4Next.l0 N 0 own true i false 0 page w seen wt told = some (own, true, i, false, 0, page, w, seen, wt, told) := by
       rw [hn]
       simp only [f_spec_l4Next.l0, cond_false]
       cases decide (0 < (seen.length : Int)) <;> rfl
     have s2 := impl_skip own true i page w ((i, false) :: wt) 1 ((((i, false) :: wt).length : Int) - 1) 0 seen told (by omega) seen.length N 0 (by omega) fuel
     simp only [Int.natCast_zero] at s2
     obtain ⟨g1, g2⟩ := give_eq h' true false
     simp only [s1, s2, Option.bind_some, show ((1 : Int)).toNat = 1 from rfl, e1, decide_true, cond_true, g1, g2, Bool.false_eq_true, if_false]
     exact ⟨trivial, trivial⟩
def HKs (k : Int) (s : KT) : Prop := HK k s.1 s.2.1 s.2.2.1 s.2.2.2.2.1 s.2.2.2.2.2.2.1 s.2.2.2.2.2.2.2.1 s.2.2.2.2.2.2.2.2.1 s.2.2.2.2.2.2.2.2.2
def SIs (s : KT) : Prop := SI s.2.1 s.2.2.1 s.2.2.2.1 s.2.2.2.2.1 s.2.2.2.2.2.1 s.2.2.2.2.2.2.1
theorem give_si {w : List Int} {own : Int} {seen : List Bool} {who : Int} {ex : Bool} {wait : List (Int × Bool)} {page : Int} {told : List ToldT} (h0 : 0 ≤ who) (ho : own < 0) (hx : ex = true → ∀ j : Nat, (j : Int) ≠ who → seen.getD j false = false) : SIs (giveB w own seen who ex 0 wait page told) := by
 refine ⟨fun ha j => ?_, fun hb => (by cases hb), fun _ => rfl⟩
 show (seen.set who.toNat (!ex)).getD j false = false
 have ha : 0 ≤ (if ex = true then who else own) := ha
 cases ex with
 | false => simp at ha; omega
 | true =>
   by_cases hj : (j : Int) = who
   · rw [List.getD_eq_getElem?_getD, List.getElem?_set]
     rw [if_pos (show who.toNat = j by omega)]
     split <;> rfl
   · rw [List.getD_eq_getElem?_getD, List.getElem?_set, if_neg (by omega), ← List.getD_eq_getElem?_getD]
     exact hx rfl j hj
theorem next_ok {k : Int} {w : List Int} {own : Int} {seen : List Bool} {who need : Int} {i : Int} {ex : Bool} {wt : List (Int × Bool)} {page : Int} {told : List ToldT} (h : HK k w own seen who need ((i, ex) :: wt) page told) :
   HKs k (nextB w own seen i ex need wt page told) ∧ (nextB w own seen i ex need wt page told).2.2.2.2.2.2.2.1 = wt ∧ (∀ ex0, SI own seen false who ex0 need → SIs (nextB w own seen i ex need wt page told)) := by
 have ht := h.tl
 have hq := h.ql
 have hs := h.sl
 have hk := h.k1
 have k0 := h.k0
 have o0 := h.o0
 have hi := h.q (i, ex) (.head _)
 simp only [List.length_cons] at ht hq
 have h' : ∀ m, 0 ≤ m → m ≤ k → HK k w own seen i m wt page told := fun m m0 m1 => ⟨h.k0, h.k1, h.w4, h.ww, h.o0, h.o1, h.sl, hi.1, hi.2, m0, m1, fun e he => h.q e (.tail _ he), by omega, h.p0, h.p1, h.t, by omega⟩
 unfold nextB
 by_cases ho : 0 ≤ own
 · rw [if_pos ho]
   have o1 := h.o1
   refine ⟨?_, rfl, fun ex0 si => ⟨si.a, fun _ => .inl ⟨ho, si.c rfl⟩, fun hb => (by cases hb)⟩⟩
   have := h' need h.n0 h.n1
   refine ⟨this.k0, this.k1, this.w4, this.ww, this.o0, this.o1, this.sl, this.h0, this.h1, this.n0, this.n1, this.q, this.ql, this.p0, this.p1, fun e he => ?_, by simp; omega⟩
   rcases List.mem_append.1 he with he | he
   · exact h.t e he
   · rw [List.mem_singleton.1 he]
     exact ⟨ho, o1, Nat.zero_le _, msg_none 6 page (.inr rfl) h.p0 h.p1 ex (fun _ => rfl)⟩
 · rw [if_neg ho]
   cases ex with
   | true =>
     rw [if_pos rfl]
     have hsc := scan_ok (h' 0 (by omega) (by omega)) (by omega)
     obtain ⟨l1, l2⟩ := scanL_len i page seen 0
     by_cases hz : (scanL i page 0 seen).2.length = 0
     · rw [if_pos hz]
       rw [hz] at hsc
       refine ⟨?_, rfl, fun ex0 si => give_si hi.1 (by omega) fun _ j hj => scanL_other i page seen 0 j (by omega)⟩
       exact give_ok hsc true (by rw [List.length_append]; omega)
     · rw [if_neg hz]
       refine ⟨hsc, rfl, fun ex0 si => ⟨fun ha => absurd ha ho, fun _ => .inr ⟨by show own = -1; omega, by show (0 : Int) < ((scanL i page 0 seen).2.length : Int); omega, rfl, fun j hj => scanL_other i page seen 0 j (by have hj : (j : Int) ≠ i := hj; omega)⟩, fun hb => (by cases hb)⟩⟩
   | false =>
     rw [if_neg (by simp)]
     refine ⟨give_ok (h' 0 (by omega) (by omega)) false (by omega), rfl, fun ex0 si => give_si hi.1 (by omega) fun hx => (by cases hx)⟩
/-- As long as it is not busy and somebody waits. -/
theorem hear_loop {k : Int} (j1 : Int) (j2 : Bool) (j3 : Int) (j4 : Bool) (j5 : Int) (l1 : List Int) (l2 : List Bool) (l3 : List (Int × Bool)) : ∀ (m : Nat) (w : List Int) (own : Int) (seen : List Bool) (busy : Bool) (who : Int) (ex : Bool) (need : Int) (wait : List (Int × Bool)) (page : Int) (told : List ToldT), wait.length = m → HK k w own seen who need wait page told →
   ∃ s : KT, HKs k s ∧ (SI own seen busy who ex need → SIs s) ∧ ∀ n, m < n →
     f_spec_HomeHear.l0 n j1 j2 j3 j4 j5 own busy who ex need page l1 l2 l3 w seen wait told = some (j1, j2, j3, j4, j5, s.2.1, s.2.2.2.1, s.2.2.2.2.1, s.2.2.2.2.2.1, s.2.2.2.2.2.2.1, s.2.2.2.2.2.2.2.2.1, l1, l2, l3, s.1, s.2.2.1, s.2.2.2.2.2.2.2.1, s.2.2.2.2.2.2.2.2.2) ∧
     f_impl_HomeHear.l1 n j1 j2 j3 j4 j5 own busy who ex need page l1 l2 l3 w seen wait told = some (j1, j2, j3, j4, j5, s.2.1, s.2.2.2.1, s.2.2.2.2.1, s.2.2.2.2.2.1, s.2.2.2.2.2.2.1, s.2.2.2.2.2.2.2.2.1, l1, l2, l3, s.1, s.2.2.1, s.2.2.2.2.2.2.2.1, s.2.2.2.2.2.2.2.2.2) := by
 intro m
 induction m with
 | zero =>
   intro w own seen busy who ex need wait page told hm h
   obtain rfl := List.eq_nil_of_length_eq_zero hm
   refine ⟨(w, own, seen, busy, who, ex, need, [], page, told), h, fun h => h, fun n hn => ?_⟩
   obtain ⟨n, rfl⟩ := succ_fuel hn
   simp only [f_spec_HomeHear.l0, f_impl_HomeHear.l1, List.length_nil, df (show ¬ (0 : Int) < ((0 : Nat) : Int) by omega), cond_false]
   cases busy <;> exact ⟨rfl, rfl⟩
 | succ m ih =>
   intro w own seen busy who ex need wait page told hm h
   cases busy with
   | true =>
     refine ⟨(w, own, seen, true, who, ex, need, wait, page, told), h, fun h => h, fun n hn => ?_⟩
     obtain ⟨n, rfl⟩ := succ_fuel hn
     simp only [f_spec_HomeHear.l0, f_impl_HomeHear.l1, Bool.not_true, cond_false]
     exact ⟨trivial, trivial⟩
   | false =>
     cases wait with
     | nil => cases hm
     | cons e wt =>
       obtain ⟨i, ex'⟩ := e
       simp only [List.length_cons, Nat.add_right_cancel_iff] at hm
       obtain ⟨e1, e2⟩ := next_eq h false ex
       obtain ⟨k1, k2, k3⟩ := next_ok h
       generalize nextB w own seen i ex' need wt page told = s at e1 e2 k1 k2 k3
       obtain ⟨s', a1, a2, a3⟩ := ih s.1 s.2.1 s.2.2.1 s.2.2.2.1 s.2.2.2.2.1 s.2.2.2.2.2.1 s.2.2.2.2.2.2.1 s.2.2.2.2.2.2.2.1 s.2.2.2.2.2.2.2.2.1 s.2.2.2.2.2.2.2.2.2 (by rw [k2]; exact hm) k1
       refine ⟨s', a1, fun si => a2 (k3 ex si), fun n hn => ?_⟩
       obtain ⟨n, rfl⟩ := succ_fuel hn
       obtain ⟨b1, b2⟩ := a3 n (by omega)
       simp only [f_spec_HomeHear.l0, f_impl_HomeHear.l1, List.length_cons, dt (show (0 : Int) < ((wt.length + 1 : Nat) : Int) by omega), Bool.not_false, cond_true, e1, e2, Option.bind_some, b1, b2]
       exact ⟨trivial, trivial⟩
/-- What a message says to a home; none: nothing. -/
def hear0 (w : List Int) (own : Int) (seen : List Bool) (busy : Bool) (who : Int) (ex : Bool) (need : Int) (wait : List (Int × Bool)) (page : Int) (src kind : Int) (ws : List Int) : Option KT :=
 if kind = 1 ∨ kind = 2 then (if wait.length = 12 then none else some (w, own, seen, busy, who, ex, need, wait ++ [(src, decide (kind = 2))], page, []))
 else if kind = 5 then (if busy = true ∧ need ≠ 0 then (if need - 1 = 0 then some (giveB w own seen who ex 0 wait page []) else some (w, own, seen, busy, who, ex, need - 1, wait, page, [])) else none)
 else if kind = 7 then (if busy = true ∧ need = 0 ∧ src = own then some (giveB ws (-1) (seen.set src.toNat (!ex)) who ex need wait page []) else none)
 else none
/-- Where the two differ: an owner that reads, when the page comes back for one who is to own it. -/
def NB (own : Int) (seen : List Bool) (busy : Bool) (ex : Bool) (need : Int) : Prop := busy = true → need = 0 → ex = true → 0 ≤ own → seen.getD own.toNat false = false
theorem setB_same {x : List Bool} {i : Nat} (h : x.getD i false = false) : x.set i false = x := by
 refine List.ext_getElem? fun j => ?_
 rw [List.getElem?_set]
 split
 · rename_i hj
   subst hj
   split
   · rename_i hi
     rw [List.getD_eq_getElem?_getD, List.getElem?_eq_getElem hi] at h
     rw [List.getElem?_eq_getElem hi]
     exact congrArg some h.symm
   · rename_i hi
     rw [List.getElem?_eq_none (by omega)]
 · rfl
theorem hear0_ok {k : Int} {w : List Int} {own : Int} {seen : List Bool} {busy : Bool} {who : Int} {ex : Bool} {need : Int} {wait : List (Int × Bool)} {page : Int} (h : HK k w own seen who need wait page []) (src kind : Int) (c : Bool) (ws : List Int) (s0 : 0 ≤ src) (s1 : src ≤ k - 1)
   (hn : ws.length ≤ 1048576) (hm : f_spec_MsgOk kind page c ws = some true) {s : KT} (hs : hear0 w own seen busy who ex need wait page src kind ws = some s) : HKs k s ∧ (SI own seen busy who ex need → SIs s) := by
 have ql := h.ql
 have n1 := h.n1
 have n0 := h.n0
 have k0 := h.k0
 unfold hear0 at hs
 split at hs
 · split at hs
   · cases hs
   · rename_i hw
     have := Option.some.inj hs
     subst this
     refine ⟨⟨h.k0, h.k1, h.w4, h.ww, h.o0, h.o1, h.sl, h.h0, h.h1, h.n0, h.n1, fun e he => ?_, by simp; omega, h.p0, h.p1, h.t, by simp; omega⟩, fun si => si⟩
     rcases List.mem_append.1 he with he | he
     · exact h.q e he
     · rw [List.mem_singleton.1 he]; exact ⟨s0, s1⟩
 · split at hs
   · split at hs
     · rename_i hb
       split at hs
       · rename_i hz
         have := Option.some.inj hs
         subst this
         have h' : HK k w own seen who 0 wait page [] := ⟨h.k0, h.k1, h.w4, h.ww, h.o0, h.o1, h.sl, h.h0, h.h1, Int.le_refl _, by omega, h.q, h.ql, h.p0, h.p1, h.t, h.tl⟩
         refine ⟨give_ok h' ex (by simp; omega), fun si => ?_⟩
         rcases si.b hb.1 with ⟨_, h0⟩ | ⟨h1, _, _, h2⟩
         · exact absurd h0 hb.2
         · exact give_si h.h0 (by omega) fun _ => h2
       · rename_i hz
         have := Option.some.inj hs
         subst this
         refine ⟨⟨h.k0, h.k1, h.w4, h.ww, h.o0, h.o1, h.sl, h.h0, h.h1, by show 0 ≤ need - 1; have := hb.2; omega, by show need - 1 ≤ k; omega, h.q, h.ql, h.p0, h.p1, h.t, h.tl⟩, fun si => ⟨si.a, fun hb' => ?_, fun hb' => ?_⟩⟩
         · rcases si.b hb.1 with ⟨_, h0⟩ | ⟨h1, h2, h3, h4⟩
           · exact absurd h0 hb.2
           · exact .inr ⟨h1, by show 0 < need - 1; omega, h3, h4⟩
         · have hb' : busy = false := hb'
           rw [hb.1] at hb'; cases hb'
     · cases hs
   · split at hs
     · split at hs
       · rename_i _ _ hk hb
         have := Option.some.inj hs
         subst this
         subst hk
         obtain ⟨hb1, rfl, hb3⟩ := hb
         obtain ⟨-, -, -, -, m5, m6⟩ := msgOk_facts _ _ _ _ hn hm
         rw [if_pos (.inr rfl)] at m6
         have h' : HK k ws (-1) (seen.set src.toNat (!ex)) who 0 wait page [] := ⟨h.k0, h.k1, m6, m5, by omega, by omega, by rw [List.length_set]; exact h.sl, h.h0, h.h1, Int.le_refl _, by omega, h.q, h.ql, h.p0, h.p1, h.t, h.tl⟩
         refine ⟨give_ok h' ex (by simp; omega), fun si => give_si h.h0 (by omega) fun hx j hj => ?_⟩
         rw [hx, Bool.not_true, setB_same (si.a (by omega) _)]
         exact si.a (by omega) j
       · cases hs
     · cases hs
theorem copyS (x0 : List Int) (x1 : Int) (x2 : List Bool) (x3 : Bool) (x4 : Int) (x5 : Bool) (x6 : Int) (x7 : List (Int × Bool)) (h : HomeS x0 x2 x7) : f_spec_l4Copy x0 x1 x2 x3 x4 x5 x6 x7 = some (x0, x1, x2, x3, x4, x5, x6, x7) ∧ f_impl_copyHome x0 x1 x2 x3 x4 x5 x6 x7 = some (x0, x1, x2, x3, x4, x5, x6, x7) := by
 have g0 := h.g0
 have g2 := h.g2
 have g7 := h.g7
 unfold f_spec_l4Copy f_impl_copyHome
 simp only [f_slices_Clone_int_int, f_slices_Clone_bool_bool, f_slices_Clone_impl_Wait_impl_Wait, List.length_nil, Nat.zero_add, (blt_iff _ _).2 (show x0.length < 17592186044416 by omega), (blt_iff _ _).2 (show x2.length < 140737488355328 by omega), (blt_iff _ _).2 (show x7.length < 8796093022208 by omega), cond_true, List.nil_append, Option.bind_some]
 exact ⟨trivial, trivial⟩
theorem spec_hear0 {k : Int} {w : List Int} {own : Int} {seen : List Bool} {busy : Bool} {who : Int} {ex : Bool} {need : Int} {wait : List (Int × Bool)} {page : Int} (h : HK k w own seen who need wait page []) (src kind pg : Int) (c : Bool) (ws : List Int) (s0 : 0 ≤ src) (s1 : src ≤ k - 1)
   (hn : ws.length ≤ 1048576) (hm : f_spec_MsgOk kind page c ws = some true) : f_spec_l4Hear w own seen busy who ex need wait page [] src kind pg c ws = some (match hear0 w own seen busy who ex need wait page src kind ws with
     | some s => (true, s)
     | none => (false, w, own, seen, busy, who, ex, need, wait, page, [])) := by
 have ql := h.ql
 have n0 := h.n0
 have n1 := h.n1
 have hs := h.sl
 have k1 := h.k1
 have k0 := h.k0
 unfold f_spec_l4Hear hear0
 by_cases h1 : kind = 1
 · subst h1
   by_cases hw : wait.length = 12
   · simp only [decide_true, cond_true, hw, dt (show ((12 : Nat) : Int) = 12 by omega), true_or, if_true]
   · simp only [decide_true, cond_true, df (show ¬ (wait.length : Int) = 12 by omega), cond_false, true_or, if_true, if_neg hw, List.length_singleton, (blt_iff _ _).2 (show wait.length + 1 < 8796093022208 by omega), Option.bind_some]
 · by_cases h2 : kind = 2
   · subst h2
     by_cases hw : wait.length = 12
     · simp only [decide_true, cond_true, cond_false, df (show ¬ (2 : Int) = 1 by omega), hw, dt (show ((12 : Nat) : Int) = 12 by omega), or_true, if_true]
     · simp only [decide_true, cond_true, cond_false, df (show ¬ (2 : Int) = 1 by omega), df (show ¬ (wait.length : Int) = 12 by omega), or_true, if_true, if_neg hw, List.length_singleton, (blt_iff _ _).2 (show wait.length + 1 < 8796093022208 by omega), Option.bind_some]
   · simp only [df h1, df h2, cond_false, if_neg (show ¬ (kind = 1 ∨ kind = 2) by omega)]
     by_cases h5 : kind = 5
     · simp only [dt h5, cond_true, if_pos h5]
       cases busy with
       | false => simp only [Bool.not_false, cond_true, Bool.false_eq_true, false_and, if_false]
       | true =>
         by_cases hz : need = 0
         · subst hz
           simp only [Bool.not_true, cond_false, decide_true, cond_true, ne_eq, not_true_eq_false, and_false, if_false]
         · rw [if_pos (⟨rfl, hz⟩ : true = true ∧ need ≠ 0)]
           simp only [Bool.not_true, cond_false, df hz, wz (need - 1) (by omega)]
           by_cases hy : need - 1 = 0
           · have h' : HK k w own seen who 0 wait page [] := ⟨h.k0, h.k1, h.w4, h.ww, h.o0, h.o1, h.sl, h.h0, h.h1, Int.le_refl _, by omega, h.q, h.ql, h.p0, h.p1, h.t, h.tl⟩
             simp only [hy, decide_true, cond_true, (give_eq h' true ex).1, Option.bind_some, if_true]
           · simp only [df hy, cond_false, if_neg hy]
     · by_cases h7 : kind = 7
       · subst h7
         simp only [df h5, cond_false, if_neg h5, decide_true, cond_true, if_true]
         cases busy with
         | false => simp only [Bool.not_false, cond_true, Bool.false_eq_true, false_and, if_false]
         | true =>
           by_cases hz : need = 0
           · subst hz
             by_cases ho : src = own
             · obtain rfl : own = src := ho.symm
               obtain ⟨-, -, -, -, m5, m6⟩ := msgOk_facts _ _ _ _ hn hm
               rw [if_pos (.inr rfl)] at m6
               have h' : HK k ws (-1) (seen.set own.toNat (!ex)) who 0 wait page [] := ⟨h.k0, h.k1, m6, m5, by omega, by omega, by rw [List.length_set]; exact h.sl, h.h0, h.h1, Int.le_refl _, by omega, h.q, h.ql, h.p0, h.p1, h.t, h.tl⟩
               rw [if_pos (⟨rfl, rfl, rfl⟩ : true = true ∧ (0 : Int) = 0 ∧ own = own)]
               simp only [Bool.not_true, cond_false, df (show ¬ (0 : Int) < 0 by omega), decide_true, List.length_nil, Nat.zero_add, (blt_iff _ _).2 (show ws.length < 17592186044416 by omega), cond_true, List.nil_append, Option.bind_some, dt s0, dt (show own < (seen.length : Int) by omega), Bool.and_self, (give_eq h' true ex).1]
             · rw [if_neg (fun h => ho h.2.2)]
               simp only [Bool.not_true, cond_false, df (show ¬ (0 : Int) < 0 by omega), df ho, Bool.not_false, cond_true]
           · rw [if_neg (fun h => hz h.2.1)]
             simp only [Bool.not_true, cond_false, dt (show 0 < need by omega), cond_true]
       · simp only [df h5, df h7, cond_false, if_neg h5, if_neg h7]
theorem impl_hear0 {k : Int} {w : List Int} {own : Int} {seen : List Bool} {busy : Bool} {who : Int} {ex : Bool} {need : Int} {wait : List (Int × Bool)} {page : Int} (h : HK k w own seen who need wait page []) (nb : NB own seen busy ex need) (src kind pg : Int) (c : Bool) (ws : List Int) (s0 : 0 ≤ src) (s1 : src ≤ k - 1)
   (hn : ws.length ≤ 1048576) (hm : f_spec_MsgOk kind page c ws = some true) (fl : Bool) (hfl : fl = (decide (kind = 1 ∨ kind = 2) && decide ((wait.length : Int) < 12))) (j1 : Int) (j2 : Bool) (j3 : Int) (j4 : Bool) (j5 : Int) (l1 : List Int) (l2 : List Bool) (l3 : List (Int × Bool)) :
   f_impl_HomeHear.j0 src fl w own seen busy who ex need wait kind pg c ws j1 j2 j3 j4 j5 own busy who ex need page l1 l2 l3 w seen wait [] = some (match hear0 w own seen busy who ex need wait page src kind ws with
     | some s => .inl (j1, j2, j3, j4, j5, s.2.1, s.2.2.2.1, s.2.2.2.2.1, s.2.2.2.2.2.1, s.2.2.2.2.2.2.1, s.2.2.2.2.2.2.2.2.1, l1, l2, l3, s.1, s.2.2.1, s.2.2.2.2.2.2.2.1, s.2.2.2.2.2.2.2.2.2)
     | none => .inr (own, busy, who, ex, need, w, seen, wait)) := by
 have ql := h.ql
 have n0 := h.n0
 have n1 := h.n1
 have hs := h.sl
 have k1 := h.k1
 have k0 := h.k0
 have w4 := h.w4
 have hS : HomeS w seen wait := ⟨by omega, by omega, by omega⟩
 have hc := (copyS w own seen busy who ex need wait hS).2
 have h' : HK k w own seen who 0 wait page [] := ⟨h.k0, h.k1, h.w4, h.ww, h.o0, h.o1, h.sl, h.h0, h.h1, Int.le_refl _, by omega, h.q, h.ql, h.p0, h.p1, h.t, h.tl⟩
 unfold f_impl_HomeHear.j0 hear0
 by_cases h12 : kind = 1 ∨ kind = 2
 · rw [if_pos h12]
   rw [dt h12, Bool.true_and] at hfl
   subst hfl
   by_cases hw : wait.length = 12
   · rw [if_pos hw]
     simp only [df (show ¬ (wait.length : Int) < 12 by omega), cond_false, df (show ¬ kind = 5 by omega), df (show ¬ kind = 7 by omega), hc, Option.bind_some]
   · rw [if_neg hw]
     simp only [dt (show (wait.length : Int) < 12 by omega), cond_true, List.length_singleton, (blt_iff _ _).2 (show wait.length + 1 < 8796093022208 by omega), Option.bind_some]
 · rw [if_neg h12]
   rw [df h12, Bool.false_and] at hfl
   subst hfl
   simp only [cond_false]
   by_cases h5 : kind = 5
   · rw [if_pos h5]
     simp only [dt h5, cond_true, df (show ¬ kind = 7 by omega), cond_false, hc, Option.bind_some]
     cases busy with
     | false => rw [if_neg (fun h => by cases h.1)]; rfl
     | true =>
       by_cases hz : need = 0
       · rw [if_neg (fun h => h.2 hz)]
         simp only [cond_true, df (show ¬ (0 : Int) < need by omega), cond_false]
       · rw [if_pos (⟨rfl, hz⟩ : true = true ∧ need ≠ 0)]
         simp only [cond_true, dt (show (0 : Int) < need by omega), wz (need - 1) (by omega)]
         by_cases hy : need - 1 = 0
         · simp only [hy, decide_true, cond_true, (give_eq h' true ex).2, Option.bind_some, if_true]
         · simp only [df hy, cond_false, if_neg hy]
   · rw [if_neg h5]
     simp only [df h5, cond_false]
     by_cases h7 : kind = 7
     · rw [if_pos h7]
       simp only [dt h7, cond_true, hc, Option.bind_some]
       cases busy with
       | false => rw [if_neg (fun h => by cases h.1)]; rfl
       | true =>
         by_cases ho : src = own
         · by_cases hz : need = 0
           · subst h7
             subst hz
             obtain rfl : own = src := ho.symm
             obtain ⟨-, -, -, -, m5, m6⟩ := msgOk_facts _ _ _ _ hn hm
             rw [if_pos (.inr rfl)] at m6
             have h7' : HK k ws (-1) (seen.set own.toNat (!ex)) who 0 wait page [] := ⟨h.k0, h.k1, m6, m5, by omega, by omega, by rw [List.length_set]; exact h.sl, h.h0, h.h1, Int.le_refl _, by omega, h.q, h.ql, h.p0, h.p1, h.t, h.tl⟩
             rw [if_pos (⟨rfl, rfl, rfl⟩ : true = true ∧ (0 : Int) = 0 ∧ own = own)]
             simp only [decide_true, cond_true, f_slices_Clone_int_int, Nat.zero_add, (blt_iff _ _).2 (show ws.length < 17592186044416 by omega), Option.bind_some]
             cases ex with
             | false =>
               simp only [Bool.not_false, cond_true, dt s0, dt (show own < (seen.length : Int) by omega), Bool.and_self]
               have := (give_eq h7' true false).2
               simp only [Bool.not_false] at this
               simp only [this, Option.bind_some]
             | true =>
               have e := setB_same (nb rfl rfl rfl s0)
               have := (give_eq h7' true true).2
               simp only [Bool.not_true, e] at this
               simp only [Bool.not_true, cond_false, this, Option.bind_some, e]
           · rw [if_neg (fun h => hz h.2.1)]
             simp only [dt ho, cond_true, df hz, cond_false]
         · rw [if_neg (fun h => ho h.2.2)]
           simp only [cond_true, df ho, cond_false]
     · rw [if_neg h7]
       simp only [df h7, cond_false, hc, Option.bind_some]
theorem HK_of {x0 : List Int} {x1 : Int} {x2 : List Bool} {x4 x6 : Int} {x7 : List (Int × Bool)} {k : Int} (h : homeOkB x0 x1 x2 x4 x6 x7 k = true) (page : Int) (p0 : 0 ≤ page) (p1 : page ≤ 5) : HK k x0 x1 x2 x4 x6 x7 page [] := by
 unfold homeOkB rng2 at h
 simp only [Bool.and_eq_true, decide_eq_true_eq, List.all_eq_true] at h
 obtain ⟨⟨⟨⟨⟨⟨⟨h1, h2, h3⟩, h4⟩, h5⟩, h6⟩, h7⟩, h8⟩, h9⟩ := h
 exact ⟨h1.1, h1.2, by omega, h2, h4.1, h4.2, h5, h6.1, h6.2, h7.1, h7.2, h9, by omega, p0, p1, fun e he => (by cases he), by simp; omega⟩
theorem HK_to {w : List Int} {own : Int} {seen : List Bool} {who need : Int} {wait : List (Int × Bool)} {page : Int} {told : List ToldT} {k : Int} (h : HK k w own seen who need wait page told) : homeOkB w own seen who need wait k = true := by
 unfold homeOkB rng2
 simp only [Bool.and_eq_true, decide_eq_true_eq, List.all_eq_true]
 have := h.w4
 have := h.ql
 exact ⟨⟨⟨⟨⟨⟨⟨⟨h.k0, h.k1⟩, h.ww, by omega⟩, h.o0, h.o1⟩, h.sl⟩, h.h0, h.h1⟩, h.n0, h.n1⟩, by omega⟩, h.q⟩
abbrev HR := List Int × Int × List Bool × Bool × Int × Bool × Int × List (Int × Bool) × List ToldT
def HearR (x0 : List Int) (x1 : Int) (x2 : List Bool) (x3 : Bool) (x4 : Int) (x5 : Bool) (x6 : Int) (x7 : List (Int × Bool)) (k : Int) (f g : Option HR) : Prop :=
   ∃ r : HR, f = some r ∧ (NB x1 x2 x3 x5 x6 → g = some r) ∧
     (homeOkB x0 x1 x2 x4 x6 x7 k = true → homeOkB r.1 r.2.1 r.2.2.1 r.2.2.2.2.1 r.2.2.2.2.2.2.1 r.2.2.2.2.2.2.2.1 k = true ∧ (SI x1 x2 x3 x4 x5 x6 → SI r.2.1 r.2.2.1 r.2.2.2.1 r.2.2.2.2.1 r.2.2.2.2.2.1 r.2.2.2.2.2.2.1)) ∧
     HomeS r.1 r.2.2.1 r.2.2.2.2.2.2.2.1 ∧ r.2.2.2.2.2.2.2.2.length ≤ 120 ∧ (∀ e ∈ r.2.2.2.2.2.2.2.2, okT k e) ∧ (homeOkB x0 x1 x2 x4 x6 x7 k = false → r.2.2.2.2.2.2.2.2 = [])
theorem same_hear (x0 : List Int) (x1 : Int) (x2 : List Bool) (x3 : Bool) (x4 : Int) (x5 : Bool) (x6 : Int) (x7 : List (Int × Bool)) (k page src kind pg : Int) (c : Bool) (ws : List Int) (hS : HomeS x0 x2 x7) (hn : ws.length ≤ 1048576) :
   HearR x0 x1 x2 x3 x4 x5 x6 x7 k (f_spec_HomeHear x0 x1 x2 x3 x4 x5 x6 x7 k page src kind pg c ws) (f_impl_HomeHear x0 x1 x2 x3 x4 x5 x6 x7 k page src kind pg c ws) := by
 obtain ⟨c1, c2⟩ := copyS x0 x1 x2 x3 x4 x5 x6 x7 hS
 obtain ⟨b, m1, m2⟩ := same_msgOk kind pg c ws hn
 unfold f_spec_HomeHear f_impl_HomeHear
 simp only [c1, c2, specHomeOk x0 x1 x2 x3 x4 x5 x6 x7 k hS, implHomeOk x0 x1 x2 x3 x4 x5 x6 x7 k hS, m1, m2, in_rng2, Option.bind_some]
 have same : ∀ f g : Option HR, f = some (x0, x1, x2, x3, x4, x5, x6, x7, []) → (NB x1 x2 x3 x5 x6 → g = some (x0, x1, x2, x3, x4, x5, x6, x7, [])) → HearR x0 x1 x2 x3 x4 x5 x6 x7 k f g :=
   fun f g hf hg => ⟨_, hf, hg, fun h => ⟨h, fun h => h⟩, hS, Nat.zero_le _, fun e he => (by cases he), fun _ => rfl⟩
 cases hok : homeOkB x0 x1 x2 x4 x6 x7 k with
 | false => simp only [Bool.not_false, cond_true]; exact same _ _ rfl fun _ => rfl
 | true =>
   simp only [Bool.not_true, cond_false]
   cases b with
   | false => simp only [Bool.not_false, cond_true]; exact same _ _ rfl fun _ => rfl
   | true =>
     obtain ⟨f1, f2, p0, p1, -, -⟩ := msgOk_facts _ _ _ _ hn m1
     have hk := HK_of hok pg p0 p1
     have k0 := hk.k0
     have k1 := hk.k1
     simp only [Bool.not_true, cond_false, isOf_rng src k k0 k1, wz (k - 1) (by omega), Option.bind_some]
     cases hr : rng2 0 src (k - 1) with
     | false => simp only [Bool.not_false, cond_true]; exact same _ _ rfl fun _ => rfl
     | true =>
       unfold rng2 at hr
       simp only [Bool.and_eq_true, decide_eq_true_eq] at hr
       by_cases hp : page = pg
       · subst hp
         simp only [decide_true, Bool.not_true, cond_false, spec_hear0 hk src kind page c ws hr.1 hr.2 hn m1, Option.bind_some]
         have ij := fun nb fl hfl => impl_hear0 hk (busy := x3) (ex := x5) nb src kind page c ws hr.1 hr.2 hn m1 fl hfl 0 false 0 false 0 [] [] []
         have ok0 := fun s => @hear0_ok k x0 x1 x2 x3 x4 x5 x6 x7 page hk src kind c ws hr.1 hr.2 hn m1 s
         generalize hear0 x0 x1 x2 x3 x4 x5 x6 x7 page src kind ws = o at ij ok0
         cases o with
         | none =>
           simp only [Bool.not_false, cond_true]
           refine same _ _ rfl fun nb => ?_
           by_cases k1' : kind = 1
           · simp only [dt k1', cond_true, ij nb _ (by rw [dt (.inl k1'), Bool.true_and]), Option.bind_some, cs]
           · by_cases k2' : kind = 2
             · simp only [df k1', dt k2', cond_true, cond_false, ij nb _ (by rw [dt (.inr k2'), Bool.true_and]), Option.bind_some, cs]
             · simp only [df k1', df k2', cond_false, ij nb false (by rw [df (show ¬ (kind = 1 ∨ kind = 2) by omega), Bool.false_and]), Option.bind_some, cs]
         | some s =>
           obtain ⟨a1, a2⟩ := ok0 s rfl
           obtain ⟨s', b1, b2, b3⟩ := hear_loop 0 false 0 false 0 [] [] [] s.2.2.2.2.2.2.2.1.length s.1 s.2.1 s.2.2.1 s.2.2.2.1 s.2.2.2.2.1 s.2.2.2.2.2.1 s.2.2.2.2.2.2.1 s.2.2.2.2.2.2.2.1 s.2.2.2.2.2.2.2.2.1 s.2.2.2.2.2.2.2.2.2 rfl a1
           have hfu := a1.ql
           obtain ⟨d1, d2⟩ := b3 N (Nat.lt_of_le_of_lt hfu (Nat.lt_trans (by omega) big))
           refine ⟨(s'.1, s'.2.1, s'.2.2.1, s'.2.2.2.1, s'.2.2.2.2.1, s'.2.2.2.2.2.1, s'.2.2.2.2.2.2.1, s'.2.2.2.2.2.2.2.1, s'.2.2.2.2.2.2.2.2.2), ?_, fun nb => ?_, fun _ => ⟨HK_to b1, fun si => b2 (a2 si)⟩, ?_, ?_, b1.t, fun h => (by rw [hok] at h; cases h)⟩
           · simp only [Bool.not_true, cond_false, d1, Option.bind_some]
           · by_cases k1' : kind = 1
             · simp only [dt k1', cond_true, ij nb _ (by rw [dt (.inl k1'), Bool.true_and]), Option.bind_some, cs, d2]
             · by_cases k2' : kind = 2
               · simp only [df k1', dt k2', cond_true, cond_false, ij nb _ (by rw [dt (.inr k2'), Bool.true_and]), Option.bind_some, cs, d2]
               · simp only [df k1', df k2', cond_false, ij nb false (by rw [df (show ¬ (kind = 1 ∨ kind = 2) by omega), Bool.false_and]), Option.bind_some, cs, d2]
           · have := b1.w4; have := b1.sl; have := b1.ql
             exact ⟨by show s'.1.length ≤ _; omega, by show s'.2.2.1.length ≤ _; omega, by show s'.2.2.2.2.2.2.2.1.length ≤ _; omega⟩
           · have := b1.tl
             show s'.2.2.2.2.2.2.2.2.2.length ≤ 120
             omega
       · simp only [df hp, df (show ¬ pg = page from fun h => hp h.symm), Bool.not_false, cond_true]
         exact same _ _ rfl fun _ => rfl
def homeNew (k : Int) : HomeT := (List.replicate 4 0, -1, List.replicate k.toNat false, false, 0, false, 0, [])
def nodeNewB (x0 k : Int) : Int × List FrameT × List HomeT × List SenderT × List Int × Bool := if (1 ≤ k ∧ k ≤ 4) ∧ 0 ≤ x0 ∧ x0 ≤ k - 1 then (x0, List.replicate 6 (0, [], false), List.replicate 6 (homeNew k), List.replicate k.toNat (0, []), List.replicate k.toNat 0, true) else (0, [], [], [], [], false)
theorem specHomeNew (k : Int) (h0 : 1 ≤ k) (h1 : k ≤ 4) : f_spec_HomeNew k = some (homeNew k) := by
 unfold f_spec_HomeNew homeNew
 have hr : rg k 1 4 = true := by unfold rg; rw [dt h0, dt h1]; rfl
 simp only [in_rg, hr, Option.bind_some, Bool.not_true, cond_false, dt (show 0 ≤ k by omega), show Nat.ble k.toNat 140737488355328 = true from Nat.ble_eq_true_of_le (by omega), Bool.and_self, cond_true]
theorem implHomeNew (k : Int) (h0 : 1 ≤ k) (h1 : k ≤ 4) : f_impl_HomeNew k = some (homeNew k) := by
 unfold f_impl_HomeNew homeNew
 have hr : rg k 1 4 = true := by unfold rg; rw [dt h0, dt h1]; rfl
 simp only [from_rg, hr, Option.bind_some, Bool.not_true, cond_false, dt (show 0 ≤ k by omega), show Nat.ble k.toNat 140737488355328 = true from Nat.ble_eq_true_of_le (by omega), Bool.and_self, cond_true]
theorem specNodeNew (x0 k : Int) : f_spec_NodeNew x0 k = some (nodeNewB x0 k) := by
 unfold f_spec_NodeNew nodeNewB
 simp only [in_rg, Option.bind_some]
 by_cases hk : 1 ≤ k ∧ k ≤ 4
 · have hr : rg k 1 4 = true := by unfold rg; rw [dt hk.1, dt hk.2]; rfl
   rw [hr, wz (k - 1) (by omega)]
   by_cases hx : 0 ≤ x0 ∧ x0 ≤ k - 1
   · have hr2 : rg x0 0 (k - 1) = true := by unfold rg; rw [dt hx.1, dt hx.2]; rfl
     obtain ⟨n, hn⟩ : ∃ n, N = n + 7 := ⟨N - 7, rfl⟩
     rw [hr2, if_pos ⟨hk, hx.1, hx.2⟩, hn]
     simp only [Bool.not_true, cond_false, dt (show 0 ≤ k by omega), show Nat.ble k.toNat 4398046511104 = true from Nat.ble_eq_true_of_le (by omega), show Nat.ble k.toNat 17592186044416 = true from Nat.ble_eq_true_of_le (by omega), Bool.and_self, cond_true, f_spec_NodeNew.l0, specHomeNew k hk.1 hk.2, Option.bind_some]
     rfl
   · have hr2 : rg x0 0 (k - 1) = false := by
       unfold rg
       by_cases h : 0 ≤ x0
       · rw [dt h, df (fun h' => hx ⟨h, h'⟩)]; rfl
       · rw [df h]; rfl
     rw [hr2, if_neg (fun h => hx h.2)]
     rfl
 · have hr : rg k 1 4 = false := by
     unfold rg
     by_cases h : 1 ≤ k
     · rw [dt h, df (fun h' => hk ⟨h, h'⟩)]; rfl
     · rw [df h]; rfl
   rw [hr, if_neg (fun h => hk h.1)]
   rfl
theorem implNodeNew (x0 k : Int) : f_impl_NodeNew x0 k = some (nodeNewB x0 k) := by
 unfold f_impl_NodeNew nodeNewB f_impl_isOf
 simp only [from_rg, Option.bind_some]
 by_cases hk : 1 ≤ k ∧ k ≤ 4
 · have hr : rg k 1 4 = true := by unfold rg; rw [dt hk.1, dt hk.2]; rfl
   rw [hr, wz (k - 1) (by omega)]
   by_cases hx : 0 ≤ x0 ∧ x0 ≤ k - 1
   · have hr2 : rg x0 0 (k - 1) = true := by unfold rg; rw [dt hx.1, dt hx.2]; rfl
     obtain ⟨n, hn⟩ : ∃ n, N = n + 7 := ⟨N - 7, rfl⟩
     rw [hr2, if_pos ⟨hk, hx.1, hx.2⟩, hn]
     simp only [Bool.not_true, cond_false, dt (show 0 ≤ k by omega), show Nat.ble k.toNat 4398046511104 = true from Nat.ble_eq_true_of_le (by omega), show Nat.ble k.toNat 17592186044416 = true from Nat.ble_eq_true_of_le (by omega), Bool.and_self, cond_true, f_impl_NodeNew.l0, implHomeNew k hk.1 hk.2, Option.bind_some]
     rfl
   · have hr2 : rg x0 0 (k - 1) = false := by
       unfold rg
       by_cases h : 0 ≤ x0
       · rw [dt h, df (fun h' => hx ⟨h, h'⟩)]; rfl
       · rw [df h]; rfl
     rw [hr2, if_neg (fun h => hx h.2)]
     rfl
 · have hr : rg k 1 4 = false := by
     unfold rg
     by_cases h : 1 ≤ k
     · rw [dt h, df (fun h' => hk ⟨h, h'⟩)]; rfl
     · rw [df h]; rfl
   rw [hr, if_neg (fun h => hk h.1)]
   rfl
theorem sumW_const {α : Type} (W : α → Int) (a : α) : ∀ n : Nat, sumW W (List.replicate n a) = n * W a
 | 0 => by simp [sumW]
 | n + 1 => by rw [List.replicate_succ]; simp only [sumW, sumW_const W a n]; rw [Int.natCast_add, Int.add_mul]; omega
theorem nodeNew_ok (x0 k : Int) : NodeK (nodeNewB x0 k).2.1 (nodeNewB x0 k).2.2.1 (nodeNewB x0 k).2.2.2.1 (nodeNewB x0 k).2.2.2.2.1 ∧ wNode (nodeNewB x0 k).2.1 (nodeNewB x0 k).2.2.1 (nodeNewB x0 k).2.2.2.1 (nodeNewB x0 k).2.2.2.2.1 ≤ 1000 := by
 unfold nodeNewB
 by_cases h : (1 ≤ k ∧ k ≤ 4) ∧ 0 ≤ x0 ∧ x0 ≤ k - 1
 · rw [if_pos h]
   refine ⟨⟨by simp, by simp, by simp; omega, by simp; omega, fun e he => ?_, fun e he => ?_, fun e he => ?_⟩, ?_⟩
   · rw [List.eq_of_mem_replicate he]; exact Nat.zero_le _
   · rw [List.eq_of_mem_replicate he]; exact ⟨by simp [homeNew], by simp [homeNew]; omega, by simp [homeNew]⟩
   · rw [List.eq_of_mem_replicate he]; exact ⟨Nat.zero_le _, fun f hf => by cases hf⟩
   · unfold wNode
     rw [sumW_const, sumW_const, sumW_const, List.length_replicate]
     simp only [wFrame, wHome, homeNew, wSender, sumW, List.length_replicate, List.length_nil]
     omega
 · rw [if_neg h]
   exact ⟨⟨by simp, by simp, by simp, by simp, fun e he => (by cases he), fun e he => (by cases he), fun e he => (by cases he)⟩, by simp [wNode, sumW]⟩
def nodeAt (k j : Nat) : NodeT := ((j : Int), List.replicate 6 (0, [], false), List.replicate 6 (homeNew (k : Int)), List.replicate k (0, []), List.replicate k 0)
def worldNewB (x0 : Int) : Int × List NodeT × List PacketT × Bool := if 1 ≤ x0 ∧ x0 ≤ 4 then (x0, (List.range x0.toNat).map (nodeAt x0.toNat), [], true) else (0, [], [], false)
theorem nodeNewB_at (k j : Nat) (h1 : 1 ≤ k) (h2 : k ≤ 4) (hj : j < k) : nodeNewB (j : Int) (k : Int) = ((nodeAt k j).1, (nodeAt k j).2.1, (nodeAt k j).2.2.1, (nodeAt k j).2.2.2.1, (nodeAt k j).2.2.2.2, true) := by
 unfold nodeNewB nodeAt
 rw [if_pos (by omega)]
 simp
theorem specWorldNew (x0 : Int) : f_spec_WorldNew x0 = some (worldNewB x0) := by
 unfold f_spec_WorldNew worldNewB
 simp only [in_rg, Option.bind_some]
 by_cases h : 1 ≤ x0 ∧ x0 ≤ 4
 · obtain ⟨k, rfl⟩ : ∃ k : Nat, x0 = k := ⟨x0.toNat, by omega⟩
   have hr : rg (k : Int) 1 4 = true := by unfold rg; rw [dt h.1, dt h.2]; rfl
   have hl : ∀ (r j n : Nat) (x : List NodeT), j + r = k → r < n → x.length = j → f_spec_WorldNew.l0 n (k : Int) false (j : Int) 0 (k : Int) [] [] x [] = some (false, 0, (k : Int), [], [], x ++ ((List.range' j r).map (nodeAt k)), []) := by
     intro r
     induction r with
     | zero => intro j n x hj hn hx; obtain ⟨m, rfl⟩ : ∃ m, n = m + 1 := ⟨n - 1, by omega⟩; obtain rfl : j = k := by omega
               simp only [f_spec_WorldNew.l0, df (show ¬ (j : Int) < (j : Int) by omega), cond_false, List.range'_zero, List.map_nil, List.append_nil]
     | succ r ih =>
       intro j n x hj hn hx
       obtain ⟨m, rfl⟩ : ∃ m, n = m + 1 := ⟨n - 1, by omega⟩
       simp only [f_spec_WorldNew.l0, dt (show (j : Int) < (k : Int) by omega), cond_true, specNodeNew, Option.bind_some, nodeNewB_at k j (by omega) (by omega) (by omega)]
       rw [show Nat.blt (x.length + _) 1353245080339 = true from Nat.ble_eq_true_of_le (show _ + 1 ≤ _ by simp only [List.length_cons, List.length_nil]; omega), wz ((j : Int) + 1) (by omega), cond_true, show ((j : Int) + 1) = ((j + 1 : Nat) : Int) by omega, ih (j + 1) m _ (by omega) (by omega) (by simp [hx]), List.range'_succ, List.map_cons, List.append_assoc]
       rfl
   have := hl k 0 N [] (by omega) (Nat.lt_of_le_of_lt (show k ≤ 4 by omega) (Nat.lt_trans (by omega) big)) rfl
   rw [hr, if_pos h]
   simp only [Bool.not_true, cond_false]
   rw [show f_spec_WorldNew.l0 N (k : Int) false 0 0 (k : Int) [] [] [] [] = _ from this]
   simp [List.range_eq_range']
 · have hr : rg x0 1 4 = false := by
     unfold rg
     by_cases h' : 1 ≤ x0
     · rw [dt h', df (fun h2 => h ⟨h', h2⟩)]; rfl
     · rw [df h']; rfl
   rw [hr, if_neg h]
   rfl
theorem implWorldNew (x0 : Int) : f_impl_WorldNew x0 = some (worldNewB x0) := by
 unfold f_impl_WorldNew worldNewB
 simp only [from_rg, Option.bind_some]
 by_cases h : 1 ≤ x0 ∧ x0 ≤ 4
 · obtain ⟨k, rfl⟩ : ∃ k : Nat, x0 = k := ⟨x0.toNat, by omega⟩
   have hr : rg (k : Int) 1 4 = true := by unfold rg; rw [dt h.1, dt h.2]; rfl
   have hl : ∀ (r j n : Nat) (x : List NodeT), j + r = k → r < n → x.length = j → f_impl_WorldNew.l0 n (k : Int) false (k : Int) (j : Int) 0 (k : Int) [] [] x [] = some (false, 0, (k : Int), [], [], x ++ ((List.range' j r).map (nodeAt k)), []) := by
     intro r
     induction r with
     | zero => intro j n x hj hn hx; obtain ⟨m, rfl⟩ : ∃ m, n = m + 1 := ⟨n - 1, by omega⟩; obtain rfl : j = k := by omega
               simp only [f_impl_WorldNew.l0, df (show ¬ (j : Int) < (j : Int) by omega), cond_false, List.range'_zero, List.map_nil, List.append_nil]
     | succ r ih =>
       intro j n x hj hn hx
       obtain ⟨m, rfl⟩ : ∃ m, n = m + 1 := ⟨n - 1, by omega⟩
       simp only [f_impl_WorldNew.l0, dt (show (j : Int) < (k : Int) by omega), cond_true, implNodeNew, Option.bind_some, nodeNewB_at k j (by omega) (by omega) (by omega)]
       rw [show Nat.blt (x.length + _) 1353245080339 = true from Nat.ble_eq_true_of_le (show _ + 1 ≤ _ by simp only [List.length_cons, List.length_nil]; omega), wz ((j : Int) + 1) (by omega), cond_true, show ((j : Int) + 1) = ((j + 1 : Nat) : Int) by omega, ih (j + 1) m _ (by omega) (by omega) (by simp [hx]), List.range'_succ, List.map_cons, List.append_assoc]
       rfl
   have := hl k 0 N [] (by omega) (Nat.lt_of_le_of_lt (show k ≤ 4 by omega) (Nat.lt_trans (by omega) big)) rfl
   rw [hr, if_pos h]
   simp only [Bool.not_true, cond_false]
   rw [show f_impl_WorldNew.l0 N (k : Int) false (k : Int) 0 0 (k : Int) [] [] [] [] = _ from this]
   simp [List.range_eq_range']
 · have hr : rg x0 1 4 = false := by
     unfold rg
     by_cases h' : 1 ≤ x0
     · rw [dt h', df (fun h2 => h ⟨h', h2⟩)]; rfl
     · rw [df h']; rfl
   rw [hr, if_neg h]
   rfl
theorem worldNew_ok (x0 : Int) : (worldNewB x0).2.1.length ≤ 4 ∧ (worldNewB x0).2.2.1 = [] ∧ (∀ e ∈ (worldNewB x0).2.1, okNode e) ∧ sumW wNodeE (worldNewB x0).2.1 ≤ 4004 := by
 unfold worldNewB
 by_cases h : 1 ≤ x0 ∧ x0 ≤ 4
 · rw [if_pos h]
   obtain ⟨k, rfl⟩ : ∃ k : Nat, x0 = k := ⟨x0.toNat, by omega⟩
   have hk : ∀ e ∈ (List.range k).map (nodeAt k), okNode e ∧ wNodeE e ≤ 1001 := by
     intro e he
     obtain ⟨j, hj, rfl⟩ := List.mem_map.mp he
     have hj := List.mem_range.mp hj
     obtain ⟨a, b⟩ := nodeNew_ok (j : Int) (k : Int)
     rw [nodeNewB_at k j (by omega) (by omega) hj] at a b
     exact ⟨a, show 1 + wNode _ _ _ _ ≤ 1001 by simp only at b; omega⟩
   refine ⟨by simp; omega, rfl, fun e he => (hk e he).1, ?_⟩
   have := sumW_le (W := wNodeE) (M := 1001) ((List.range k).map (nodeAt k)) (fun e he => (hk e he).2)
   simp only [List.length_map, List.length_range] at this
   show sumW wNodeE ((List.range k).map (nodeAt k)) ≤ 4004
   omega
 · rw [if_neg h]
   exact ⟨by simp, rfl, fun e he => (by cases he), by simp [sumW]⟩
theorem and8 (n : Int) : bitI .and .i64 n 255 = n % 256 := by
 have h : (BitVec.ofInt 64 n &&& BitVec.ofInt 64 255).toNat = (n % 18446744073709551616).toNat % 256 := by
   rw [BitVec.toNat_and, BitVec.toNat_ofInt]
   show (n % 18446744073709551616).toNat &&& (2 ^ 8 - 1) = _
   rw [Nat.and_two_pow_sub_one_eq_mod]
 show IntKind.wrap .i64 ((BitVec.ofInt 64 n &&& BitVec.ofInt 64 255).toNat : Int) = _
 rw [h, w64 (by omega) (by omega)]
 omega
theorem draw_byte (x : List Int) (hn : x.length ≤ 1048576) (p s : Int) (hp : 0 ≤ p) : ∃ b p' s', f_spec_l1Byte x p s = some (b, p', s') ∧ 0 ≤ b ∧ b ≤ 255 ∧ 0 ≤ p' := by
 unfold f_spec_l1Byte
 simp only [and8]
 by_cases h : p < (x.length : Int)
 · rw [dt h, dt hp, wz (p + 1) (by omega)]
   exact ⟨_, _, _, rfl, by omega, by omega, by omega⟩
 · rw [df h]
   exact ⟨_, _, _, rfl, by omega, by omega, hp⟩
theorem draw_below (x : List Int) (hn : x.length ≤ 1048576) (p s n : Int) (hp : 0 ≤ p) : ∃ r p' s', f_spec_l1Below x p s n = some (r, p', s') ∧ 0 ≤ p' ∧ 0 ≤ r ∧ (0 < n → r < n) ∧ (n ≤ 0 → r = 0) := by
 unfold f_spec_l1Below
 by_cases h0 : n ≤ 0
 · rw [dt h0]
   exact ⟨_, _, _, rfl, hp, Int.le_refl _, fun h => by omega, fun _ => rfl⟩
 · rw [df h0, cond_false, df (show ¬ n = 0 by omega)]
   have hm : ∀ b, 0 ≤ b → 0 ≤ Int.tmod b n ∧ Int.tmod b n < n := fun b hb => by
     rw [Int.tmod_eq_emod_of_nonneg hb]
     exact ⟨Int.emod_nonneg _ (by omega), Int.emod_lt_of_pos _ (by omega)⟩
   by_cases h1 : n ≤ 256
   · obtain ⟨b, p', s', e, b0, b1, q⟩ := draw_byte x hn p s hp
     rw [dt h1, e]
     exact ⟨_, _, _, rfl, q, (hm b b0).1, fun _ => (hm b b0).2, fun h => absurd h h0⟩
   · obtain ⟨b, p1, s1, e1, b0, b1, q1⟩ := draw_byte x hn p s hp
     obtain ⟨c, p2, s2, e2, c0, c1, q2⟩ := draw_byte x hn p1 s1 q1
     obtain ⟨d, p3, s3, e3, d0, d1, q3⟩ := draw_byte x hn p2 s2 q2
     obtain ⟨e, p4, s4, e4, f0, f1, q4⟩ := draw_byte x hn p3 s3 q3
     rw [df h1, cond_false, e1, Option.bind_some]
     simp only [e2, e3, e4, Option.bind_some, cond_false]
     rw [wz (b * 16777216) (by omega), wz (c * 65536) (by omega), wz (d * 256) (by omega), wz (b * 16777216 + c * 65536) (by omega), wz (b * 16777216 + c * 65536 + d * 256) (by omega), wz (b * 16777216 + c * 65536 + d * 256 + e) (by omega)]
     have := hm (b * 16777216 + c * 65536 + d * 256 + e) (by omega)
     exact ⟨_, _, _, rfl, q4, this.1, fun _ => this.2, fun h => absurd h h0⟩
/-- The head of a draw: the bytes that it was handed, and a number out of them. -/
theorem draw_new {τ : Type} {F : Nat → List Int → Int → Int → Option τ} {G : List Int → Int → τ}
   (hs : ∀ n x s i, F (n + 1) x s i = bif (decide (i < (x.length : Int))) then bif (decide (i < (4000 : Int))) then bif ((decide ((0 : Int) ≤ i)) && (decide (i < (x.length : Int)))) then
     F n x (bitI .and .i64 (IntKind.wrap .i64 ((IntKind.wrap .i64 ((IntKind.wrap .i64 (s * (131 : Int))) + (IntKind.wrap .i64 ((x.getD i.toNat 0))))) + (7 : Int))) (1073741823 : Int)) (IntKind.wrap .i64 (i + (1 : Int))) else none else some (G x s) else some (G x s))
   (x : List Int) (hn : x.length ≤ 1048576) : ∀ s, ∃ s', F N x s 0 = some (G x s') := by
 have key : ∀ (k n : Nat) (s i : Int), 0 ≤ i → (x.length : Int) - i ≤ k → k < n → ∃ s', F n x s i = some (G x s') := by
   intro k
   induction k with
   | zero =>
     intro n s i h0 h1 hk
     obtain ⟨n, rfl⟩ := succ_fuel hk
     rw [hs, df (by omega)]
     exact ⟨_, rfl⟩
   | succ k ih =>
     intro n s i h0 h1 hk
     obtain ⟨n, rfl⟩ := succ_fuel hk
     rw [hs]
     by_cases h : i < (x.length : Int)
     · rw [dt h, dt h0, wz (i + 1) (by omega)]
       cases decide (i < 4000)
       · exact ⟨_, rfl⟩
       · exact ih n _ (i + 1) (by omega) (by omega) (by omega)
     · rw [df h]; exact ⟨_, rfl⟩
 intro s
 exact key x.length N s 0 (Int.le_refl _) (by omega) (Nat.lt_of_le_of_lt hn (Nat.lt_trans (by omega) big))
theorem draw_pick (x : List Int) (hn : x.length ≤ 1048576) (p s : Int) (hp : 0 ≤ p) (l : List Int) (hl : 0 < (l.length : Int)) : ∃ e p' s', f_spec_l1PickInt x p s l = some (e, p', s') ∧ e ∈ l ∧ 0 ≤ p' := by
 unfold f_spec_l1PickInt
 obtain ⟨r, p', s', e, q, r0, r1, -⟩ := draw_below x hn p s (l.length : Int) hp
 rw [e, Option.bind_some]
 have r2 := r1 hl
 have hlt : r.toNat < l.length := by omega
 simp only [dt r0, dt r2, Bool.and_self, cond_true]
 refine ⟨_, _, _, rfl, ?_, q⟩
 rw [List.getD_eq_getElem?_getD, List.getElem?_eq_getElem hlt]
 exact List.getElem_mem hlt
theorem draw_once (x : List Int) (hn : x.length ≤ 1048576) (p s n : Int) (hp : 0 ≤ p) : ∃ b p' s', f_spec_l1Once x p s n = some (b, p', s') ∧ 0 ≤ p' := by
 unfold f_spec_l1Once
 obtain ⟨r, p', s', e, q, -⟩ := draw_below x hn p s n hp
 rw [e]
 exact ⟨_, _, _, rfl, q⟩
theorem drawList_loop (x : List Int) (hn : x.length ≤ 1048576) : ∀ (k n : Nat) (i p s : Int) (y : List Int), 0 ≤ i → 4 - i = k → k < n → 0 ≤ p → (y.length : Int) = i →
   ∃ p' s' y', f_spec_l1DrawList.l0 n i x p s y = some (x, p', s', y') ∧ 0 ≤ p' ∧ y'.length = 4 := by
 intro k
 induction k with
 | zero =>
   intro n i p s y h0 hk hn' hp hy
   obtain ⟨n, rfl⟩ := succ_fuel hn'
   simp only [f_spec_l1DrawList.l0, df (show ¬ i < 4 by omega), cond_false]
   exact ⟨_, _, _, rfl, hp, by omega⟩
 | succ k ih =>
   intro n i p s y h0 hk hn' hp hy
   obtain ⟨n, rfl⟩ := succ_fuel hn'
   obtain ⟨v, p1, s1, e1, -, q1⟩ := draw_pick x hn p s hp ([0, 1, 5, 300, 65535] : List Int) (by simp)
   simp only [f_spec_l1DrawList.l0, dt (show i < 4 by omega), cond_true, e1, Option.bind_some, (blt_iff _ _).2 (show y.length + ([v] : List Int).length < 17592186044416 by simp; omega), wz (i + 1) (by omega)]
   exact ih n (i + 1) p1 s1 _ (by omega) (by omega) (by omega) q1 (by rw [List.length_append]; simp; omega)
theorem drawList (x : List Int) (hn : x.length ≤ 1048576) (p s : Int) (hp : 0 ≤ p) : ∃ y p' s', f_spec_l1DrawList x p s = some (y, p', s') ∧ 0 ≤ p' ∧ y.length = 4 := by
 unfold f_spec_l1DrawList
 obtain ⟨p2, s2, y, e2, q2, hy⟩ := drawList_loop x hn 4 N 0 p s [] (Int.le_refl _) rfl (Nat.lt_of_lt_of_le (by omega) (Nat.le_of_lt big)) hp rfl
 rw [e2]
 exact ⟨_, _, _, rfl, q2, hy⟩
theorem drawMsgRight (x : List Int) (hn : x.length ≤ 1048576) (p s : Int) (hp : 0 ≤ p) : ∃ a b c y p' s', f_spec_l1DrawRight x p s = some (a, b, c, y, p', s') ∧ 0 ≤ p' ∧ y.length ≤ 4 := by
 unfold f_spec_l1DrawRight
 obtain ⟨r, p1, s1, e1, q1, -⟩ := draw_below x hn p s 7 hp
 obtain ⟨r2, p2, s2, e2, q2, -⟩ := draw_below x hn p1 s1 6 q1
 obtain ⟨b, p3, s3, e3, q3⟩ := draw_once x hn p2 s2 2 q2
 obtain ⟨y4, p4, s4, e4, q4, hy4⟩ := drawList x hn p3 s3 q3
 obtain ⟨y5, p5, s5, e5, q5, hy5⟩ := drawList x hn p2 s2 q2
 rw [e1, Option.bind_some]
 simp only [e2, e3, e4, e5, Option.bind_some]
 cases decide (IntKind.wrap .i64 (1 + r) = 3) <;> cases decide (IntKind.wrap .i64 (1 + r) = 6) <;> cases decide (IntKind.wrap .i64 (1 + r) = 7) <;> simp only [cond_true, cond_false] <;>
   first | exact ⟨_, _, _, _, _, _, rfl, q4, by omega⟩ | exact ⟨_, _, _, _, _, _, rfl, q5, by omega⟩ | exact ⟨_, _, _, _, _, _, rfl, q3, by simp⟩ | exact ⟨_, _, _, _, _, _, rfl, q2, by simp⟩
theorem drawMsg (x : List Int) (hn : x.length ≤ 1048576) (p s : Int) (hp : 0 ≤ p) : ∃ a b c y p' s', f_spec_l1Draw x p s = some (a, b, c, y, p', s') ∧ 0 ≤ p' ∧ y.length ≤ 5 := by
 unfold f_spec_l1Draw
 obtain ⟨a, b, c, y, p1, s1, e1, q1, hy⟩ := drawMsgRight x hn p s hp
 obtain ⟨r2, p2, s2, e2, q2, -⟩ := draw_below x hn p1 s1 12 q1
 obtain ⟨r3, p3, s3, e3, q3, -⟩ := draw_below x hn p2 s2 9 q2
 obtain ⟨r4, p4, s4, e4, -, q4⟩ := draw_pick x hn p2 s2 q2 ([-1, 6] : List Int) (by simp)
 obtain ⟨r5, p5, s5, e5, -, q5⟩ := draw_pick x hn p2 s2 q2 ([-1, 3, 65536] : List Int) (by simp)
 rw [e1, Option.bind_some]
 simp only [e2, e3, e4, e5, Option.bind_some, List.length_singleton, (blt_iff _ _).2 (show y.length + 1 < 17592186044416 by omega), cond_true]
 cases decide (r2 = 0)
 · cases decide (r2 = 1)
   · cases decide (r2 = 2)
     · cases decide (r2 = 3)
       · exact ⟨_, _, _, _, _, _, rfl, q2, by omega⟩
       · exact ⟨_, _, _, _, _, _, rfl, q5, by rw [List.length_append, List.length_singleton]; omega⟩
     · exact ⟨_, _, _, _, _, _, rfl, q2, by omega⟩
   · exact ⟨_, _, _, _, _, _, rfl, q4, by omega⟩
 · exact ⟨_, _, _, _, _, _, rfl, q3, by omega⟩
theorem drawFrameRight (x : List Int) (hn : x.length ≤ 1048576) (p s : Int) (hp : 0 ≤ p) : ∃ a y b p' s', f_spec_l3DrawRight x p s = some (a, y, b, p', s') ∧ 0 ≤ p' ∧ y.length ≤ 4 := by
 unfold f_spec_l3DrawRight
 obtain ⟨r, p1, s1, e1, q1, -⟩ := draw_below x hn p s 3 hp
 obtain ⟨b, p2, s2, e2, q2⟩ := draw_once x hn p1 s1 3 q1
 obtain ⟨y, p3, s3, e3, q3, hy⟩ := drawList x hn p2 s2 q2
 rw [e1, Option.bind_some]
 simp only [e2, e3, Option.bind_some]
 cases decide (r = 0)
 · exact ⟨_, _, _, _, _, rfl, q3, by omega⟩
 · exact ⟨_, _, _, _, _, rfl, q2, by simp⟩
theorem drawFrame (x : List Int) (hn : x.length ≤ 1048576) (p s : Int) (hp : 0 ≤ p) : ∃ a y b p' s', f_spec_l3Draw x p s = some (a, y, b, p', s') ∧ 0 ≤ p' ∧ y.length ≤ 5 := by
 unfold f_spec_l3Draw
 obtain ⟨a, y, b, p1, s1, e1, q1, hy⟩ := drawFrameRight x hn p s hp
 obtain ⟨t, p2, s2, e2, q2, -⟩ := draw_below x hn p1 s1 12 q1
 obtain ⟨u, p3, s3, e3, q3, -⟩ := draw_below x hn p2 s2 5 q2
 rw [e1, Option.bind_some]
 simp only [e2, e3, Option.bind_some, (blt_iff _ _).2 (show y.length + ([3] : List Int).length < 17592186044416 by simp; omega), cond_true]
 cases decide (t = 0)
 · cases decide (t = 1)
   · cases decide (t = 2)
     · exact ⟨_, _, _, _, _, rfl, q2, by omega⟩
     · exact ⟨_, _, _, _, _, rfl, q2, by simp⟩
   · exact ⟨_, _, _, _, _, rfl, q2, by rw [List.length_append]; simp; omega⟩
 · exact ⟨_, _, _, _, _, rfl, q3, by omega⟩
abbrev H8 := List Int × Int × List Bool × Bool × Int × Bool × Int × List (Int × Bool)
def goodH (h : H8) : Prop := homeOkB h.1 h.2.1 h.2.2.1 h.2.2.2.2.1 h.2.2.2.2.2.2.1 h.2.2.2.2.2.2.2 3 = true ∧ SI h.2.1 h.2.2.1 h.2.2.2.1 h.2.2.2.2.1 h.2.2.2.2.2.1 h.2.2.2.2.2.2.1 ∧ HomeS h.1 h.2.2.1 h.2.2.2.2.2.2.2
theorem hear_good (h : H8) (g : goodH h) (src kind : Int) (ws : List Int) (hn : ws.length ≤ 1048576) : ∃ r : HR, f_spec_HomeHear h.1 h.2.1 h.2.2.1 h.2.2.2.1 h.2.2.2.2.1 h.2.2.2.2.2.1 h.2.2.2.2.2.2.1 h.2.2.2.2.2.2.2 3 0 src kind 0 false ws = some r ∧ goodH (r.1, r.2.1, r.2.2.1, r.2.2.2.1, r.2.2.2.2.1, r.2.2.2.2.2.1, r.2.2.2.2.2.2.1, r.2.2.2.2.2.2.2.1) := by
 obtain ⟨r, e, -, h1, h2, -⟩ := same_hear h.1 h.2.1 h.2.2.1 h.2.2.2.1 h.2.2.2.2.1 h.2.2.2.2.2.1 h.2.2.2.2.2.2.1 h.2.2.2.2.2.2.2 3 0 src kind 0 false ws g.2.2 hn
 obtain ⟨h3, h4⟩ := h1 g.1
 exact ⟨r, e, h3, h4 g.2.1, h2⟩
theorem draw4_loop (x : List Int) (hn : x.length ≤ 1048576) (m : Int) (hm : m ≤ 8) : ∀ (k n : Nat) (i p s : Int) (h : H8), 0 ≤ i → m - i ≤ k → k < n → 0 ≤ p → goodH h → ∃ (p' s' : Int) (h' : H8), 0 ≤ p' ∧ goodH h' ∧
   f_spec_l4DrawRight.l0 n m i x p s 0 false 0 false 0 h.2.1 h.2.2.2.1 h.2.2.2.2.1 h.2.2.2.2.2.1 h.2.2.2.2.2.2.1 [] [] [] h.1 h.2.2.1 h.2.2.2.2.2.2.2 = some (x, p', s', 0, false, 0, false, 0, h'.2.1, h'.2.2.2.1, h'.2.2.2.2.1, h'.2.2.2.2.2.1, h'.2.2.2.2.2.2.1, [], [], [], h'.1, h'.2.2.1, h'.2.2.2.2.2.2.2) := by
 intro k
 induction k with
 | zero =>
   intro n i p s h i0 hk hn' hp g
   obtain ⟨n, rfl⟩ := succ_fuel hn'
   refine ⟨p, s, h, hp, g, ?_⟩
   simp only [f_spec_l4DrawRight.l0, df (show ¬ i < m by omega), cond_false]
 | succ k ih =>
   intro n i p s h i0 hk hn' hp g
   obtain ⟨n, rfl⟩ := succ_fuel hn'
   by_cases him : i < m
   · obtain ⟨kd, p1, s1, e1, -, q1⟩ := draw_pick x hn p s hp ([1, 2, 2, 5, 7] : List Int) (by simp)
     obtain ⟨ws, p2, s2, e2, q2, hw⟩ := drawList x hn p1 s1 q1
     obtain ⟨f, p3, s3, e3, q3, -⟩ := draw_below x hn p2 s2 3 q2
     obtain ⟨f', p4, s4, e4, q4, -⟩ := draw_below x hn p1 s1 3 q1
     simp only [f_spec_l4DrawRight.l0, dt him, cond_true, e1, Option.bind_some, wz (i + 1) (by omega)]
     by_cases h7 : kd = 7
     · simp only [dt h7, cond_true, e2, e3, Option.bind_some]
       by_cases ho : 0 ≤ h.2.1
       · obtain ⟨r, er, gr⟩ := hear_good h g h.2.1 kd ws (by omega)
         simp only [dt ho, cond_true, er, Option.bind_some]
         exact ih n (i + 1) p3 s3 _ (by omega) (by omega) (by omega) q3 gr
       · obtain ⟨r, er, gr⟩ := hear_good h g f kd ws (by omega)
         simp only [df ho, cond_false, er, Option.bind_some]
         exact ih n (i + 1) p3 s3 _ (by omega) (by omega) (by omega) q3 gr
     · obtain ⟨r, er, gr⟩ := hear_good h g f' kd [] (by simp)
       simp only [df h7, cond_false, e4, er, Option.bind_some]
       exact ih n (i + 1) p4 s4 _ (by omega) (by omega) (by omega) q4 gr
   · refine ⟨p, s, h, hp, g, ?_⟩
     simp only [f_spec_l4DrawRight.l0, df him, cond_false]
theorem new_good : goodH (homeNew 3) := by
 refine ⟨by decide, ⟨fun h => absurd h (by decide), fun h => (by cases h), fun _ => rfl⟩, ⟨by decide, by decide, by decide⟩⟩
theorem draw4Right (x : List Int) (hn : x.length ≤ 1048576) (p s : Int) (hp : 0 ≤ p) : ∃ (h : H8) (p' s' : Int), f_spec_l4DrawRight x p s = some (h.1, h.2.1, h.2.2.1, h.2.2.2.1, h.2.2.2.2.1, h.2.2.2.2.2.1, h.2.2.2.2.2.2.1, h.2.2.2.2.2.2.2, p', s') ∧ 0 ≤ p' ∧ goodH h := by
 unfold f_spec_l4DrawRight
 obtain ⟨m, p1, s1, e1, q1, m0, m1, -⟩ := draw_below x hn p s 8 hp
 obtain ⟨p2, s2, h, q2, g, e2⟩ := draw4_loop x hn m (by have := m1 (by omega); omega) 8 N 0 p1 s1 (homeNew 3) (by omega) (by have := m1 (by omega); omega) (Nat.lt_trans (by omega) big) q1 new_good
 simp only [specHomeNew 3 (by omega) (by omega), e1, Option.bind_some, e2]
 exact ⟨h, _, _, rfl, q2, g⟩
theorem draw4_fill (x : List Int) (hn : x.length ≤ 1048576) (own : Int) (busy : Bool) (who : Int) (ex : Bool) (need : Int) (w : List Int) (seen : List Bool) : ∀ (k n : Nat) (p s : Int) (wait : List (Int × Bool)), 14 ≤ wait.length + k → k < n → 0 ≤ p → wait.length ≤ 1000 → ∃ (p' s' : Int) (wait' : List (Int × Bool)), 0 ≤ p' ∧ wait'.length ≤ 2000 ∧
   f_spec_l4Draw.l0 n x p s 0 false 0 false 0 own busy who ex need [] [] [] w seen wait = some (x, p', s', 0, false, 0, false, 0, own, busy, who, ex, need, [], [], [], w, seen, wait') := by
 intro k
 induction k with
 | zero =>
   intro n p s wait hk hn' hp hl
   obtain ⟨n, rfl⟩ := succ_fuel hn'
   obtain ⟨b, p1, s1, e1, q1, b0, b1, -⟩ := draw_below x hn p s 2 hp
   have b2 := b1 (by omega)
   simp only [f_spec_l4Draw.l0, e1, Option.bind_some, wz (12 + b) (by omega), df (show ¬ (wait.length : Int) < 12 + b by omega), cond_false]
   exact ⟨_, _, _, q1, by omega, rfl⟩
 | succ k ih =>
   intro n p s wait hk hn' hp hl
   obtain ⟨n, rfl⟩ := succ_fuel hn'
   obtain ⟨b, p1, s1, e1, q1, b0, b1, -⟩ := draw_below x hn p s 2 hp
   have b2 := b1 (by omega)
   simp only [f_spec_l4Draw.l0, e1, Option.bind_some, wz (12 + b) (by omega)]
   by_cases hb : (wait.length : Int) < 12 + b
   · simp only [dt hb, cond_true, List.length_singleton, (blt_iff _ _).2 (show wait.length + 1 < 8796093022208 by omega), Option.bind_some]
     exact ih n p1 s1 _ (by rw [List.length_append, List.length_singleton]; omega) (by omega) q1 (by rw [List.length_append, List.length_singleton]; omega)
   · simp only [df hb, cond_false]
     exact ⟨_, _, _, q1, by omega, rfl⟩
def nearH (h : H8) : Prop := NB h.2.1 h.2.2.1 h.2.2.2.1 h.2.2.2.2.2.1 h.2.2.2.2.2.2.1 ∧ HomeS h.1 h.2.2.1 h.2.2.2.2.2.2.2
theorem draw4 (x : List Int) (hn : x.length ≤ 1048576) (p s : Int) (hp : 0 ≤ p) : ∃ (h : H8) (p' s' : Int), f_spec_l4Draw x p s = some (h.1, h.2.1, h.2.2.1, h.2.2.2.1, h.2.2.2.2.1, h.2.2.2.2.2.1, h.2.2.2.2.2.2.1, h.2.2.2.2.2.2.2, p', s') ∧ 0 ≤ p' ∧ nearH h := by
 unfold f_spec_l4Draw
 obtain ⟨h, p1, s1, e1, q1, g1, g2, g3⟩ := draw4Right x hn p s hp
 obtain ⟨a, p2, s2, e2, q2, -⟩ := draw_below x hn p1 s1 15 q1
 obtain ⟨v0, p3, s3, e3, -, q3⟩ := draw_pick x hn p2 s2 q2 ([-2, -1, 2, 3] : List Int) (by simp)
 obtain ⟨v1, p4, s4, e4, -, q4⟩ := draw_pick x hn p2 s2 q2 ([-1, 0, 1, 4] : List Int) (by simp)
 obtain ⟨v3, p5, s5, e5, q5, -⟩ := draw_below x hn p2 s2 5 q2
 have hk := HK_of g1 0 (by omega) (by omega)
 have hsl := hk.sl
 have hql := hk.ql
 have ho1 := hk.o1
 obtain ⟨p6, s6, wt, q6, l6, e6⟩ := draw4_fill x hn h.2.1 h.2.2.2.1 h.2.2.2.2.1 h.2.2.2.2.2.1 h.2.2.2.2.2.2.1 h.1 h.2.2.1 14 N p2 s2 h.2.2.2.2.2.2.2 (by omega) (Nat.lt_trans (by omega) big) q2 (by omega)
 rw [e1, Option.bind_some]
 simp only [e2, e3, e4, e5, e6, Option.bind_some, List.length_singleton, (blt_iff _ _).2 (show h.2.2.1.length + 1 < 140737488355328 by omega), (blt_iff _ _).2 (show h.2.2.2.2.2.2.2.length + 1 < 8796093022208 by omega), cond_true]
 have near : ∀ (b : Bool) (e : Bool) (m : Int), NB h.2.1 h.2.2.1 b e m := fun b e m _ _ _ ho => g2.a ho _
 cases decide (a = 0) with
 | true =>
   refine ⟨(h.1, v0, h.2.2.1, h.2.2.2.1, h.2.2.2.2.1, h.2.2.2.2.2.1, h.2.2.2.2.2.2.1, h.2.2.2.2.2.2.2), _, _, rfl, q3, fun hb hz hx hv => ?_, g3⟩
   rcases g2.b hb with ⟨h0, _⟩ | ⟨_, h0, _⟩
   · exact g2.a h0 _
   · have hz : h.2.2.2.2.2.2.1 = 0 := hz
     omega
 | false =>
   cases decide (a = 1) with
   | true => exact ⟨(h.1, h.2.1, h.2.2.1, h.2.2.2.1, h.2.2.2.2.1, h.2.2.2.2.2.1, v1, h.2.2.2.2.2.2.2), _, _, rfl, q4, near _ _ _, g3⟩
   | false =>
     cases decide (a = 2) with
     | true =>
       refine ⟨(h.1, h.2.1, h.2.2.1 ++ [true], h.2.2.2.1, h.2.2.2.2.1, h.2.2.2.2.2.1, h.2.2.2.2.2.2.1, h.2.2.2.2.2.2.2), _, _, rfl, q2, fun hb hz hx ho => ?_, ⟨g3.g0, by show (h.2.2.1 ++ [true]).length ≤ _; simp; omega, g3.g7⟩⟩
       have ho : 0 ≤ h.2.1 := ho
       show (h.2.2.1 ++ [true]).getD h.2.1.toNat false = false
       rw [List.getD_eq_getElem?_getD, List.getElem?_append_left (by omega), ← List.getD_eq_getElem?_getD]
       exact g2.a ho _
     | false =>
       cases decide (a = 3) with
       | true => exact ⟨(h.1, h.2.1, h.2.2.1, h.2.2.2.1, h.2.2.2.2.1, h.2.2.2.2.2.1, h.2.2.2.2.2.2.1, h.2.2.2.2.2.2.2 ++ [(v3, false)]), _, _, rfl, q5, near _ _ _, ⟨g3.g0, g3.g2, by show (h.2.2.2.2.2.2.2 ++ [(v3, false)]).length ≤ _; simp; omega⟩⟩
       | false =>
         cases decide (a = 4) with
         | true => exact ⟨(h.1, h.2.1, h.2.2.1, !h.2.2.2.1, h.2.2.2.2.1, h.2.2.2.2.2.1, h.2.2.2.2.2.2.1, h.2.2.2.2.2.2.2), _, _, rfl, q2, near _ _ _, g3⟩
         | false =>
           cases decide (a = 5) with
           | true => exact ⟨(h.1, h.2.1, h.2.2.1, h.2.2.2.1, h.2.2.2.2.1, h.2.2.2.2.2.1, h.2.2.2.2.2.2.1, wt), _, _, rfl, q6, near _ _ _, ⟨g3.g0, g3.g2, by show wt.length ≤ _; omega⟩⟩
           | false => exact ⟨h, _, _, rfl, q2, near _ _ _, g3⟩
def ackedB (a : Int) (x : List MsgL) (b : Bool) (n : Int) : Int × List MsgL := if b = true ∧ a < n ∧ n ≤ a + (x.length : Int) then (n, x.drop (n - a).toNat) else (a, x)
theorem take_drop_all {α : Type} (x : List α) (k : Int) (h : 0 ≤ k) : (x.drop k.toNat).take ((x.length : Int) - k).toNat = x.drop k.toNat := by
 rw [List.take_of_length_le]
 rw [List.length_drop]
 omega
theorem specAcked (a : Int) (x : List MsgL) (n : Int) (hn : x.length ≤ 1048576) (he : ∀ e ∈ x, e.2.2.2.length ≤ 1048576) (b : Bool) (h1 : f_spec_SenderOk a x = some b) : f_spec_Acked a x n = some (ackedB a x b n) := by
 unfold f_spec_Acked
 simp only [specSenderCopy a x hn he, h1, Option.bind_some]
 unfold ackedB
 cases b with
 | false => rw [if_neg (fun h => by cases h.1)]; rfl
 | true =>
   obtain ⟨f0, f1, f2, f3, -⟩ := senderOk_facts a x hn he h1
   simp only [Bool.not_true, cond_false, wz (a + (x.length : Int)) (by omega)]
   by_cases g1 : n ≤ a
   · rw [dt g1, if_neg (fun h => by omega)]; rfl
   · rw [df g1, cond_false]
     by_cases g2 : a + (x.length : Int) < n
     · rw [dt g2, if_neg (fun h => by omega)]; rfl
     · rw [df g2, if_pos ⟨trivial, by omega, by omega⟩, wz (n - a) (by omega), dt (show 0 ≤ n - a by omega), dt (show n - a ≤ (x.length : Int) by omega), take_drop_all x (n - a) (by omega)]
       simp only [List.length_nil, Nat.zero_add, cond_false, cond_true, Bool.and_self, List.nil_append, (blt_iff _ _).2 (show (x.drop (n - a).toNat).length < 2932031007402 by rw [List.length_drop]; omega)]
theorem implAcked (a : Int) (x : List MsgL) (n : Int) (hn : x.length ≤ 1048576) (he : ∀ e ∈ x, e.2.2.2.length ≤ 1048576) (b : Bool) (h1 : f_spec_SenderOk a x = some b) (h2 : f_impl_SenderOk a x = some b) : f_impl_Acked a x n = some (ackedB a x b n) := by
 unfold f_impl_Acked
 simp only [implSenderCopy a x hn he, h2, Option.bind_some]
 unfold ackedB
 cases b with
 | false => rw [if_neg (fun h => by cases h.1)]; rfl
 | true =>
   obtain ⟨f0, f1, f2, f3, -⟩ := senderOk_facts a x hn he h1
   simp only [Bool.not_true, cond_false, wz (a + (x.length : Int)) (by omega), from_rg, Option.bind_some]
   unfold rg
   by_cases g1 : a ≤ n
   · by_cases g2 : n ≤ a + (x.length : Int)
     · rw [dt g1, dt g2, wz (n - a) (by omega), dt (show 0 ≤ n - a by omega), dt (show n - a ≤ (x.length : Int) by omega), take_drop_all x (n - a) (by omega)]
       by_cases g3 : a < n
       · rw [if_pos ⟨trivial, g3, g2⟩]; rfl
       · have : n = a := by omega
         subst this
         rw [if_neg (fun h => by omega)]
         simp
     · rw [df g2, Bool.and_false, if_neg (fun h => g2 h.2.2)]; rfl
   · rw [df g1, Bool.false_and, if_neg (fun h => by omega)]; rfl
def arrB (a q : Int) : Int × Bool := if q = a ∧ 0 ≤ a ∧ a ≤ 99999 then (a + 1, true) else (a, false)
theorem specArrived (a q : Int) : f_spec_Arrived a q = some (arrB a q) := by
 unfold f_spec_Arrived arrB
 simp only [in_rg, Option.bind_some]
 unfold rg
 by_cases h : q = a
 · rw [dt h]
   by_cases h0 : 0 ≤ a
   · by_cases h1 : a ≤ 99999
     · rw [dt h0, dt h1, if_pos ⟨h, h0, h1⟩, w64 (by omega) (by omega)]; rfl
     · rw [df h1, Bool.and_false, if_neg (fun h => h1 h.2.2)]; rfl
   · rw [df h0, if_neg (fun h => h0 h.2.1)]; rfl
 · rw [df h, if_neg (fun h' => h h'.1)]; rfl
theorem implArrived (a q : Int) : f_impl_Arrived a q = some (arrB a q) := by
 unfold f_impl_Arrived arrB
 simp only [from_rg, Option.bind_some]
 unfold rg
 by_cases h : q = a
 · rw [dt h]
   by_cases h0 : 0 ≤ a
   · by_cases h1 : a ≤ 99999
     · rw [dt h0, dt h1, if_pos ⟨h, h0, h1⟩, w64 (by omega) (by omega)]; rfl
     · rw [df h1, Bool.and_false, if_neg (fun h => h1 h.2.2)]; rfl
   · rw [df h0, if_neg (fun h => h0 h.2.1)]; rfl
 · rw [df h, if_neg (fun h' => h h'.1)]; rfl
theorem sameInts_loop (x : List Int) (hn : x.length ≤ 1048576) (b : Bool) (d : Nat) : ∀ (n : Nat) (i : Int), 0 ≤ i → i ≤ x.length → (x.length : Int) - i = d → d < n → f_laws_sameInts.l0 n x x b i = some (.inr b) := by
 induction d with
 | zero =>
   intro n i h0 h1 hd hk
   obtain ⟨n, rfl⟩ := succ_fuel hk
   simp only [f_laws_sameInts.l0]
   rw [df (by omega), cond_false]
 | succ d ih =>
   intro n i h0 h1 hd hk
   obtain ⟨n, rfl⟩ := succ_fuel hk
   have hw : IntKind.wrap .i64 (i + 1) = i + 1 := w64 (by omega) (by omega)
   simp only [f_laws_sameInts.l0]
   rw [dt (show i < (x.length : Int) by omega), dt h0, hw]
   simp only [cond_true, Bool.and_self, decide_true, Bool.not_true, cond_false]
   exact ih n (i + 1) (by omega) (by omega) (by omega) (by omega)
theorem sameInts (x : List Int) (hn : x.length ≤ 1048576) : f_laws_sameInts x x = some true := by
 unfold f_laws_sameInts
 simp only [decide_true, Bool.not_true, cond_false]
 rw [sameInts_loop x hn false x.length N 0 (by omega) (by omega) (by omega) (Nat.lt_of_le_of_lt (by omega) big)]
 rfl
theorem ix_loop {β : Type} {F : Nat → Int → Option (Bool ⊕ β)} {q : Int → Bool} {b : β} (m : Nat) (hm : m ≤ 1048576) (h0 : ∀ n, F (n + 1) (m : Int) = some (.inr b))
   (h1 : ∀ n (i : Int), 0 ≤ i → i < (m : Int) → F (n + 1) i = bif q i then F n (i + 1) else some (.inl false)) : F N 0 = some (bif (List.range m).all (fun j => q (j : Int)) then .inr b else .inl false) := by
 have step : ∀ (k n j : Nat), j + k = m → k < n → F n (j : Int) = some (bif (List.range' j k).all (fun j => q (j : Int)) then .inr b else .inl false) := by
   intro k
   induction k with
   | zero =>
     intro n j hj hn
     obtain ⟨n, rfl⟩ := succ_fuel hn
     obtain rfl : j = m := by omega
     rw [h0]; rfl
   | succ k ih =>
     intro n j hj hn
     obtain ⟨n, rfl⟩ := succ_fuel hn
     rw [h1 n j (by omega) (by omega), List.range'_succ, List.all_cons]
     cases q (j : Int) with
     | false => rfl
     | true =>
       rw [cond_true, Bool.true_and, show ((j : Int) + 1) = ((j + 1 : Nat) : Int) by omega]
       exact ih n (j + 1) (by omega) (by omega)
 have := step m N 0 (by omega) (Nat.lt_of_le_of_lt hm (Nat.lt_trans (by omega) big))
 rw [← List.range_eq_range'] at this
 exact this
theorem all_true (n : Nat) : ((List.range n).all fun _ => true) = true := by simp
theorem sameHome_self (r : H8) (h : HomeS r.1 r.2.2.1 r.2.2.2.2.2.2.2) : f_laws_sameHome r.1 r.2.1 r.2.2.1 r.2.2.2.1 r.2.2.2.2.1 r.2.2.2.2.2.1 r.2.2.2.2.2.2.1 r.2.2.2.2.2.2.2 r.1 r.2.1 r.2.2.1 r.2.2.2.1 r.2.2.2.2.1 r.2.2.2.2.2.1 r.2.2.2.2.2.2.1 r.2.2.2.2.2.2.2 = some true := by
 obtain ⟨x0, x1, x2, x3, x4, x5, x6, x7⟩ := r
 have g0 : x0.length ≤ 1048576 := h.g0
 have g2 : x2.length ≤ 1048576 := h.g2
 have g7 : x7.length ≤ 1048576 := h.g7
 have l0 := ix_loop (F := fun n i => f_laws_sameHome.l0 n false i x0 x1 x2 x3 x4 x5 x6 x7 x0 x1 x2 x3 x4 x5 x6 x7) (q := fun _ => true) (b := (false, x0, x1, x2, x3, x4, x5, x6, x7, x0, x1, x2, x3, x4, x5, x6, x7)) x2.length g2
   (fun n => by simp only [f_laws_sameHome.l0, df (show ¬ (x2.length : Int) < (x2.length : Int) by omega), cond_false])
   (fun n i a0 a1 => by simp only [f_laws_sameHome.l0, dt a0, dt a1, cond_true, Bool.and_self, beq_self_eq_true, Bool.not_true, cond_false, wz (i + 1) (by omega)])
 have l1 := ix_loop (F := fun n i => f_laws_sameHome.l1 n false i x0 x1 x2 x3 x4 x5 x6 x7 x0 x1 x2 x3 x4 x5 x6 x7) (q := fun _ => true) (b := false) x7.length g7
   (fun n => by simp only [f_laws_sameHome.l1, df (show ¬ (x7.length : Int) < (x7.length : Int) by omega), cond_false])
   (fun n i a0 a1 => by simp only [f_laws_sameHome.l1, dt a0, dt a1, cond_true, Bool.and_self, beq_self_eq_true, decide_true, Bool.not_true, cond_false, wz (i + 1) (by omega)])
 rw [all_true, cond_true] at l0 l1
 unfold f_laws_sameHome
 simp only [decide_true, beq_self_eq_true, Bool.and_self, Bool.not_true, cond_false, sameInts x0 g0, Option.bind_some, l0, l1, cs]
/-- What is told goes to the queues of those who are told. -/
noncomputable def qAt (s : List SenderT) (e : ToldT) : Int × List MsgL × Bool := queueB (s.getD e.1.toNat (0, [])).1 (s.getD e.1.toNat (0, [])).2 (tS (s.getD e.1.toNat (0, []))) e.2 true
noncomputable def tellL : List ToldT → List SenderT → List SenderT × Bool
 | [], s => (s, true)
 | e :: t, s => bif (qAt s e).2.2 then tellL t (s.set e.1.toNat ((qAt s e).1, (qAt s e).2.1)) else (s, false)
def gS (c : SenderT) : Prop := okSender c ∧ tS c = true
theorem tS_of (a : Int) (x : List MsgL) (hn : (x.length : Int) ≤ 30) (he : ∀ e ∈ x, e.2.2.2.length ≤ 1048576) (h0 : 0 ≤ a) (h1 : a + (x.length : Int) ≤ 100000) (hall : x.all tM = true) : tS (a, x) = true := by
 unfold tS f_spec_SenderOk
 rw [senderS_loop x (by omega) he false a x.length N 0 (by omega) (by omega) (by omega) (lt_N (by omega))]
 have e : rg a 0 100000 = true := by unfold rg; rw [dt h0, dt (show a ≤ 100000 by omega)]; rfl
 simp only [Int.toNat_zero, List.drop_zero, in_rg, Option.bind_some, hall, cond_true, cs, e, dt hn, wz (a + (x.length : Int)) (by omega), dt h1]
 rfl
theorem qAt_eq (s : List SenderT) (e : ToldT) (k : Int) (he : okT k e) (hl : (s.length : Int) = k) (hs : ∀ c ∈ s, gS c) :
   f_spec_Queue (s.getD e.1.toNat (0, [])).1 (s.getD e.1.toNat (0, [])).2 e.2.1 e.2.2.1 e.2.2.2.1 e.2.2.2.2 = some (qAt s e) ∧ f_impl_Queue (s.getD e.1.toNat (0, [])).1 (s.getD e.1.toNat (0, [])).2 e.2.1 e.2.2.1 e.2.2.2.1 e.2.2.2.2 = some (qAt s e) ∧ gS ((qAt s e).1, (qAt s e).2.1) := by
 obtain ⟨a0, a1, a2, a3⟩ := he
 obtain ⟨g1, g2⟩ := hs _ (mem_getD s (0, []) e.1 a0 (by omega))
 have hm : e.2.2.2.2.length ≤ 1048576 := by omega
 obtain ⟨b, ok, h1, -, h3, -, h5, h6⟩ := same_queue (s.getD e.1.toNat (0, [])).1 (s.getD e.1.toNat (0, [])).2 e.2.1 e.2.2.1 e.2.2.2.1 e.2.2.2.2 g1.1 g1.2 hm
 rw [a3] at h3
 rw [(tS_eq _ g1).1] at h1
 obtain rfl := Option.some.inj h1
 obtain rfl := Option.some.inj h3
 refine ⟨h5, h6, ?_⟩
 obtain ⟨f0, f1, f2, f3, f4⟩ := senderOk_facts _ _ g1.1 g1.2 (by rw [(tS_eq _ g1).1, g2])
 unfold qAt queueB
 split
 · rename_i hq
   obtain ⟨-, -, q1, q2⟩ := hq
   have he : ∀ f ∈ (s.getD e.1.toNat (0, [])).2 ++ [e.2], f.2.2.2.length ≤ 1048576 := fun f hf => by
     rcases List.mem_append.1 hf with hf | hf
     · exact g1.2 f hf
     · rw [List.mem_singleton.1 hf]; exact hm
   refine ⟨⟨by simp only [List.length_append, List.length_singleton]; omega, he⟩, tS_of _ _ (by simp only [List.length_append, List.length_singleton]; omega) he f0 (by simp only [List.length_append, List.length_singleton]; omega) ?_⟩
   rw [List.all_append, f4]
   simp only [List.all_cons, List.all_nil, Bool.and_true, Bool.true_and]
   unfold tM
   rw [a3]
   rfl
 · exact ⟨g1, g2⟩
theorem tell_eq (x0 : Int) (x1 : List FrameT) (x2 : List HomeT) (x4 : List Int) (k : Int) (t : List ToldT) (ht : t.length ≤ 1048576) (hk : ∀ e ∈ t, okT k e) : ∀ (r n : Nat) (i : Int) (s : List SenderT), 0 ≤ i → i ≤ t.length → (t.length : Int) - i = r → r < n → (s.length : Int) = k → (∀ c ∈ s, gS c) →
   ((tellL (t.drop i.toNat) s).1.length : Int) = k ∧ (∀ c ∈ (tellL (t.drop i.toNat) s).1, gS c) ∧
   f_spec_l5Told.l0 n t false i x0 0 x1 x2 s x4 [] [] [] [] = some (bif (tellL (t.drop i.toNat) s).2 then .inr (false, x0, 0, x1, x2, (tellL (t.drop i.toNat) s).1, x4, [], [], [], []) else .inl (false, x0, x1, x2, (tellL (t.drop i.toNat) s).1, x4)) ∧
   f_impl_Node_toHome.l0 n false (t.length : Int) i x0 t x1 x2 s x4 = some (bif (tellL (t.drop i.toNat) s).2 then .inr (false, x0, x1, x2, (tellL (t.drop i.toNat) s).1, x4) else .inl (false, x0, x1, x2, (tellL (t.drop i.toNat) s).1, x4)) := by
 intro r
 induction r with
 | zero =>
   intro n i s a0 a1 hd hn hl hs
   obtain ⟨n, rfl⟩ := succ_fuel hn
   rw [List.drop_eq_nil_of_le (by omega)]
   simp only [f_spec_l5Told.l0, f_impl_Node_toHome.l0, df (show ¬ i < (t.length : Int) by omega), cond_false, tellL, cond_true]
   exact ⟨hl, hs, trivial, trivial⟩
 | succ r ih =>
   intro n i s a0 a1 hd hn hl hs
   obtain ⟨n, rfl⟩ := succ_fuel hn
   have ok := hk _ (mem_getD t (0, 0, 0, false, []) i a0 (by omega))
   rw [drop_getD t (0, 0, 0, false, []) i a0 (by omega)]
   obtain ⟨q1, q2, q3⟩ := qAt_eq s _ k ok hl hs
   obtain ⟨o0, o1, -, -⟩ := ok
   simp only [f_spec_l5Told.l0, f_impl_Node_toHome.l0, dt (show i < (t.length : Int) by omega), dt a0, dt o0, dt (show (t.getD i.toNat (0, 0, 0, false, [])).1 < (s.length : Int) by omega), cond_true, Bool.and_self, q1, q2, Option.bind_some, tellL, wz (i + 1) (by omega)]
   cases (qAt s (t.getD i.toNat (0, 0, 0, false, []))).2.2 with
   | false => exact ⟨hl, hs, rfl, rfl⟩
   | true =>
     simp only [Bool.not_true, cond_false, cond_true]
     exact ih n (i + 1) _ (by omega) (by omega) (by omega) (by omega) (by rw [List.length_set]; exact hl) (fun c hc => by
       rcases mem_set hc with rfl | hc
       · exact q3
       · exact hs c hc)
theorem told_eq (x0 : Int) (x1 : List FrameT) (x2 : List HomeT) (x4 : List Int) (k : Int) (t : List ToldT) (ht : t.length ≤ 1048576) (hk : ∀ e ∈ t, okT k e) (s : List SenderT) (hl : (s.length : Int) = k) (hs : ∀ c ∈ s, gS c) :
   ((tellL t s).1.length : Int) = k ∧ (∀ c ∈ (tellL t s).1, gS c) ∧ f_spec_l5Told x0 x1 x2 s x4 t = some (x0, x1, x2, (tellL t s).1, x4, (tellL t s).2) ∧
   f_impl_Node_toHome.l0 N false (t.length : Int) 0 x0 t x1 x2 s x4 = some (bif (tellL t s).2 then .inr (false, x0, x1, x2, (tellL t s).1, x4) else .inl (false, x0, x1, x2, (tellL t s).1, x4)) := by
 obtain ⟨h1, h2, h3, h4⟩ := tell_eq x0 x1 x2 x4 k t ht hk t.length N 0 s (by omega) (by omega) (by omega) (lt_N ht) hl hs
 rw [Int.toNat_zero, List.drop_zero] at h1 h2 h3 h4
 refine ⟨h1, h2, ?_, h4⟩
 unfold f_spec_l5Told
 rw [h3]
 cases (tellL t s).2 <;> rfl
abbrev NR := Int × List FrameT × List HomeT × List SenderT × List Int × Bool
def nbH (e : HomeT) : Prop := NB e.2.1 e.2.2.1 e.2.2.2.1 e.2.2.2.2.2.1 e.2.2.2.2.2.2.1
def siH (e : HomeT) : Prop := SI e.2.1 e.2.2.1 e.2.2.2.1 e.2.2.2.2.1 e.2.2.2.2.2.1 e.2.2.2.2.2.2.1
theorem si_nb {e : HomeT} (h : siH e) : nbH e := fun _ _ _ ho => h.a ho _
/-- What comes of a node that hears. -/
def HearN (x0 : Int) (x1 : List FrameT) (x2 : List HomeT) (x3 : List SenderT) (x4 : List Int) (k : Int) (f g : Option NR) : Prop :=
 ∃ r : NR, f = some r ∧ ((∀ e ∈ x2, nbH e) → g = some r) ∧ NodeK r.2.1 r.2.2.1 r.2.2.2.1 r.2.2.2.2.1 ∧
   (r.2.2.2.2.2 = true → nodeOkB x0 x1 x2 x3 x4 k = true ∧ NodeFacts (r.1, r.2.1, r.2.2.1, r.2.2.2.1, r.2.2.2.2.1) k x0 ∧ r.2.2.2.2.1 = x4 ∧ ((∀ e ∈ x2, siH e) → ∀ e ∈ r.2.2.1, siH e)) ∧ (r.2.2.2.2.2 = false → r = (x0, x1, x2, x3, x4, false))
theorem hearN_same {x0 : Int} {x1 : List FrameT} {x2 : List HomeT} {x3 : List SenderT} {x4 : List Int} {k : Int} (h : NodeK x1 x2 x3 x4) {f g : Option NR} (hf : f = some (x0, x1, x2, x3, x4, false)) (hg : (∀ e ∈ x2, nbH e) → g = some (x0, x1, x2, x3, x4, false)) : HearN x0 x1 x2 x3 x4 k f g :=
 ⟨_, hf, hg, h, fun h => (by cases h), fun _ => rfl⟩
/-- A node of which the frames, the homes and the queues are right. -/
theorem hearN_new {x0 : Int} {x1 : List FrameT} {x2 : List HomeT} {x3 : List SenderT} {x4 : List Int} {k : Int} (hn : nodeOkB x0 x1 x2 x3 x4 k = true) (h : NodeK x1 x2 x3 x4) (y1 : List FrameT) (y2 : List HomeT) (y3 : List SenderT) (b1 : y1.length = x1.length) (b2 : y2.length = x2.length) (b3 : (y3.length : Int) = k)
   (c1 : ∀ e ∈ y1, okFrame e ∧ tF e = true) (c2 : ∀ e ∈ y2, okHome e ∧ tH k e = true) (c3 : ∀ e ∈ y3, gS e) (c4 : (∀ e ∈ x2, siH e) → ∀ e ∈ y2, siH e) {f g : Option NR} (hf : f = some (x0, y1, y2, y3, x4, true)) (hg : (∀ e ∈ x2, nbH e) → g = some (x0, y1, y2, y3, x4, true)) : HearN x0 x1 x2 x3 x4 k f g := by
 obtain ⟨k0, -, q⟩ := nodeFacts _ _ _ _ _ _ hn
 have l1 : x1.length = 6 := q.l1
 have l2 : x2.length = 6 := q.l2
 exact ⟨_, hf, hg, ⟨by show y1.length ≤ _; omega, by show y2.length ≤ _; omega, by show y3.length ≤ _; omega, h.l4, fun e he => (c1 e he).1, fun e he => (c2 e he).1, fun e he => (c3 e he).1⟩, fun _ => ⟨hn, ⟨rfl, by show y1.length = 6; omega, by show y2.length = 6; omega, b3, q.l4, fun e he => (c1 e he).2, fun e he => (c2 e he).2, fun e he => (c3 e he).2, q.r⟩, rfl, c4⟩, fun h => by cases h⟩
noncomputable def specHomeB (x0 : Int) (x1 : List FrameT) (x2 : List HomeT) (x3 : List SenderT) (x4 : List Int) (x5 x6 x7 x8 : Int) (x9 : Bool) (x10 : List Int) : Option NR :=
 bif ((decide ((0 : Int) ≤ x8)) && (decide (x8 < (x2.length : Int)))) then
 (f_spec_HomeHear ((x2.getD x8.toNat ([], 0, [], false, 0, false, 0, [])).1) ((x2.getD x8.toNat ([], 0, [], false, 0, false, 0, [])).2.1) ((x2.getD x8.toNat ([], 0, [], false, 0, false, 0, [])).2.2.1) ((x2.getD x8.toNat ([], 0, [], false, 0, false, 0, [])).2.2.2.1) ((x2.getD x8.toNat ([], 0, [], false, 0, false, 0, [])).2.2.2.2.1) ((x2.getD x8.toNat ([], 0, [], false, 0, false, 0, [])).2.2.2.2.2.1) ((x2.getD x8.toNat ([], 0, [], false, 0, false, 0, [])).2.2.2.2.2.2.1) ((x2.getD x8.toNat ([], 0, [], false, 0, false, 0, [])).2.2.2.2.2.2.2) x5 x8 x6 x7 x8 x9 x10).bind fun y392 =>
 bif ((decide ((0 : Int) ≤ x8)) && (decide (x8 < (x2.length : Int)))) then
 (some ((x2.set x8.toNat (y392.1, y392.2.1, y392.2.2.1, y392.2.2.2.1, y392.2.2.2.2.1, y392.2.2.2.2.2.1, y392.2.2.2.2.2.2.1, y392.2.2.2.2.2.2.2.1)) : List HomeT)).bind fun z393 =>
 (f_spec_l5Told x0 x1 z393 x3 x4 y392.2.2.2.2.2.2.2.2).bind fun y394 =>
 bif (!y394.2.2.2.2.2) then
   some (x0, x1, x2, x3, x4, false)
 else
   some (y394.1, y394.2.1, y394.2.2.1, y394.2.2.2.1, y394.2.2.2.2.1, true)
 else none
 else none
noncomputable def implHomeB (x0 : Int) (x1 : List FrameT) (x2 : List HomeT) (x3 : List SenderT) (x4 : List Int) (x5 x6 x7 x8 : Int) (x9 : Bool) (x10 : List Int) : Option NR :=
 (f_impl_Node_toHome x0 x1 x2 x3 x4 x5 x6 x7 x8 x9 x10).bind fun y1510 =>
 bif (!y1510.1) then
   some (x0, x1, x2, x3, x4, false)
 else
   some (y1510.2.1, y1510.2.2.1, y1510.2.2.2.1, y1510.2.2.2.2.1, y1510.2.2.2.2.2, true)
theorem same_nodeHome {x0 : Int} {x1 : List FrameT} {x2 : List HomeT} {x3 : List SenderT} {x4 : List Int} {k : Int} (hn : nodeOkB x0 x1 x2 x3 x4 k = true) (h : NodeK x1 x2 x3 x4) (src kind pg : Int) (c : Bool) (ws : List Int) (hw : ws.length ≤ 1048576) (p0 : 0 ≤ pg) (p1 : pg ≤ 5) :
   HearN x0 x1 x2 x3 x4 k (specHomeB x0 x1 x2 x3 x4 k src kind pg c ws) (implHomeB x0 x1 x2 x3 x4 k src kind pg c ws) := by
 obtain ⟨k0, -, q⟩ := nodeFacts _ _ _ _ _ _ hn
 have l2 : x2.length = 6 := q.l2
 have hm := mem_getD x2 ([], 0, [], false, 0, false, 0, []) pg p0 (by omega)
 have hh : okHome (x2.getD pg.toNat ([], 0, [], false, 0, false, 0, [])) := h.e2 _ hm
 have ht : tH k (x2.getD pg.toNat ([], 0, [], false, 0, false, 0, [])) = true := q.h _ hm
 obtain ⟨r, s1, s2, s3, s4, s5, s6, s7⟩ := same_hear _ (x2.getD pg.toNat ([], 0, [], false, 0, false, 0, [])).2.1 _ (x2.getD pg.toNat ([], 0, [], false, 0, false, 0, [])).2.2.2.1 (x2.getD pg.toNat ([], 0, [], false, 0, false, 0, [])).2.2.2.2.1 (x2.getD pg.toNat ([], 0, [], false, 0, false, 0, [])).2.2.2.2.2.1 (x2.getD pg.toNat ([], 0, [], false, 0, false, 0, [])).2.2.2.2.2.2.1 _ k pg src kind pg c ws hh hw
 obtain ⟨s8, s9⟩ := s3 ht
 obtain ⟨t1, t2, t3, t4⟩ := told_eq x0 x1 (x2.set pg.toNat (r.1, r.2.1, r.2.2.1, r.2.2.2.1, r.2.2.2.2.1, r.2.2.2.2.2.1, r.2.2.2.2.2.2.1, r.2.2.2.2.2.2.2.1)) x4 k r.2.2.2.2.2.2.2.2 (by omega) s6 x3 q.l3 (fun e he => ⟨h.e3 e he, q.s e he⟩)
 unfold specHomeB implHomeB f_impl_Node_toHome
 simp only [dt p0, dt (show pg < (x2.length : Int) by omega), Bool.and_self, cond_true, s1, Option.bind_some, t3]
 cases hb : (tellL r.2.2.2.2.2.2.2.2 x3).2 with
 | false =>
   refine hearN_same h rfl fun nb => ?_
   rw [s2 (nb _ hm)]
   simp only [Option.bind_some, t4, hb, cond_false, cs, Bool.not_false, cond_true]
 | true =>
   refine hearN_new hn h x1 (x2.set pg.toNat (r.1, r.2.1, r.2.2.1, r.2.2.2.1, r.2.2.2.2.1, r.2.2.2.2.2.1, r.2.2.2.2.2.2.1, r.2.2.2.2.2.2.2.1)) _ rfl (by rw [List.length_set]) t1 (fun e he => ⟨h.e1 e he, q.f e he⟩) (fun e he => ?_) t2 (fun hs e he => ?_) rfl fun nb => ?_
   · rcases mem_set he with rfl | he
     · exact ⟨s4, s8⟩
     · exact ⟨h.e2 e he, q.h e he⟩
   · rcases mem_set he with rfl | he
     · exact s9 (hs _ hm)
     · exact hs e he
   · rw [s2 (nb _ hm)]
     simp only [Option.bind_some, t4, hb, cond_true, cs, Bool.not_true, cond_false]
/-- A right frame that hears a right message. -/
theorem frame_good {e : FrameT} (hk : okFrame e) (ht : tF e = true) (kind pg : Int) (c : Bool) (ws : List Int) (hw : ws.length ≤ 1048576) (hm : f_spec_MsgOk kind pg c ws = some true) : ∃ r, f_spec_FrameHear e.1 e.2.1 e.2.2 kind pg c ws = some r ∧ f_impl_FrameHear e.1 e.2.1 e.2.2 kind pg c ws = some r ∧ okFrame (r.1, r.2.1, r.2.2.1) ∧ tF (r.1, r.2.1, r.2.2.1) = true ∧
   (r.2.2.2.2.2.2.2 = true → r.2.2.2.2.2.2.1.length ≤ 4 ∧ f_spec_MsgOk r.2.2.2.1 r.2.2.2.2.1 r.2.2.2.2.2.1 r.2.2.2.2.2.2.1 = some true) := by
 obtain ⟨m1, m2, m3, m4, m5, m6⟩ := msgOk_facts _ _ _ _ hw hm
 obtain ⟨e1, e2⟩ := tF_eq e hk
 obtain ⟨b, f1, f2⟩ := same_msgOk kind pg c ws hw
 rw [hm] at f1
 obtain rfl := Option.some.inj f1
 have hk' : e.2.1.length ≤ 1048576 := hk
 have t0 : ∀ b : Bool, tF (0, [], b) = true := fun b => rfl
 have t1 : ∀ (s : Int) (w : List Int) (b : Bool), s = 1 ∨ s = 2 → w.length = 4 → allW w = true → tF (s, w, b) = true := fun s w b hs hl hw => by
   unfold tF f_spec_FrameOk
   have hr : rng s 2 = true := by unfold rng; rw [dt (show 0 ≤ s by omega), dt (show s ≤ 2 by omega)]; rfl
   simp only [df (show ¬ s = 0 by omega), cond_false, in_rng, hr, Option.bind_some, cond_true, specWords w (by omega), hw, hl]
   rfl
 unfold f_spec_FrameHear f_impl_FrameHear f_spec_l3Copy f_impl_copyFrame f_slices_Clone_int_int f_spec_l1Bit
 simp only [List.length_nil, Nat.zero_add, (blt_iff _ _).2 (show e.2.1.length < 17592186044416 by omega), (blt_iff _ _).2 (show ws.length < 17592186044416 by omega), cond_true, List.nil_append, Option.bind_some, e1, e2, ht, hm, f2, Bool.not_true, cond_false]
 by_cases k3 : kind = 3
 · subst k3
   rw [if_pos (.inl rfl)] at m6
   simp only [decide_true, cond_true]
   cases c with
   | true => exact ⟨(2, ws, false, 0, 0, false, [], false), by simp only [cond_true, Option.bind_some, w64 (show (-9223372036854775808 : Int) ≤ 1 + 1 by omega) (by omega)]; rfl, rfl, hw, t1 2 ws false (.inr rfl) m6 m5, fun h => by cases h⟩
   | false => exact ⟨(1, ws, false, 0, 0, false, [], false), by simp only [cond_true, cond_false, Option.bind_some, w64 (show (-9223372036854775808 : Int) ≤ 1 + 0 by omega) (by omega)]; rfl, rfl, hw, t1 1 ws false (.inl rfl) m6 m5, fun h => by cases h⟩
 · simp only [df k3, cond_false]
   by_cases k4 : kind = 4
   · subst k4
     simp only [decide_true, cond_true]
     have hg : rg pg 0 5 = true := by unfold rg; rw [dt m3, dt m4]; rfl
     exact ⟨_, rfl, rfl, Nat.zero_le _, t0 _, fun _ => ⟨Nat.zero_le _, by
       unfold f_spec_MsgOk
       simp only [in_rg, hg, specWords [] (by simp), Option.bind_some]
       rfl⟩⟩
   · simp only [df k4, cond_false]
     by_cases k6 : kind = 6
     · subst k6
       simp only [decide_true, cond_true]
       by_cases s2 : e.1 = 2
       · have hl := frame_words e hk ht (by omega)
         have ha : allW e.2.1 = true := by
           have h := e1
           rw [ht] at h
           unfold f_spec_FrameOk at h
           have hr : rng e.1 2 = true := by unfold rng; rw [dt (show 0 ≤ e.1 by omega), dt (show e.1 ≤ 2 by omega)]; rfl
           simp only [df (show ¬ e.1 = 0 by omega), cond_false, in_rng, hr, Option.bind_some, cond_true, specWords e.2.1 hk', Option.some.injEq, Bool.and_eq_true] at h
           exact h.1
         have hg : rg pg 0 5 = true := by unfold rg; rw [dt m3, dt m4]; rfl
         have h7 : f_spec_MsgOk 7 pg false e.2.1 = some true := by
           unfold f_spec_MsgOk
           simp only [in_rg, hg, specWords e.2.1 hk', ha, hl, Option.bind_some]
           rfl
         simp only [dt s2, Bool.not_true, cond_false, cond_true]
         cases c with
         | true => exact ⟨_, rfl, rfl, Nat.zero_le _, t0 _, fun _ => ⟨by show e.2.1.length ≤ 4; omega, h7⟩⟩
         | false => exact ⟨_, rfl, rfl, hk, t1 1 _ _ (.inl rfl) hl ha, fun _ => ⟨by show e.2.1.length ≤ 4; omega, h7⟩⟩
       · simp only [df s2, Bool.not_false, cond_true, cond_false]
         exact ⟨_, rfl, rfl, hk, ht, fun h => by cases h⟩
     · simp only [df k6, cond_false]
       exact ⟨_, rfl, rfl, hk, ht, fun h => by cases h⟩
theorem msg_one {k pg : Int} {r : Int × List Int × Bool × Int × Int × Bool × List Int × Bool} (j : Int) (j0 : 0 ≤ j) (j1 : j ≤ k - 1) (h1 : r.2.2.2.2.2.2.1.length ≤ 4) (h2 : f_spec_MsgOk r.2.2.2.1 r.2.2.2.2.1 r.2.2.2.2.2.1 r.2.2.2.2.2.2.1 = some true) : ∀ e ∈ ([(j, r.2.2.2.1, r.2.2.2.2.1, r.2.2.2.2.2.1, r.2.2.2.2.2.2.1)] : List ToldT), okT k e := fun e he => by
 rw [List.mem_singleton.1 he]
 exact ⟨j0, j1, h1, h2⟩
noncomputable def specFrameB (x0 : Int) (x1 : List FrameT) (x2 : List HomeT) (x3 : List SenderT) (x4 : List Int) (j x7 x8 : Int) (x9 : Bool) (x10 : List Int) : Option NR :=
 bif ((decide ((0 : Int) ≤ x8)) && (decide (x8 < (x1.length : Int)))) then
 (f_spec_FrameHear ((x1.getD x8.toNat (0, [], false)).1) ((x1.getD x8.toNat (0, [], false)).2.1) ((x1.getD x8.toNat (0, [], false)).2.2) x7 x8 x9 x10).bind fun y416 =>
 bif ((decide ((0 : Int) ≤ x8)) && (decide (x8 < (x1.length : Int)))) then
 (some ((x1.set x8.toNat (y416.1, y416.2.1, y416.2.2.1)) : List FrameT)).bind fun z417 =>
 bif y416.2.2.2.2.2.2.2 then
   (f_spec_l5Told x0 z417 x2 x3 x4 ([(j, y416.2.2.2.1, y416.2.2.2.2.1, y416.2.2.2.2.2.1, y416.2.2.2.2.2.2.1)] : List ToldT)).bind fun y418 =>
   bif (!y418.2.2.2.2.2) then
     some (x0, x1, x2, x3, x4, false)
   else
     some (y418.1, y418.2.1, y418.2.2.1, y418.2.2.2.1, y418.2.2.2.2.1, true)
 else
   (f_spec_l5Told x0 z417 x2 x3 x4 ([] : List ToldT)).bind fun y420 =>
   bif (!y420.2.2.2.2.2) then
     some (x0, x1, x2, x3, x4, false)
   else
     some (y420.1, y420.2.1, y420.2.2.1, y420.2.2.2.1, y420.2.2.2.2.1, true)
 else none
 else none
noncomputable def implFrameB (x0 : Int) (x1 : List FrameT) (x2 : List HomeT) (x3 : List SenderT) (x4 : List Int) (j x7 x8 : Int) (x9 : Bool) (x10 : List Int) : Option NR :=
 (f_impl_Node_toFrame x0 x1 x2 x3 x4 j x7 x8 x9 x10).bind fun y1518 =>
 bif (!y1518.1) then
   some (x0, x1, x2, x3, x4, false)
 else
   some (y1518.2.1, y1518.2.2.1, y1518.2.2.2.1, y1518.2.2.2.2.1, y1518.2.2.2.2.2, true)
theorem same_nodeFrame {x0 : Int} {x1 : List FrameT} {x2 : List HomeT} {x3 : List SenderT} {x4 : List Int} {k : Int} (hn : nodeOkB x0 x1 x2 x3 x4 k = true) (h : NodeK x1 x2 x3 x4) (j kind pg : Int) (c : Bool) (ws : List Int) (hw : ws.length ≤ 1048576) (hm : f_spec_MsgOk kind pg c ws = some true) (p0 : 0 ≤ pg) (p1 : pg ≤ 5) (j0 : 0 ≤ j) (j1 : j ≤ k - 1) :
   HearN x0 x1 x2 x3 x4 k (specFrameB x0 x1 x2 x3 x4 j kind pg c ws) (implFrameB x0 x1 x2 x3 x4 j kind pg c ws) := by
 obtain ⟨k0, -, q⟩ := nodeFacts _ _ _ _ _ _ hn
 have l1 : x1.length = 6 := q.l1
 have l3 : (x3.length : Int) = k := q.l3
 have hm1 := mem_getD x1 (0, [], false) pg p0 (by omega)
 have hs : ∀ e ∈ x3, gS e := fun e he => ⟨h.e3 e he, q.s e he⟩
 obtain ⟨r, s1, s2, s3, s4, s5⟩ := frame_good (h.e1 _ hm1) (q.f _ hm1) kind pg c ws hw hm
 have n1 : ∀ e ∈ x1.set pg.toNat (r.1, r.2.1, r.2.2.1), okFrame e ∧ tF e = true := fun e he => by
   rcases mem_set he with rfl | he
   · exact ⟨s3, s4⟩
   · exact ⟨h.e1 e he, q.f e he⟩
 have n2 : ∀ e ∈ x2, okHome e ∧ tH k e = true := fun e he => ⟨h.e2 e he, q.h e he⟩
 unfold specFrameB implFrameB f_impl_Node_toFrame
 simp only [dt p0, dt (show pg < (x1.length : Int) by omega), Bool.and_self, cond_true, s1, s2, Option.bind_some]
 cases hb : r.2.2.2.2.2.2.2 with
 | false =>
   obtain ⟨t1, t2, t3, t4⟩ := told_eq x0 (x1.set pg.toNat (r.1, r.2.1, r.2.2.1)) x2 x4 k [] (by simp) (fun e he => by cases he) x3 l3 hs
   simp only [t3, tellL, Bool.not_true, Bool.not_false, cond_false, cond_true, Option.bind_some]
   exact hearN_new hn h _ x2 x3 (by rw [List.length_set]) rfl l3 n1 n2 hs (fun h => h) rfl fun _ => rfl
 | true =>
   obtain ⟨s6, s7⟩ := s5 hb
   have hk := msg_one (k := k) (pg := 0) (r := r) j j0 j1 s6 s7
   obtain ⟨t1, t2, t3, t4⟩ := told_eq x0 (x1.set pg.toNat (r.1, r.2.1, r.2.2.1)) x2 x4 k _ (by simp) hk x3 l3 hs
   obtain ⟨u1, u2, u3⟩ := qAt_eq x3 _ k (hk _ (.head _)) l3 hs
   simp only [t3, u2, Bool.not_true, cond_false, cond_true, Option.bind_some, dt j0, dt (show j < (x3.length : Int) by omega), Bool.and_self]
   have e1 : tellL [(j, r.2.2.2.1, r.2.2.2.2.1, r.2.2.2.2.2.1, r.2.2.2.2.2.2.1)] x3 = bif (qAt x3 (j, r.2.2.2.1, r.2.2.2.2.1, r.2.2.2.2.2.1, r.2.2.2.2.2.2.1)).2.2 then (x3.set j.toNat ((qAt x3 (j, r.2.2.2.1, r.2.2.2.2.1, r.2.2.2.2.2.1, r.2.2.2.2.2.2.1)).1, (qAt x3 (j, r.2.2.2.1, r.2.2.2.2.1, r.2.2.2.2.2.1, r.2.2.2.2.2.2.1)).2.1), true) else (x3, false) := rfl
   rw [e1] at t1 t2 ⊢
   cases hq : (qAt x3 (j, r.2.2.2.1, r.2.2.2.2.1, r.2.2.2.2.2.1, r.2.2.2.2.2.2.1)).2.2 with
   | false => exact hearN_same h rfl fun _ => rfl
   | true =>
     rw [hq] at t1 t2
     exact hearN_new hn h _ x2 _ (by rw [List.length_set]) rfl t1 n1 n2 t2 (fun h => h) rfl fun _ => rfl
theorem same_nodeHear (x0 : Int) (x1 : List FrameT) (x2 : List HomeT) (x3 : List SenderT) (x4 : List Int) (k src kind pg : Int) (c : Bool) (ws : List Int) (h : NodeK x1 x2 x3 x4) (hw : ws.length ≤ 1048576) :
   HearN x0 x1 x2 x3 x4 k (f_spec_NodeHear x0 x1 x2 x3 x4 k src kind pg c ws) (f_impl_NodeHear x0 x1 x2 x3 x4 k src kind pg c ws) := by
 obtain ⟨b, m1, m2⟩ := same_msgOk kind pg c ws hw
 unfold f_spec_NodeHear f_impl_NodeHear
 simp only [specNodeCopy x0 x1 x2 x3 x4 h, implNodeCopy x0 x1 x2 x3 x4 h, specNodeOk x0 x1 x2 x3 x4 k h, implNodeOk x0 x1 x2 x3 x4 k h, m1, m2, in_rng2, Option.bind_some]
 cases hn : nodeOkB x0 x1 x2 x3 x4 k with
 | false => exact hearN_same h rfl fun _ => rfl
 | true =>
   cases b with
   | false => exact hearN_same h rfl fun _ => rfl
   | true =>
     obtain ⟨k0, -, q⟩ := nodeFacts _ _ _ _ _ _ hn
     obtain ⟨-, -, p0, p1, -, -⟩ := msgOk_facts _ _ _ _ hw m1
     have hs : ∀ e ∈ x3, gS e := fun e he => ⟨h.e3 e he, q.s e he⟩
     simp only [Bool.not_true, cond_false, isOf_rng src k k0.1 k0.2, wz (k - 1) (by omega), Option.bind_some]
     cases hr : rng2 0 src (k - 1) with
     | false => exact hearN_same h rfl fun _ => rfl
     | true =>
       simp only [Bool.not_true, cond_false, df (show ¬ k = 0 by omega)]
       have j0 : 0 ≤ Int.tmod pg k := Int.tmod_nonneg k p0
       have j1 : Int.tmod pg k < k := Int.tmod_lt_of_pos pg (by omega)
       obtain ⟨t1, t2, t3, t4⟩ := told_eq x0 x1 x2 x4 k [] (by simp) (fun e he => by cases he) x3 q.l3 hs
       have none' : HearN x0 x1 x2 x3 x4 k (some (x0, x1, x2, x3, x4, true)) (some (x0, x1, x2, x3, x4, true)) := hearN_new hn h x1 x2 x3 rfl rfl q.l3 (fun e he => ⟨h.e1 e he, q.f e he⟩) (fun e he => ⟨h.e2 e he, q.h e he⟩) hs (fun h => h) rfl fun _ => rfl
       simp only [t3, tellL, Option.bind_some, Bool.not_true, cond_false]
       have home := same_nodeHome hn h src kind pg c ws hw p0 p1
       have frame := same_nodeFrame hn h (Int.tmod pg k) kind pg c ws hw m1 p0 p1 j0 (by omega)
       by_cases k1 : kind = 1
       · simp only [dt k1, cond_true]
         by_cases ho : Int.tmod pg k = x0
         · simp only [dt ho, cond_true]; exact home
         · simp only [df ho, cond_false]; exact none'
       · by_cases k2 : kind = 2
         · simp only [df k1, dt k2, cond_true, cond_false]
           by_cases ho : Int.tmod pg k = x0
           · simp only [dt ho, cond_true]; exact home
           · simp only [df ho, cond_false]; exact none'
         · by_cases k5 : kind = 5
           · simp only [df k1, df k2, dt k5, cond_true, cond_false]
             by_cases ho : Int.tmod pg k = x0
             · simp only [dt ho, cond_true]; exact home
             · simp only [df ho, cond_false]; exact none'
           · by_cases k7 : kind = 7
             · simp only [df k1, df k2, df k5, dt k7, cond_true, cond_false]
               by_cases ho : Int.tmod pg k = x0
               · simp only [dt ho, cond_true]; exact home
               · simp only [df ho, cond_false]; exact none'
             · simp only [df k1, df k2, df k5, df k7, cond_false]
               by_cases ho : src = Int.tmod pg k
               · subst ho
                 simp only [decide_true, cond_true]
                 exact frame
               · simp only [df ho, df (show ¬ Int.tmod pg k = src from fun h => ho h.symm), cond_false]; exact none'
theorem msg_copy (k p : Int) (c : Bool) (w : List Int) (h : w.length ≤ 1048576) : f_spec_l1Msg k p c w = some (k, p, c, w) := by
 unfold f_spec_l1Msg
 simp only [List.length_nil, Nat.zero_add, (blt_iff _ _).2 (show w.length < 17592186044416 by omega), cond_true, List.nil_append, Option.bind_some]
theorem packet_copy (a b : Int) (c : Bool) (d k p : Int) (f : Bool) (w : List Int) (h : w.length ≤ 1048576) : f_spec_l6Packet a b c d k p f w = some (a, b, c, d, k, p, f, w) := by
 unfold f_spec_l6Packet
 rw [msg_copy _ _ _ _ h]
 rfl
theorem specWorldCopy (x0 : Int) (x1 : List NodeT) (x2 : List PacketT) (h : WorldK x1 x2) : f_spec_l6Copy x0 x1 x2 = some (x0, x1, x2) := by
 unfold f_spec_l6Copy
 have c1 := cp_gen (d := ((0 : Int), ([] : List FrameT), ([] : List HomeT), ([] : List SenderT), ([] : List Int))) (F := fun n i y => f_spec_l6Copy.l0 n i x0 x1 x2 0 x0 [] [] y []) (R := fun y => (x0, x1, x2, (0 : Int), x0, ([] : List NodeT), ([] : List PacketT), y, ([] : List PacketT))) x1 h.l1 (fun n i y hi => by simp only [f_spec_l6Copy.l0, df hi, cond_false])
   (fun n i y a0 a1 hm hy => by
     have hk : okNode (x1.getD i.toNat (0, [], [], [], [])) := h.e1 _ hm
     have hl := h.l1
     simp only [f_spec_l6Copy.l0, specNodeCopy _ _ _ _ _ hk, dt a0, dt a1, cond_true, Bool.and_self, Option.bind_some, List.length_singleton, (blt_iff _ _).2 (show y.length + 1 < 1353245080339 by omega), wz (i + 1) (by omega)])
 have c2 := cp_gen (d := ((0 : Int), (0 : Int), false, (0 : Int), (0 : Int), (0 : Int), false, ([] : List Int))) (F := fun n i y => f_spec_l6Copy.l1 n i x0 x1 x2 0 x0 [] [] x1 y) (R := fun y => ((0 : Int), x0, ([] : List NodeT), ([] : List PacketT), x1, y)) x2 h.l2 (fun n i y hi => by simp only [f_spec_l6Copy.l1, df hi, cond_false])
   (fun n i y a0 a1 hm hy => by
     have hk : (x2.getD i.toNat (0, 0, false, 0, 0, 0, false, [])).2.2.2.2.2.2.2.length ≤ 1048576 := h.e2 _ hm
     have hl := h.l2
     simp only [f_spec_l6Copy.l1, packet_copy _ _ _ _ _ _ _ _ hk, dt a0, dt a1, cond_true, Bool.and_self, Option.bind_some, List.length_singleton, (blt_iff _ _).2 (show y.length + 1 < 1759218604441 by omega), wz (i + 1) (by omega)])
 simp only [c1, c2, Option.bind_some]
structure PacketFacts (k : Int) (e : PacketT) : Prop where
 a : 0 ≤ e.1 ∧ e.1 ≤ k - 1
 b : 0 ≤ e.2.1 ∧ e.2.1 ≤ k - 1
 s : 0 ≤ e.2.2.2.1 ∧ e.2.2.2.1 ≤ 100000
 m : e.2.2.1 = false → f_spec_MsgOk e.2.2.2.2.1 e.2.2.2.2.2.1 e.2.2.2.2.2.2.1 e.2.2.2.2.2.2.2 = some true
 n : e.2.2.1 = true → e.2.2.2.2 = (0, 0, false, [])
theorem packetFacts (k : Int) (e : PacketT) (h : okPacket e) (ht : tP k e = true) : PacketFacts k e := by
 have hp := (tP_eq k e h).1
 rw [ht] at hp
 unfold f_spec_PacketOk at hp
 simp only [in_rng2, Option.bind_some] at hp
 cases h1 : rng2 1 k 4 with
 | false => rw [h1] at hp; cases hp
 | true =>
   have k1 := h1
   unfold rng2 at k1
   simp only [Bool.and_eq_true, decide_eq_true_eq] at k1
   rw [h1, wz (k - 1) (by omega)] at hp
   simp only [Bool.not_true, cond_false] at hp
   cases h2 : rng2 0 e.1 (k - 1) with
   | false => rw [h2] at hp; cases hp
   | true =>
     cases h3 : rng2 0 e.2.1 (k - 1) with
     | false => rw [h2, h3] at hp; cases hp
     | true =>
       cases h4 : rng2 0 e.2.2.2.1 100000 with
       | false => rw [h2, h3, h4] at hp; cases hp
       | true =>
         rw [h2, h3, h4] at hp
         simp only [Bool.not_true, cond_false] at hp
         unfold rng2 at h2 h3 h4
         simp only [Bool.and_eq_true, decide_eq_true_eq] at h2 h3 h4
         refine ⟨h2, h3, h4, fun hb => ?_, fun hb => ?_⟩
         · rw [hb, cond_false] at hp
           obtain ⟨b, m1, -⟩ := same_msgOk e.2.2.2.2.1 e.2.2.2.2.2.1 e.2.2.2.2.2.2.1 e.2.2.2.2.2.2.2 h
           rw [m1] at hp ⊢
           exact hp
         · rw [hb, cond_true] at hp
           by_cases g1 : e.2.2.2.2.1 = 0
           · by_cases g2 : e.2.2.2.2.2.1 = 0
             · cases g3 : e.2.2.2.2.2.2.1 with
               | true => rw [dt g1, dt g2, g3] at hp; cases hp
               | false =>
                 rw [dt g1, dt g2, g3] at hp
                 simp only [cond_true, Bool.not_false, Option.some.injEq, decide_eq_true_eq] at hp
                 have g4 := List.eq_nil_of_length_eq_zero (show e.2.2.2.2.2.2.2.length = 0 by omega)
                 exact Prod.ext g1 (Prod.ext g2 (Prod.ext g3 g4))
             · rw [dt g1, df g2] at hp; cases hp
           · rw [df g1] at hp; cases hp
theorem tP_of {k : Int} (k0 : 1 ≤ k) (k1 : k ≤ 4) {e : PacketT} (h : okPacket e) (p : PacketFacts k e) : tP k e = true := by
 unfold tP f_spec_PacketOk
 have r0 : rng2 1 k 4 = true := by unfold rng2; rw [dt k0, dt k1]; rfl
 have r1 : rng2 0 e.1 (k - 1) = true := by unfold rng2; rw [dt p.a.1, dt p.a.2]; rfl
 have r2 : rng2 0 e.2.1 (k - 1) = true := by unfold rng2; rw [dt p.b.1, dt p.b.2]; rfl
 have r3 : rng2 0 e.2.2.2.1 100000 = true := by unfold rng2; rw [dt p.s.1, dt p.s.2]; rfl
 simp only [in_rng2, r0, r1, r2, r3, wz (k - 1) (by omega), Option.bind_some, Bool.not_true, cond_false]
 cases hb : e.2.2.1 with
 | false => simp only [cond_false, p.m hb, Option.bind_some]; rfl
 | true =>
   have := p.n hb
   simp only [cond_true, this]
   rfl
theorem allF_of {α : Type} {q : Int → α → Bool} : ∀ (x : List α) (i : Int), (∀ j (hj : j < x.length), q (i + j) x[j] = true) → allF q i x = true
 | [], _, _ => rfl
 | a :: x, i, h => by
   unfold allF
   rw [Bool.and_eq_true]
   refine ⟨by have h0 := h 0 (by simp); rw [show (i + ((0 : Nat) : Int)) = i by omega] at h0; exact h0, allF_of x (i + 1) fun j hj => ?_⟩
   have := h (j + 1) (by simpa using hj)
   rw [show i + ((j + 1 : Nat) : Int) = i + 1 + (j : Int) by omega] at this
   simpa using this
theorem nodeOk_of {k : Int} (k0 : 1 ≤ k) (k1 : k ≤ 4) {i : Int} (i0 : 0 ≤ i) (i1 : i ≤ k - 1) {e : NodeT} (q : NodeFacts e k i) : nodeOkB e.1 e.2.1 e.2.2.1 e.2.2.2.1 e.2.2.2.2 k = true := by
 unfold nodeOkB rng2
 simp only [Bool.and_eq_true, decide_eq_true_eq, List.all_eq_true]
 have := q.a
 have := q.l1
 have := q.l2
 exact ⟨⟨k0, k1⟩, ⟨by omega, by omega⟩, by omega, by omega, q.l3, q.l4, ⟨q.f, q.h⟩, q.s, q.r⟩
theorem worldOk_of {x0 : Int} {x1 : List NodeT} {x2 : List PacketT} (w : WorldFacts x0 x1 x2) : worldOkB x0 x1 x2 = true := by
 unfold worldOkB rng2
 simp only [Bool.and_eq_true, decide_eq_true_eq, List.all_eq_true, Bool.not_eq_true', decide_eq_false_iff_not]
 have := w.l2
 refine ⟨w.k, w.l1, by omega, allF_of _ _ fun j hj => ?_, w.p⟩
 have q := w.n j hj
 have l1 := w.l1
 unfold tN
 rw [Bool.and_eq_true, decide_eq_true_eq]
 exact ⟨nodeOk_of w.k.1 w.k.2 (by omega) (by omega) q, by have := q.a; omega⟩
/-- A right world. -/
def gW (x0 : Int) (x1 : List NodeT) (x2 : List PacketT) : Prop := WorldK x1 x2 ∧ WorldFacts x0 x1 x2
theorem gW_set {x0 : Int} {x1 : List NodeT} {x2 : List PacketT} (g : gW x0 x1 x2) (i : Int) (i0 : 0 ≤ i) (e : NodeT) (h : okNode e) (q : NodeFacts e x0 i) : gW x0 (x1.set i.toNat e) x2 := by
 obtain ⟨k, w⟩ := g
 refine ⟨⟨by rw [List.length_set]; exact k.l1, k.l2, fun f hf => ?_, k.e2⟩, ⟨w.k, by rw [List.length_set]; exact w.l1, w.l2, fun j hj => ?_, w.p⟩⟩
 · rcases mem_set hf with rfl | hf
   · exact h
   · exact k.e1 f hf
 · rw [List.length_set] at hj
   rw [List.getElem_set]
   split
   · rename_i hij
     rw [show ((j : Nat) : Int) = i by omega]
     exact q
   · exact w.n j hj
theorem gW_net {x0 : Int} {x1 : List NodeT} {x2 y2 : List PacketT} (g : gW x0 x1 x2) (h : ∀ e ∈ y2, okPacket e ∧ tP x0 e = true) (hl : y2.length ≤ 40) : gW x0 x1 y2 :=
 ⟨⟨g.1.l1, by omega, g.1.e1, fun e he => (h e he).1⟩, ⟨g.2.k, g.2.l1, hl, g.2.n, fun e he => (h e he).2⟩⟩
def siW (x1 : List NodeT) : Prop := ∀ e ∈ x1, ∀ h ∈ e.2.2.1, siH h
theorem getD_set {α : Type} (x : List α) (i : Nat) (e d : α) (h : i < x.length) : (x.set i e).getD i d = e := by
 rw [List.getD_eq_getElem?_getD, List.getElem?_set_self h]
 rfl
theorem gS_acked {c : SenderT} (h : gS c) (n : Int) : gS (ackedB c.1 c.2 (tS c) n) ∧ f_spec_Acked c.1 c.2 n = some (ackedB c.1 c.2 (tS c) n) := by
 obtain ⟨h1, h2⟩ := h
 have so := (tS_eq c h1).1
 refine ⟨?_, specAcked c.1 c.2 n h1.1 h1.2 _ so⟩
 rw [h2] at so ⊢
 obtain ⟨f0, f1, f2, f3, f4⟩ := senderOk_facts c.1 c.2 h1.1 h1.2 so
 unfold ackedB
 split
 · rename_i hq
   obtain ⟨-, q1, q2⟩ := hq
   have he : ∀ f ∈ c.2.drop (n - c.1).toNat, f.2.2.2.length ≤ 1048576 := fun f hf => h1.2 f (List.mem_of_mem_drop hf)
   refine ⟨⟨by simp only [List.length_drop]; omega, he⟩, tS_of _ _ (by simp only [List.length_drop]; omega) he (by omega) (by simp only [List.length_drop]; omega) ?_⟩
   rw [List.all_eq_true] at f4 ⊢
   exact fun f hf => f4 f (List.mem_of_mem_drop hf)
 · exact ⟨h1, h2⟩
theorem gNode {x0 : Int} {x1 : List NodeT} {x2 : List PacketT} (g : gW x0 x1 x2) (i : Int) (i0 : 0 ≤ i) (i1 : i ≤ x0 - 1) : i < (x1.length : Int) ∧ x1.getD i.toNat (0, [], [], [], []) ∈ x1 ∧ okNode (x1.getD i.toNat (0, [], [], [], [])) ∧ NodeFacts (x1.getD i.toNat (0, [], [], [], [])) x0 i := by
 have hl := g.2.l1
 have hm := mem_getD x1 (0, [], [], [], []) i i0 (by omega)
 exact ⟨by omega, hm, g.1.e1 _ hm, worldAt g.2 i i0 (by omega)⟩
/-- What a packet does that arrives. -/
theorem specGive {x0 : Int} {x1 : List NodeT} {x2 : List PacketT} (g : gW x0 x1 x2) (e : PacketT) (hk : okPacket e) (p : PacketFacts x0 e) : ∃ y1, f_spec_l6Give x0 x1 x2 e.1 e.2.1 e.2.2.1 e.2.2.2.1 e.2.2.2.2.1 e.2.2.2.2.2.1 e.2.2.2.2.2.2.1 e.2.2.2.2.2.2.2 = some (x0, y1, x2) ∧ gW x0 y1 x2 ∧ (siW x1 → siW y1) := by
 obtain ⟨a, b, k, s, kind, pg, c, ws⟩ := e
 obtain ⟨⟨a0, a1⟩, ⟨b0, b1⟩, ⟨s0, s1⟩, pm, pn⟩ := p
 simp only at a0 a1 b0 b1 s0 s1 pm pn
 have hw : ws.length ≤ 1048576 := hk
 obtain ⟨n0, n1, n2, q⟩ := gNode g b b0 b1
 have l3 := q.l3
 have l4 := q.l4
 unfold f_spec_l6Give
 simp only [dt b0, dt n0, Bool.and_self, cond_true]
 cases k with
 | true =>
   have hm := mem_getD (x1.getD b.toNat (0, [], [], [], [])).2.2.2.1 (0, []) a a0 (by omega)
   have hs : gS ((x1.getD b.toNat (0, [], [], [], [])).2.2.2.1.getD a.toNat (0, [])) := ⟨n2.e3 _ hm, q.s _ hm⟩
   obtain ⟨g1, g2⟩ := gS_acked hs s
   have hb : b.toNat < x1.length := by omega
   simp only [cond_true, dt a0, dt (show a < ((x1.getD b.toNat (0, [], [], [], [])).2.2.2.1.length : Int) by omega), Bool.and_self, g2, Option.bind_some, List.length_set, dt n0, dt b0, decide_true, getD_set _ _ _ _ hb, List.set_set]
   refine ⟨_, rfl, gW_set g b b0 _ ⟨n2.l1, n2.l2, by rw [List.length_set]; exact n2.l3, n2.l4, n2.e1, n2.e2, fun f hf => ?_⟩ ⟨q.a, q.l1, q.l2, by rw [List.length_set]; exact q.l3, q.l4, q.f, q.h, fun f hf => ?_, q.r⟩, fun si e he => ?_⟩
   · rcases mem_set hf with rfl | hf
     · exact g1.1
     · exact n2.e3 f hf
   · rcases mem_set hf with rfl | hf
     · exact g1.2
     · exact q.s f hf
   · rcases mem_set he with rfl | he
     · exact si (x1.getD b.toNat (0, [], [], [], [])) n1
     · exact si e he
 | false =>
   simp only [cond_false, dt a0, dt (show a < ((x1.getD b.toNat (0, [], [], [], [])).2.2.2.2.length : Int) by omega), Bool.and_self, cond_true, specArrived, Option.bind_some]
   cases ha : (arrB ((x1.getD b.toNat (0, [], [], [], [])).2.2.2.2.getD a.toNat 0) s).2 with
   | false => exact ⟨x1, rfl, g, fun h => h⟩
   | true =>
     simp only [Bool.not_true, cond_false]
     obtain ⟨r, h1, -, h3, h4, -⟩ := same_nodeHear (x1.getD b.toNat (0, [], [], [], [])).1 (x1.getD b.toNat (0, [], [], [], [])).2.1 (x1.getD b.toNat (0, [], [], [], [])).2.2.1 (x1.getD b.toNat (0, [], [], [], [])).2.2.2.1 (x1.getD b.toNat (0, [], [], [], [])).2.2.2.2 x0 a kind pg c ws n2 hw
     rw [h1, Option.bind_some]
     cases hr : r.2.2.2.2.2 with
     | false => exact ⟨x1, rfl, g, fun h => h⟩
     | true =>
       obtain ⟨-, f, h5, h6⟩ := h4 hr
       have hrange : 0 ≤ (arrB ((x1.getD b.toNat (0, [], [], [], [])).2.2.2.2.getD a.toNat 0) s).1 ∧ (arrB ((x1.getD b.toNat (0, [], [], [], [])).2.2.2.2.getD a.toNat 0) s).1 ≤ 100000 := by
         unfold arrB at ha ⊢
         split
         · rename_i hq
           exact ⟨by have := hq.2.1; show 0 ≤ _ + 1; omega, by have := hq.2.2; show _ + 1 ≤ 100000; omega⟩
         · rename_i hq
           rw [if_neg hq] at ha
           cases ha
       simp only [cond_true, h5, dt (show a < ((x1.getD b.toNat (0, [], [], [], [])).2.2.2.2.length : Int) by omega), dt n0, dt b0, dt a0, Bool.and_self, Option.bind_some]
       have qa := q.a
       rw [qa] at f
       refine ⟨_, rfl, gW_set g b b0 _ ⟨h3.l1, h3.l2, h3.l3, by rw [List.length_set]; exact n2.l4, h3.e1, h3.e2, h3.e3⟩ ⟨f.a, f.l1, f.l2, f.l3, by rw [List.length_set]; exact q.l4, f.f, f.h, f.s, fun v hv => ?_⟩, fun si e he => ?_⟩
       · rcases mem_set hv with rfl | hv
         · exact hrange
         · exact q.r v hv
       · rcases mem_set he with rfl | he
         · exact h6 (si _ n1)
         · exact si e he
/-- What a deed answers: the world stays right. -/
def DoR (x0 : Int) (x1 : List NodeT) (f : Option (Int × List NodeT × List PacketT × Int)) : Prop := ∃ y1 y2 s, f = some (x0, y1, y2, s) ∧ gW x0 y1 y2 ∧ (siW x1 → siW y1)
theorem doR {x0 : Int} {x1 y1 : List NodeT} {y2 : List PacketT} (g : gW x0 y1 y2) (si : siW x1 → siW y1) (s : Int) : DoR x0 x1 (some (x0, y1, y2, s)) := ⟨y1, y2, s, rfl, g, si⟩
theorem packetAt {x0 : Int} {x1 : List NodeT} {x2 : List PacketT} (g : gW x0 x1 x2) (i : Int) (i0 : 0 ≤ i) (i1 : i < (x2.length : Int)) : okPacket (x2.getD i.toNat (0, 0, false, 0, 0, 0, false, [])) ∧ tP x0 (x2.getD i.toNat (0, 0, false, 0, 0, 0, false, [])) = true := by
 have hm := mem_getD x2 (0, 0, false, 0, 0, 0, false, []) i i0 i1
 exact ⟨g.1.e2 _ hm, g.2.p _ hm⟩
theorem gW_add {x0 : Int} {x1 : List NodeT} {x2 : List PacketT} (g : gW x0 x1 x2) (hl : ¬ (x2.length : Int) = 40) (e : PacketT) (h : okPacket e) (ht : tP x0 e = true) : gW x0 x1 (x2 ++ [e]) := by
 have := g.2.l2
 refine gW_net g (fun f hf => ?_) (by rw [List.length_append, List.length_singleton]; omega)
 rcases List.mem_append.1 hf with hf | hf
 · exact ⟨g.1.e2 f hf, g.2.p f hf⟩
 · rw [List.mem_singleton.1 hf]; exact ⟨h, ht⟩
theorem specNet {x0 : Int} {x1 : List NodeT} {x2 : List PacketT} (g : gW x0 x1 x2) (kind a b c : Int) : DoR x0 x1 (f_spec_l6Net x0 x1 x2 kind a b c) := by
 have hl := g.2.l2
 unfold f_spec_l6Net
 simp only [in_rng2, wz ((x2.length : Int) - 1) (by omega), Option.bind_some]
 cases hr : rng2 0 a ((x2.length : Int) - 1) with
 | false => exact doR g (fun h => h) 2
 | true =>
   unfold rng2 at hr
   simp only [Bool.and_eq_true, decide_eq_true_eq] at hr
   obtain ⟨a0, a1⟩ := hr
   obtain ⟨p1, p2⟩ := packetAt g a a0 (by omega)
   have pf := packetFacts x0 _ p1 p2
   have pl : (x2.getD a.toNat (0, 0, false, 0, 0, 0, false, [])).2.2.2.2.2.2.2.length ≤ 1048576 := p1
   simp only [Bool.not_true, cond_false, dt a0, dt (show a < (x2.length : Int) by omega), dt (show a ≤ (x2.length : Int) by omega), Bool.and_self, cond_true, packet_copy _ _ _ _ _ _ _ _ pl, Option.bind_some, List.length_singleton, (blt_iff _ _).2 (show x2.length + 1 < 1759218604441 by omega)]
   by_cases k5 : kind = 5
   · simp only [dt k5, cond_true]
     by_cases h40 : (x2.length : Int) = 40
     · simp only [dt h40, cond_true]; exact doR g (fun h => h) 4
     · simp only [df h40, cond_false]; exact doR (gW_add g h40 _ p1 p2) (fun h => h) 0
   · have e1 : ((x2.drop 0).take a.toNat) = x2.take a.toNat := by rw [List.drop_zero]
     have e2 : ((x2.drop (a + 1).toNat).take ((x2.length : Int) - (a + 1)).toNat) = x2.drop (a + 1).toNat := take_drop_all x2 (a + 1) (by omega)
     have t1 : (x2.take a.toNat).length = a.toNat := by rw [List.length_take]; omega
     have t2 : (x2.drop (a + 1).toNat).length = x2.length - (a + 1).toNat := List.length_drop ..
     simp only [df k5, cond_false, wz (a + 1) (by omega), e1, e2, List.length_nil, List.nil_append, Nat.zero_add, (blt_iff _ _).2 (show (x2.take a.toNat).length < 1759218604441 by omega), (blt_iff _ _).2 (show (x2.take a.toNat).length + (x2.drop (a + 1).toNat).length < 1759218604441 by omega), cond_true, Option.bind_some, dt (show 0 ≤ a + 1 by omega), dt (show a + 1 ≤ (x2.length : Int) by omega), dt (show 0 + a ≤ a + 1 by omega), dt (show 0 + a ≤ a by omega), dt (show a < a + 1 by omega), dt (show a + 1 + ((x2.length : Int) - (a + 1)) ≤ (x2.length : Int) by omega), Bool.and_self]
     have gn : gW x0 x1 (x2.take a.toNat ++ x2.drop (a + 1).toNat) := gW_net g (fun f hf => by
       rcases List.mem_append.1 hf with hf | hf
       · have := List.mem_of_mem_take hf
         exact ⟨g.1.e2 f this, g.2.p f this⟩
       · have := List.mem_of_mem_drop hf
         exact ⟨g.1.e2 f this, g.2.p f this⟩) (by rw [List.length_append, t1, t2]; omega)
     by_cases k4 : kind = 4
     · simp only [dt k4, cond_true]; exact doR gn (fun h => h) 0
     · obtain ⟨y1, h1, h2, h3⟩ := specGive gn _ p1 pf
       simp only [df k4, cond_false, h1, Option.bind_some]
       exact doR h2 h3 0
theorem specPut {x0 : Int} {x1 : List NodeT} {x2 : List PacketT} (g : gW x0 x1 x2) (e : PacketT) (h : okPacket e) (ht : tP x0 e = true) : DoR x0 x1 (f_spec_l6Put x0 x1 x2 e.1 e.2.1 e.2.2.1 e.2.2.2.1 e.2.2.2.2.1 e.2.2.2.2.2.1 e.2.2.2.2.2.2.1 e.2.2.2.2.2.2.2) := by
 have hl := g.2.l2
 unfold f_spec_l6Put
 simp only [List.length_singleton, (blt_iff _ _).2 (show x2.length + 1 < 1759218604441 by omega), cond_true, Option.bind_some]
 by_cases h40 : (x2.length : Int) = 40
 · simp only [dt h40, cond_true]; exact doR g (fun h => h) 4
 · simp only [df h40, cond_false]; exact doR (gW_add g h40 e h ht) (fun h => h) 0
theorem specLine {x0 : Int} {x1 : List NodeT} {x2 : List PacketT} (g : gW x0 x1 x2) (kind a b c : Int) (a0 : 0 ≤ a) (a1 : a ≤ x0 - 1) : DoR x0 x1 (f_spec_l6Line x0 x1 x2 kind a b c) := by
 have k0 := g.2.k
 obtain ⟨n0, n1, n2, q⟩ := gNode g a a0 a1
 have l3 := q.l3
 have l4 := q.l4
 unfold f_spec_l6Line
 simp only [in_rng2, wz (x0 - 1) (by omega), Option.bind_some]
 cases hr : rng2 0 b (x0 - 1) with
 | false => exact doR g (fun h => h) 2
 | true =>
   unfold rng2 at hr
   simp only [Bool.and_eq_true, decide_eq_true_eq] at hr
   obtain ⟨b0, b1⟩ := hr
   have hm := mem_getD (x1.getD a.toNat (0, [], [], [], [])).2.2.2.1 (0, []) b b0 (by omega)
   have ks := n2.e3 _ hm
   have ts := q.s _ hm
   have so := (tS_eq _ ks).1
   rw [ts] at so
   obtain ⟨f0, f1, f2, f3, f4⟩ := senderOk_facts _ _ ks.1 ks.2 so
   simp only [Bool.not_true, cond_false, dt a0, dt b0, dt n0, dt (show b < ((x1.getD a.toNat (0, [], [], [], [])).2.2.2.2.length : Int) by omega), dt (show b < ((x1.getD a.toNat (0, [], [], [], [])).2.2.2.1.length : Int) by omega), Bool.and_self, cond_true, wz (((((x1.getD a.toNat (0, [], [], [], [])).2.2.2.1.getD b.toNat (0, [])).2).length : Int) - 1) (by omega)]
   by_cases k1 : kind = 1
   · simp only [dt k1, cond_true]
     cases hc : rng2 0 c (((((x1.getD a.toNat (0, [], [], [], [])).2.2.2.1.getD b.toNat (0, [])).2).length : Int) - 1) with
     | false => exact doR g (fun h => h) 3
     | true =>
       unfold rng2 at hc
       simp only [Bool.and_eq_true, decide_eq_true_eq] at hc
       obtain ⟨c0, c1⟩ := hc
       have hm2 := mem_getD ((x1.getD a.toNat (0, [], [], [], [])).2.2.2.1.getD b.toNat (0, [])).2 (0, 0, false, []) c c0 (by omega)
       have hw := ks.2 _ hm2
       have tm : tM (((x1.getD a.toNat (0, [], [], [], [])).2.2.2.1.getD b.toNat (0, [])).2.getD c.toNat (0, 0, false, [])) = true := (List.all_eq_true.1 f4) _ hm2
       have mo := (tM_eq _ hw).1
       rw [tm] at mo
       simp only [Bool.not_true, cond_false, dt c0, dt (show c < ((((x1.getD a.toNat (0, [], [], [], [])).2.2.2.1.getD b.toNat (0, [])).2).length : Int) by omega), Bool.and_self, cond_true, msg_copy _ _ _ _ hw, Option.bind_some, wz (((x1.getD a.toNat (0, [], [], [], [])).2.2.2.1.getD b.toNat (0, [])).1 + c) (by omega)]
       have hp : okPacket (a, b, false, ((x1.getD a.toNat (0, [], [], [], [])).2.2.2.1.getD b.toNat (0, [])).1 + c, (((x1.getD a.toNat (0, [], [], [], [])).2.2.2.1.getD b.toNat (0, [])).2.getD c.toNat (0, 0, false, []))) := hw
       obtain ⟨y1, y2, s, h1, h2, h3⟩ := specPut g (a, b, false, ((x1.getD a.toNat (0, [], [], [], [])).2.2.2.1.getD b.toNat (0, [])).1 + c, (((x1.getD a.toNat (0, [], [], [], [])).2.2.2.1.getD b.toNat (0, [])).2.getD c.toNat (0, 0, false, []))) hp (tP_of k0.1 k0.2 hp ⟨⟨a0, a1⟩, ⟨b0, b1⟩, ⟨by show 0 ≤ _ + c; omega, by show _ + c ≤ 100000; omega⟩, fun _ => mo, fun h => by cases h⟩)
       simp only at h1
       rw [h1, Option.bind_some]
       exact doR h2 h3 s
   · simp only [df k1, cond_false]
     have hr := q.r _ (mem_getD (x1.getD a.toNat (0, [], [], [], [])).2.2.2.2 0 b b0 (by omega))
     have hp : okPacket (a, b, true, (x1.getD a.toNat (0, [], [], [], [])).2.2.2.2.getD b.toNat 0, 0, 0, false, []) := Nat.zero_le _
     obtain ⟨y1, y2, s, h1, h2, h3⟩ := specPut g (a, b, true, (x1.getD a.toNat (0, [], [], [], [])).2.2.2.2.getD b.toNat 0, 0, 0, false, []) hp (tP_of k0.1 k0.2 hp ⟨⟨a0, a1⟩, ⟨b0, b1⟩, hr, fun h => (by cases h), fun _ => rfl⟩)
     simp only at h1
     rw [h1, Option.bind_some]
     exact doR h2 h3 s
theorem tF_asked (e : FrameT) (b : Bool) : tF (e.1, e.2.1, b) = tF e := rfl
theorem getD_setF (x : List FrameT) (i : Nat) (e d : FrameT) (h : i < x.length) : (x.set i e).getD i d = e := by
 rw [List.getD_eq_getElem?_getD, List.getElem?_set_self h]
 rfl
def WantR (x0 : Int) (x1 : List FrameT) (x2 : List HomeT) (x3 : List SenderT) (x4 : List Int) (k p : Int) (f g : Option NR) : Prop :=
 ∃ r : NR, f = some r ∧ g = some r ∧ NodeK r.2.1 r.2.2.1 r.2.2.2.1 r.2.2.2.2.1 ∧
   (r.2.2.2.2.2 = true → nodeOkB x0 x1 x2 x3 x4 k = true ∧ NodeFacts (r.1, r.2.1, r.2.2.1, r.2.2.2.1, r.2.2.2.2.1) k x0 ∧ r.2.2.1 = x2 ∧ 0 ≤ p ∧ p < (r.2.1.length : Int) ∧ (r.2.1.getD p.toNat (0, [], false)).2.2 = true) ∧ (r.2.2.2.2.2 = false → r = (x0, x1, x2, x3, x4, false))
theorem want_ask (x0 : Int) {x1 : List FrameT} {x2 : List HomeT} {x3 : List SenderT} {x4 : List Int} {k p : Int} (hn : nodeOkB x0 x1 x2 x3 x4 k = true) (h : NodeK x1 x2 x3 x4) (p0 : 0 ≤ p) (p1 : p ≤ 5) (kind : Int) (hm : f_spec_MsgOk kind p false [] = some true) (f g : Option NR)
   (hf : f = (f_spec_Queue (x3.getD (Int.tmod p k).toNat (0, [])).1 (x3.getD (Int.tmod p k).toNat (0, [])).2 kind p false []).bind fun y => bif (!y.2.2) then some (x0, x1, x2, x3, x4, false) else some (x0, x1.set p.toNat ((x1.getD p.toNat (0, [], false)).1, (x1.getD p.toNat (0, [], false)).2.1, true), x2, x3.set (Int.tmod p k).toNat (y.1, y.2.1), x4, true))
   (hg : g = (f_impl_Queue (x3.getD (Int.tmod p k).toNat (0, [])).1 (x3.getD (Int.tmod p k).toNat (0, [])).2 kind p false []).bind fun y => bif (!y.2.2) then some (x0, x1, x2, x3, x4, false) else some (x0, x1.set p.toNat ((x1.getD p.toNat (0, [], false)).1, (x1.getD p.toNat (0, [], false)).2.1, true), x2, x3.set (Int.tmod p k).toNat (y.1, y.2.1), x4, true)) :
   WantR x0 x1 x2 x3 x4 k p f g := by
 subst hf hg
 obtain ⟨k0, -, q⟩ := nodeFacts _ _ _ _ _ _ hn
 have l1 : x1.length = 6 := q.l1
 have l3 : (x3.length : Int) = k := q.l3
 have j0 : 0 ≤ Int.tmod p k := Int.tmod_nonneg k p0
 have j1 : Int.tmod p k < k := Int.tmod_lt_of_pos p (by omega)
 have hs : ∀ e ∈ x3, gS e := fun e he => ⟨h.e3 e he, q.s e he⟩
 obtain ⟨u1, u2, u3⟩ := qAt_eq x3 (Int.tmod p k, kind, p, false, []) k ⟨j0, by show Int.tmod p k ≤ k - 1; omega, Nat.zero_le _, hm⟩ l3 hs
 simp only at u1 u2
 rw [u1, u2, Option.bind_some]
 have hm1 := mem_getD x1 (0, [], false) p p0 (by omega)
 cases (qAt x3 (Int.tmod p k, kind, p, false, [])).2.2 with
 | false => exact ⟨_, rfl, rfl, h, fun h => (by cases h), fun _ => rfl⟩
 | true =>
   simp only [Bool.not_true, cond_false]
   refine ⟨_, rfl, rfl, ⟨by show (x1.set _ _).length ≤ _; rw [List.length_set]; exact h.l1, h.l2, by show (x3.set _ _).length ≤ _; rw [List.length_set]; exact h.l3, h.l4, fun e he => ?_, h.e2, fun e he => ?_⟩, fun _ => ⟨hn, ⟨rfl, by show (x1.set _ _).length = _; rw [List.length_set]; exact q.l1, q.l2, by show ((x3.set _ _).length : Int) = _; rw [List.length_set]; exact q.l3, q.l4, fun e he => ?_, q.h, fun e he => ?_, q.r⟩, rfl, p0, by show p < ((x1.set _ _).length : Int); rw [List.length_set]; omega, ?_⟩, fun h => by cases h⟩
   · rcases mem_set he with rfl | he
     · exact h.e1 (x1.getD p.toNat (0, [], false)) hm1
     · exact h.e1 e he
   · rcases mem_set he with rfl | he
     · exact u3.1
     · exact h.e3 e he
   · rcases mem_set he with rfl | he
     · rw [tF_asked]; exact q.f (x1.getD p.toNat (0, [], false)) hm1
     · exact q.f e he
   · rcases mem_set he with rfl | he
     · exact u3.2
     · exact q.s e he
   · show ((x1.set p.toNat _).getD p.toNat _).2.2 = true
     rw [getD_setF _ _ _ _ (by omega)]
theorem msg_ask (kind p : Int) (hk : kind = 1 ∨ kind = 2) (p0 : 0 ≤ p) (p1 : p ≤ 5) : f_spec_MsgOk kind p false [] = some true := by
 have h2 : rg p 0 5 = true := by unfold rg; rw [dt p0, dt p1]; rfl
 rcases hk with rfl | rfl
 · unfold f_spec_MsgOk
   simp only [in_rg, h2, specWords [] (by simp), Option.bind_some]
   rfl
 · unfold f_spec_MsgOk
   simp only [in_rg, h2, specWords [] (by simp), Option.bind_some]
   rfl
theorem good_want (x0 : Int) (x1 : List FrameT) (x2 : List HomeT) (x3 : List SenderT) (x4 : List Int) (k p : Int) (w : Bool) (h : NodeK x1 x2 x3 x4) : WantR x0 x1 x2 x3 x4 k p (f_spec_Want x0 x1 x2 x3 x4 k p w) (f_impl_Want x0 x1 x2 x3 x4 k p w) := by
 unfold f_spec_Want f_impl_Want f_impl_isPage
 simp only [specNodeCopy x0 x1 x2 x3 x4 h, implNodeCopy x0 x1 x2 x3 x4 h, specNodeOk x0 x1 x2 x3 x4 k h, implNodeOk x0 x1 x2 x3 x4 k h, in_rng, from_rng, Option.bind_some]
 have same : WantR x0 x1 x2 x3 x4 k p (some (x0, x1, x2, x3, x4, false)) (some (x0, x1, x2, x3, x4, false)) := ⟨_, rfl, rfl, h, fun h => (by cases h), fun _ => rfl⟩
 cases hn : nodeOkB x0 x1 x2 x3 x4 k with
 | false => exact same
 | true =>
   obtain ⟨hk, -, f⟩ := nodeFacts x0 x1 x2 x3 x4 k hn
   have l1 : x1.length = 6 := f.l1
   have l3 : (x3.length : Int) = k := f.l3
   cases hp : rng p 5 with
   | false => exact same
   | true =>
     unfold rng at hp
     simp only [Bool.and_eq_true, decide_eq_true_eq] at hp
     have hf := tF_state _ (f.f _ (mem_getD x1 (0, [], false) p hp.1 (by omega)))
     have t0 : 0 ≤ Int.tmod p k := Int.tmod_nonneg k hp.1
     have t1 : Int.tmod p k < k := Int.tmod_lt_of_pos p (by omega)
     simp only [Bool.not_true, cond_false, dt hp.1, dt (show p < (x1.length : Int) by omega), Bool.and_self, cond_true, specLess, implLess _ _ _ w hf.1 hf.2, Option.bind_some, df (show ¬ k = 0 by omega), dt t0, dt (show Int.tmod p k < (x3.length : Int) by omega)]
     cases (x1.getD p.toNat (0, [], false)).2.2 with
     | true => exact same
     | false =>
       cases lessB (x1.getD p.toNat (0, [], false)).1 w with
       | false => exact same
       | true =>
         cases w with
         | true => exact want_ask x0 hn h hp.1 hp.2 2 (msg_ask 2 p (.inr rfl) hp.1 hp.2) _ _ rfl rfl
         | false => exact want_ask x0 hn h hp.1 hp.2 1 (msg_ask 1 p (.inl rfl) hp.1 hp.2) _ _ rfl rfl
theorem specDo {x0 : Int} {x1 : List NodeT} {x2 : List PacketT} (g : gW x0 x1 x2) (kind a b c : Int) : DoR x0 x1 (f_spec_l6Do x0 x1 x2 kind a b c) := by
 have k0 := g.2.k
 obtain ⟨y1, y2, s, h1, h2, h3⟩ := specNet g kind a b c
 unfold f_spec_l6Do
 simp only [h1, Option.bind_some, in_rng2, wz (x0 - 1) (by omega)]
 by_cases k3 : kind = 3
 · simp only [dt k3, cond_true]; exact doR h2 h3 s
 by_cases k4 : kind = 4
 · simp only [df k3, dt k4, cond_false, cond_true]; exact doR h2 h3 s
 by_cases k5 : kind = 5
 · simp only [df k3, df k4, dt k5, cond_false, cond_true]; exact doR h2 h3 s
 simp only [df k3, df k4, df k5, cond_false]
 cases hr : rng2 0 a (x0 - 1) with
 | false => exact doR g (fun h => h) 2
 | true =>
   unfold rng2 at hr
   simp only [Bool.and_eq_true, decide_eq_true_eq] at hr
   obtain ⟨a0, a1⟩ := hr
   obtain ⟨n0, n1, n2, q⟩ := gNode g a a0 a1
   simp only [Bool.not_true, cond_false]
   by_cases k6 : kind = 6
   · simp only [dt k6, Bool.not_true, cond_false, dt a0, dt n0, Bool.and_self, cond_true]
     obtain ⟨r, h1, -, h3, h4, -⟩ := good_want (x1.getD a.toNat (0, [], [], [], [])).1 (x1.getD a.toNat (0, [], [], [], [])).2.1 (x1.getD a.toNat (0, [], [], [], [])).2.2.1 (x1.getD a.toNat (0, [], [], [], [])).2.2.2.1 (x1.getD a.toNat (0, [], [], [], [])).2.2.2.2 x0 b (decide (c = 1)) n2
     rw [h1, Option.bind_some]
     cases hr : r.2.2.2.2.2 with
     | false => exact doR g (fun h => h) 3
     | true =>
       obtain ⟨-, f, h5, -⟩ := h4 hr
       rw [q.a] at f
       simp only [Bool.not_true, cond_false, Option.bind_some]
       refine doR (gW_set g a a0 (r.1, r.2.1, r.2.2.1, r.2.2.2.1, r.2.2.2.2.1) h3 f) (fun si e he => ?_) 0
       rcases mem_set he with rfl | he
       · show ∀ h ∈ r.2.2.1, siH h
         rw [h5]
         exact si _ n1
       · exact si e he
   · obtain ⟨y1, y2, s, h1, h2, h3⟩ := specLine g kind a b c a0 a1
     simp only [df k6, Bool.not_false, cond_true, h1, Option.bind_some]
     exact doR h2 h3 s
/-- A deed in a right world leaves a right world; what is no deed leaves none. -/
theorem specWorldDo {x0 : Int} {x1 : List NodeT} {x2 : List PacketT} (g : gW x0 x1 x2) (kind a b c : Int) : ∃ z0 y1 y2 s, f_spec_WorldDo x0 x1 x2 kind a b c = some (z0, y1, y2, s) ∧ (s = 0 → z0 = x0 ∧ gW x0 y1 y2 ∧ (siW x1 → siW y1)) := by
 unfold f_spec_WorldDo
 simp only [specWorldOk x0 x1 x2 g.1, worldOk_of g.2, in_rng2, Option.bind_some, Bool.not_true, cond_false, specWorldCopy x0 x1 x2 g.1]
 cases rng2 1 kind 6 with
 | false => exact ⟨0, [], [], 1, rfl, fun h => absurd h (by decide)⟩
 | true =>
   obtain ⟨y1, y2, s, h1, h2, h3⟩ := specDo g kind a b c
   simp only [Bool.not_true, cond_false, h1, Option.bind_some]
   by_cases hs : s = 0
   · simp only [dt hs, Bool.not_true, cond_false]
     exact ⟨x0, y1, y2, s, rfl, fun _ => ⟨rfl, h2, h3⟩⟩
   · simp only [df hs, Bool.not_false, cond_true]
     exact ⟨x0, x1, x2, s, rfl, fun h => absurd h hs⟩
/-- A deed is drawn, whatever the world. -/
theorem drawDeed (x : List Int) (hn : x.length ≤ 1048576) (p s k : Int) (y1 : List NodeT) (y2 : List PacketT) (hp : 0 ≤ p) : ∃ a b c d p' s', f_spec_l6DrawDeed x p s k y1 y2 = some (a, b, c, d, p', s') ∧ 0 ≤ p' := by
 have max : ∀ a b, ∃ m, f_spec_l1Max a b = some m := fun a b => by
   unfold f_spec_l1Max
   cases decide (b < a) <;> exact ⟨_, rfl⟩
 unfold f_spec_l6DrawDeed
 obtain ⟨m, em⟩ := max k 1
 obtain ⟨ml, el⟩ := max (y2.length : Int) 1
 obtain ⟨r1, p1, s1, e1, q1, r10, -, -⟩ := draw_below x hn p s m hp
 obtain ⟨r2, p2, s2, e2, q2, -⟩ := draw_below x hn p1 s1 12 q1
 obtain ⟨r3, p3, s3, e3, q3, -⟩ := draw_below x hn p2 s2 3 q2
 obtain ⟨r4, p4, s4, e4, q4, -⟩ := draw_below x hn p3 s3 2 q3
 obtain ⟨r5, p5, s5, e5, q5, -⟩ := draw_below x hn p2 s2 m q2
 obtain ⟨b6, p6, s6, e6, q6⟩ := draw_once x hn p2 s2 2 q2
 obtain ⟨r7, p7, s7, e7, q7, -⟩ := draw_below x hn p6 s6 ml q6
 obtain ⟨r8, p8, s8, e8, q8, -⟩ := draw_below x hn p2 s2 ml q2
 have loop : ∀ (d n : Nat) (i j p s : Int), 0 ≤ i → 4 - i = d → d < n → 0 ≤ j → 0 ≤ p → ∃ p' s', 0 ≤ p' ∧ ((∃ a b c d, f_spec_l6DrawDeed.l0 n m j i x p s k y1 y2 0 0 0 0 = some (.inl (x, p', s', a, b, c, d))) ∨ f_spec_l6DrawDeed.l0 n m j i x p s k y1 y2 0 0 0 0 = some (.inr (x, p', s', 0, 0, 0, 0))) := by
   intro d
   induction d with
   | zero =>
     intro n i j p s i0 hd hk j0 hp
     obtain ⟨n, rfl⟩ := succ_fuel hk
     simp only [f_spec_l6DrawDeed.l0, df (show ¬ i < 4 by omega), cond_false]
     exact ⟨p, s, hp, .inr rfl⟩
   | succ d ih =>
     intro n i j p s i0 hd hk j0 hp
     obtain ⟨n, rfl⟩ := succ_fuel hk
     obtain ⟨a, p1, s1, e1, q1, a0, -⟩ := draw_below x hn p s m hp
     obtain ⟨b, p2, s2, e2, q2, b0, -⟩ := draw_below x hn p1 s1 m q1
     have go := ih n (i + 1) b p2 s2 (by omega) (by omega) (by omega) b0 q2
     simp only [f_spec_l6DrawDeed.l0, dt (show i < 4 by omega), cond_true, e1, Option.bind_some, e2, wz (i + 1) (by omega), dt j0, dt a0, Bool.true_and]
     cases hj : decide (j < (y1.length : Int)) with
     | false => simp only [cond_false]; exact go
     | true =>
       simp only [cond_true]
       cases ha : decide (a < (((y1.getD j.toNat (0, [], [], [], [])).2.2.2.1).length : Int)) with
       | false => simp only [cond_false]; exact go
       | true =>
         simp only [cond_true]
         cases hl : decide ((0 : Int) < (((((y1.getD j.toNat (0, [], [], [], [])).2.2.2.1).getD a.toNat (0, [])).2).length : Int)) with
         | false => simp only [cond_false]; exact go
         | true =>
           obtain ⟨c, p3, s3, e3, q3, -⟩ := draw_below x hn p1 s1 (((((y1.getD j.toNat (0, [], [], [], [])).2.2.2.1).getD a.toNat (0, [])).2).length : Int) q1
           simp only [cond_true, e3, Option.bind_some]
           exact ⟨p3, s3, q3, .inl ⟨_, _, _, _, rfl⟩⟩
 simp only [em, el, e1, e2, e3, e4, e5, e6, e7, e8, Option.bind_some]
 cases decide (r2 = 0) with
 | true => exact ⟨_, _, _, _, _, _, rfl, q4⟩
 | false =>
 cases decide (r2 = 1) with
 | true => exact ⟨_, _, _, _, _, _, rfl, q4⟩
 | false =>
 cases decide (r2 = 2) with
 | true => exact ⟨_, _, _, _, _, _, rfl, q4⟩
 | false =>
 cases decide (r2 = 3) with
 | true => exact ⟨_, _, _, _, _, _, rfl, q5⟩
 | false =>
 cases decide (r2 = 4) with
 | true => cases b6 <;> exact ⟨_, _, _, _, _, _, rfl, q7⟩
 | false =>
 cases decide (r2 = 5) with
 | true => exact ⟨_, _, _, _, _, _, rfl, q8⟩
 | false =>
 cases decide (r2 = 6) with
 | true => exact ⟨_, _, _, _, _, _, rfl, q8⟩
 | false =>
 cases decide (r2 = 7) with
 | true => exact ⟨_, _, _, _, _, _, rfl, q8⟩
 | false =>
 cases decide (r2 = 8) with
 | true => exact ⟨_, _, _, _, _, _, rfl, q8⟩
 | false =>
   obtain ⟨p', s', hp', h⟩ := loop 4 N 0 r1 p2 s2 (by omega) (by omega) (Nat.lt_trans (by omega) big) r10 q2
   rcases h with ⟨a, b, c, d, h⟩ | h
   · simp only [cond_false, h, Option.bind_some, cs]; exact ⟨_, _, _, _, _, _, rfl, hp'⟩
   · simp only [cond_false, h, Option.bind_some, cs]; exact ⟨_, _, _, _, _, _, rfl, hp'⟩
theorem new_gW (k : Nat) (h1 : 1 ≤ k) (h4 : k ≤ 4) : gW (k : Int) ((List.range k).map (nodeAt k)) [] ∧ siW ((List.range k).map (nodeAt k)) := by
 have hw := worldNew_ok (k : Int)
 unfold worldNewB at hw
 rw [if_pos (by omega)] at hw
 obtain ⟨-, -, hn, -⟩ := hw
 have hn : ∀ e ∈ (List.range k).map (nodeAt k), okNode e := hn
 have tF0 : tF (0, [], false) = true := rfl
 have tH0 : tH (k : Int) (homeNew (k : Int)) = true := by
   rcases (show k = 1 ∨ k = 2 ∨ k = 3 ∨ k = 4 by omega) with rfl | rfl | rfl | rfl <;> decide
 have tS0 : tS (0, []) = true := tS_of 0 [] (by simp) (fun e he => by cases he) (by omega) (by simp) rfl
 refine ⟨⟨⟨by simp; omega, by simp, hn, fun e he => by cases he⟩, ⟨⟨by omega, by omega⟩, by simp, by simp, fun j hj => ?_, fun e he => by cases he⟩⟩, fun e he h hh => ?_⟩
 · have hj : j < k := by simpa using hj
   rw [List.getElem_map, List.getElem_range]
   refine ⟨rfl, by simp [nodeAt], by simp [nodeAt], by simp [nodeAt], by simp [nodeAt], fun g hg => ?_, fun g hg => ?_, fun g hg => ?_, fun g hg => ?_⟩
   · rw [List.eq_of_mem_replicate hg]; exact tF0
   · rw [List.eq_of_mem_replicate hg]; exact tH0
   · rw [List.eq_of_mem_replicate hg]; exact tS0
   · rw [List.eq_of_mem_replicate hg]; omega
 · obtain ⟨j, -, rfl⟩ := List.mem_map.1 he
   rw [List.eq_of_mem_replicate hh]
   exact ⟨fun h => absurd h (by show ¬ (0 : Int) ≤ -1; omega), fun h => (by cases h), fun _ => rfl⟩
theorem right_l1 (x : List Int) (hn : x.length ≤ 1048576) (m : Int) (hm : m ≤ 100) (a b c e k : Int) (j1 : List NodeT) (j2 : List PacketT) (j3 : List NodeT) (j4 : List PacketT) (j5 : List NodeT) (j6 : List PacketT) : ∀ (d n : Nat) (i p s : Int) (z : List (Int × Int × Int × Int)) (y1 : List NodeT) (y2 : List PacketT), 0 ≤ i → m - i ≤ d → d < n → 0 ≤ p → (z.length : Int) ≤ i → i ≤ 101 → gW k y1 y2 → siW y1 →
   ∃ p' s' z' v1 v2, f_spec_l6DrawRight.l1 n m i x p s a b c e k z j1 j2 j3 j4 j5 j6 y1 y2 = some (x, p', s', a, b, c, e, k, z', j1, j2, j3, j4, j5, j6, v1, v2) ∧ 0 ≤ p' ∧ gW k v1 v2 ∧ siW v1 := by
 intro d
 induction d with
 | zero =>
   intro n i p s z y1 y2 i0 hd hk hp hz hi g si
   obtain ⟨n, rfl⟩ := succ_fuel hk
   simp only [f_spec_l6DrawRight.l1, df (show ¬ i < m by omega), cond_false]
   exact ⟨p, s, z, y1, y2, rfl, hp, g, si⟩
 | succ d ih =>
   intro n i p s z y1 y2 i0 hd hk hp hz hi g si
   obtain ⟨n, rfl⟩ := succ_fuel hk
   by_cases h : i < m
   · obtain ⟨da, db, dc, dd, p1, s1, e1, q1⟩ := drawDeed x hn p s k y1 y2 hp
     obtain ⟨z0, v1, v2, st, e2, e3⟩ := specWorldDo g da db dc dd
     simp only [f_spec_l6DrawRight.l1, dt h, cond_true, e1, Option.bind_some, List.length_singleton, (blt_iff _ _).2 (show z.length + 1 < 4398046511104 by omega), e2, wz (i + 1) (by omega)]
     by_cases hs : st = 0
     · obtain ⟨rfl, g2, si2⟩ := e3 hs
       simp only [dt hs, cond_true]
       exact ih n (i + 1) p1 s1 _ v1 v2 (by omega) (by omega) (by omega) q1 (by rw [List.length_append, List.length_singleton]; omega) (by omega) g2 (si2 si)
     · simp only [df hs, cond_false]
       exact ih n (i + 1) p1 s1 _ y1 y2 (by omega) (by omega) (by omega) q1 (by rw [List.length_append, List.length_singleton]; omega) (by omega) g si
   · simp only [f_spec_l6DrawRight.l1, df h, cond_false]
     exact ⟨p, s, z, y1, y2, rfl, hp, g, si⟩
theorem right_l0 (x : List Int) (hn : x.length ≤ 1048576) (m : Int) (hm : m ≤ 100) (a b c e k : Int) (j1 : List NodeT) (j2 : List PacketT) (j3 : List NodeT) (j4 : List PacketT) (y1 : List NodeT) (y2 : List PacketT) (g : gW k y1 y2) (si : siW y1) : ∀ (d n : Nat) (i p s : Int) (z : List (Int × Int × Int × Int)), 0 ≤ i → m - i ≤ d → d < n → 0 ≤ p → (z.length : Int) ≤ i → i ≤ 101 →
   ∃ p' s' z', 0 ≤ p' ∧ ((∃ i' v1 v2, 0 ≤ i' ∧ i' ≤ 101 ∧ (z'.length : Int) ≤ i' ∧ gW k v1 v2 ∧ siW v1 ∧ f_spec_l6DrawRight.l0 n m i x p s a b c e k z j1 j2 j3 j4 y1 y2 = some (.inl (m, i', x, p', s', a, b, c, e, k, z', j1, j2, j3, j4, y1, y2, v1, v2))) ∨
     f_spec_l6DrawRight.l0 n m i x p s a b c e k z j1 j2 j3 j4 y1 y2 = some (.inr (x, p', s', a, b, c, e, k, z', j1, j2, j3, j4, y1, y2))) := by
 intro d
 induction d with
 | zero =>
   intro n i p s z i0 hd hk hp hz hi
   obtain ⟨n, rfl⟩ := succ_fuel hk
   simp only [f_spec_l6DrawRight.l0, df (show ¬ i < m by omega), cond_false]
   exact ⟨p, s, z, hp, .inr rfl⟩
 | succ d ih =>
   intro n i p s z i0 hd hk hp hz hi
   obtain ⟨n, rfl⟩ := succ_fuel hk
   by_cases h : i < m
   · obtain ⟨da, db, dc, dd, p1, s1, e1, q1⟩ := drawDeed x hn p s k y1 y2 hp
     obtain ⟨z0, v1, v2, st, e2, e3⟩ := specWorldDo g da db dc dd
     simp only [f_spec_l6DrawRight.l0, dt h, cond_true, e1, Option.bind_some, List.length_singleton, (blt_iff _ _).2 (show z.length + 1 < 4398046511104 by omega), e2, wz (i + 1) (by omega)]
     by_cases hs : st = 0
     · obtain ⟨rfl, g2, si2⟩ := e3 hs
       simp only [dt hs, cond_true]
       exact ⟨p1, s1, _, q1, .inl ⟨i + 1, v1, v2, by omega, by omega, by rw [List.length_append, List.length_singleton]; omega, g2, si2 si, rfl⟩⟩
     · simp only [df hs, cond_false]
       exact ih n (i + 1) p1 s1 _ (by omega) (by omega) (by omega) q1 (by rw [List.length_append, List.length_singleton]; omega) (by omega)
   · simp only [f_spec_l6DrawRight.l0, df h, cond_false]
     exact ⟨p, s, z, hp, .inr rfl⟩
/-- A drawn world that is right. -/
theorem drawRight6 (x : List Int) (hn : x.length ≤ 1048576) (p s : Int) (hp : 0 ≤ p) : ∃ k y1 y2 p' s', f_spec_l6DrawRight x p s = some (k, y1, y2, p', s') ∧ 0 ≤ p' ∧ gW k y1 y2 ∧ siW y1 ∧ k ≤ 3 := by
 unfold f_spec_l6DrawRight
 obtain ⟨r, p1, s1, e1, q1, r0, r1, -⟩ := draw_below x hn p s 3 hp
 have r1 := r1 (by omega)
 obtain ⟨m, p2, s2, e2, q2, m0, m1, -⟩ := draw_below x hn p1 s1 51 q1
 have m1 := m1 (by omega)
 obtain ⟨k, hk⟩ : ∃ k : Nat, 1 + r = (k : Int) := ⟨(1 + r).toNat, by omega⟩
 obtain ⟨g, si⟩ := new_gW k (by omega) (by omega)
 have hw : worldNewB (k : Int) = ((k : Int), (List.range k).map (nodeAt k), [], true) := by
   unfold worldNewB
   rw [if_pos (by omega)]
   rfl
 have ew : IntKind.wrap .i64 (1 + r) = (k : Int) := by rw [wz (1 + r) (by omega)]; exact hk
 simp only [e1, Option.bind_some, ew, specWorldNew, hw, e2]
 obtain ⟨p3, s3, z3, q3, ⟨i', v1, v2, i0, i1, hz, g2, si2, h⟩ | h⟩ := right_l0 x hn m (by omega) 0 0 0 (k : Int) (k : Int) [] [] [] [] _ _ g si 51 N 0 p2 s2 [] (by omega) (by omega) (Nat.lt_trans (by omega) big) q2 (by simp) (by omega)
 · obtain ⟨p4, s4, z4, w1, w2, h', q4, g3, si3⟩ := right_l1 x hn m (by omega) 0 0 0 (k : Int) (k : Int) [] [] [] [] ((List.range k).map (nodeAt k)) [] 100 N i' p3 s3 z3 v1 v2 i0 (by omega) (Nat.lt_trans (by omega) big) q3 hz i1 g2 si2
   simp only [h, Option.bind_some, cs, h']
   exact ⟨_, _, _, _, _, rfl, q4, g3, si3, by omega⟩
 · simp only [h, Option.bind_some, cs]
   exact ⟨_, _, _, _, _, rfl, q3, g, si, by omega⟩
def nbW (x1 : List NodeT) : Prop := ∀ e ∈ x1, ∀ h ∈ e.2.2.1, nbH h
/-- A drawn world, right or not. -/
theorem draw6 (x : List Int) (hn : x.length ≤ 1048576) (p s : Int) (hp : 0 ≤ p) : ∃ k y1 y2 p' s', f_spec_l6Draw x p s = some (k, y1, y2, p', s') ∧ 0 ≤ p' ∧ WorldK y1 y2 ∧ nbW y1 := by
 unfold f_spec_l6Draw
 obtain ⟨k, y1, y2, p1, s1, e1, q1, g, si, k3⟩ := drawRight6 x hn p s hp
 obtain ⟨a, p2, s2, e2, q2, -⟩ := draw_below x hn p1 s1 18 q1
 obtain ⟨r3, p3, s3, e3, q3, -⟩ := draw_below x hn p2 s2 6 q2
 obtain ⟨f1, f2, f3, p4, s4, e4, q4, lf⟩ := drawFrame x hn p2 s2 q2
 obtain ⟨r5, p5, s5, e5, q5, -⟩ := draw_below x hn p2 s2 4 q2
 obtain ⟨a6, b6, c6, w6, p6, s6, e6, q6, l6⟩ := drawMsg x hn p5 s5 q5
 obtain ⟨h7, p7, s7, e7, q7, nb7, hs7⟩ := draw4 x hn p2 s2 q2
 have k0 := g.2.k
 have hl1 := g.2.l1
 have hl2 := g.2.l2
 have nb : nbW y1 := fun e he h hh => si_nb (si e he h hh)
 obtain ⟨n0, n1, n2, q⟩ : (0 : Int) < (y1.length : Int) ∧ y1.getD 0 (0, [], [], [], []) ∈ y1 ∧ okNode (y1.getD 0 (0, [], [], [], [])) ∧ NodeFacts (y1.getD 0 (0, [], [], [], [])) k 0 := gNode g 0 (by omega) (by omega)
 have l1 := q.l1
 have l2 := q.l2
 have l4 := q.l4
 have set1 : ∀ e : NodeT, okNode e → WorldK (y1.set 0 e) y2 := fun e he => ⟨by rw [List.length_set]; exact g.1.l1, g.1.l2, fun f hf => by
   rcases mem_set hf with rfl | hf
   · exact he
   · exact g.1.e1 f hf, g.1.e2⟩
 rw [e1, Option.bind_some]
 simp only [e2, Option.bind_some]
 cases decide (a = 0) with
 | true => simp only [cond_true, e3, Option.bind_some]; exact ⟨_, _, _, _, _, rfl, q3, g.1, nb⟩
 | false =>
 cases decide (a = 1) with
 | true =>
   simp only [cond_true, cond_false, dt n0, e4, Option.bind_some, dt (show (0 : Int) < ((y1.getD 0 (0, [], [], [], [])).2.1.length : Int) by omega)]
   refine ⟨_, _, _, _, _, rfl, q4, set1 _ ⟨by rw [List.length_set]; exact n2.l1, n2.l2, n2.l3, n2.l4, fun e he => ?_, n2.e2, n2.e3⟩, fun e he h hh => ?_⟩
   · rcases mem_set he with rfl | he
     · show f2.length ≤ _; omega
     · exact n2.e1 e he
   · rcases mem_set he with rfl | he
     · exact nb _ n1 h hh
     · exact nb e he h hh
 | false =>
 cases decide (a = 2) with
 | true =>
   simp only [cond_true, cond_false, e5, e6, Option.bind_some, List.length_singleton, (blt_iff _ _).2 (show y2.length + 1 < 1759218604441 by omega)]
   refine ⟨_, _, _, _, _, rfl, q6, ⟨g.1.l1, by rw [List.length_append, List.length_singleton]; omega, g.1.e1, fun e he => ?_⟩, nb⟩
   rcases List.mem_append.1 he with he | he
   · exact g.1.e2 e he
   · rw [List.mem_singleton.1 he]; show w6.length ≤ _; omega
 | false =>
 cases decide (a = 3) with
 | true =>
   simp only [cond_true, cond_false, dt n0, e7, Option.bind_some, dt (show (0 : Int) < ((y1.getD 0 (0, [], [], [], [])).2.2.1.length : Int) by omega)]
   refine ⟨_, _, _, _, _, rfl, q7, set1 _ ⟨n2.l1, by rw [List.length_set]; exact n2.l2, n2.l3, n2.l4, n2.e1, fun e he => ?_, n2.e3⟩, fun e he h hh => ?_⟩
   · rcases mem_set he with rfl | he
     · exact hs7
     · exact n2.e2 e he
   · rcases mem_set he with rfl | he
     · rcases mem_set hh with rfl | hh
       · exact nb7
       · exact nb _ n1 h hh
     · exact nb e he h hh
 | false =>
 cases decide (a = 4) with
 | true =>
   simp only [cond_true, cond_false, dt n0, Option.bind_some, dt (show (0 : Int) < ((y1.getD 0 (0, [], [], [], [])).2.2.2.2.length : Int) by omega)]
   refine ⟨_, _, _, _, _, rfl, q2, set1 _ ⟨n2.l1, n2.l2, n2.l3, by rw [List.length_set]; exact n2.l4, n2.e1, n2.e2, n2.e3⟩, fun e he h hh => ?_⟩
   rcases mem_set he with rfl | he
   · exact nb _ n1 h hh
   · exact nb e he h hh
 | false =>
   simp only [cond_false]
   exact ⟨_, _, _, _, _, rfl, q2, g.1, nb⟩
theorem sameNode_self (e : NodeT) (h : okNode e) : f_laws_sameNode e.1 e.2.1 e.2.2.1 e.2.2.2.1 e.2.2.2.2 e.1 e.2.1 e.2.2.1 e.2.2.2.1 e.2.2.2.2 = some true := by
 obtain ⟨x0, x1, x2, x3, x4⟩ := e
 have g1 : x1.length ≤ 1048576 := h.l1
 have g2 : x2.length ≤ 1048576 := h.l2
 have g3 : x3.length ≤ 1048576 := h.l3
 have g4 : x4.length ≤ 1048576 := h.l4
 have l0 := ix_loop (F := fun n i => f_laws_sameNode.l0 n false i x0 x1 x2 x3 x4 x0 x1 x2 x3 x4) (q := fun _ => true) (b := (false, x0, x1, x2, x3, x4, x0, x1, x2, x3, x4)) x1.length g1
   (fun n => by simp only [f_laws_sameNode.l0, df (show ¬ (x1.length : Int) < (x1.length : Int) by omega), cond_false])
   (fun n i a0 a1 => by
     have hw : (x1.getD i.toNat (0, [], false)).2.1.length ≤ 1048576 := h.e1 _ (mem_getD x1 (0, [], false) i a0 a1)
     simp only [f_laws_sameNode.l0, dt a0, dt a1, cond_true, Bool.and_self, decide_true, beq_self_eq_true, Bool.not_true, cond_false, sameInts _ hw, Option.bind_some, wz (i + 1) (by omega)])
 have l1 := ix_loop (F := fun n i => f_laws_sameNode.l1 n false i x0 x1 x2 x3 x4 x0 x1 x2 x3 x4) (q := fun _ => true) (b := (false, x0, x1, x2, x3, x4, x0, x1, x2, x3, x4)) x2.length g2
   (fun n => by simp only [f_laws_sameNode.l1, df (show ¬ (x2.length : Int) < (x2.length : Int) by omega), cond_false])
   (fun n i a0 a1 => by
     have hw := sameHome_self (x2.getD i.toNat ([], 0, [], false, 0, false, 0, [])) (h.e2 _ (mem_getD x2 ([], 0, [], false, 0, false, 0, []) i a0 a1))
     simp only [f_laws_sameNode.l1, dt a0, dt a1, cond_true, Bool.and_self, Bool.not_true, cond_false, hw, Option.bind_some, wz (i + 1) (by omega)])
 have l2 := ix_loop (F := fun n i => f_laws_sameNode.l2 n false i x0 x1 x2 x3 x4 x0 x1 x2 x3 x4) (q := fun _ => true) (b := false) x3.length g3
   (fun n => by simp only [f_laws_sameNode.l2, df (show ¬ (x3.length : Int) < (x3.length : Int) by omega), cond_false])
   (fun n i a0 a1 => by
     simp only [f_laws_sameNode.l2, dt a0, dt a1, cond_true, Bool.and_self, decide_true, Bool.not_true, cond_false, Bool.true_and, wz (i + 1) (by omega)]
     cases decide (i < (x4.length : Int)) <;> rfl)
 rw [all_true, cond_true] at l0 l1 l2
 unfold f_laws_sameNode
 simp only [decide_true, Bool.not_true, cond_false, l0, l1, l2, Option.bind_some, cs]
theorem imsg_copy (k p : Int) (c : Bool) (w : List Int) (h : w.length ≤ 1048576) : f_impl_copyMsg k p c w = some (k, p, c, w) := by
 unfold f_impl_copyMsg f_slices_Clone_int_int
 simp only [Nat.zero_add, (blt_iff _ _).2 (show w.length < 17592186044416 by omega), cond_true, Option.bind_some]
theorem ipacket_copy (a b : Int) (c : Bool) (d k p : Int) (f : Bool) (w : List Int) (h : w.length ≤ 1048576) : f_impl_copyPacket a b c d k p f w = some (a, b, c, d, k, p, f, w) := by
 unfold f_impl_copyPacket
 rw [imsg_copy _ _ _ _ h]
 rfl
theorem implWorldCopy (x0 : Int) (x1 : List NodeT) (x2 : List PacketT) (h : WorldK x1 x2) : f_impl_copyWorld x0 x1 x2 = some (x0, x1, x2) := by
 unfold f_impl_copyWorld
 have c1 := cp_gen (d := ((0 : Int), ([] : List FrameT), ([] : List HomeT), ([] : List SenderT), ([] : List Int))) (F := fun n i y => f_impl_copyWorld.l0 n x1 (x1.length : Int) i x0 x1 x2 0 x0 [] [] y []) (R := fun y => (x0, x1, x2, (0 : Int), x0, ([] : List NodeT), ([] : List PacketT), y, ([] : List PacketT))) x1 h.l1 (fun n i y hi => by simp only [f_impl_copyWorld.l0, df hi, cond_false])
   (fun n i y a0 a1 hm hy => by
     have hk : okNode (x1.getD i.toNat (0, [], [], [], [])) := h.e1 _ hm
     have hl := h.l1
     simp only [f_impl_copyWorld.l0, implNodeCopy _ _ _ _ _ hk, dt a0, dt a1, cond_true, Bool.and_self, Option.bind_some, List.length_singleton, (blt_iff _ _).2 (show y.length + 1 < 1353245080339 by omega), wz (i + 1) (by omega)])
 have c2 := cp_gen (d := ((0 : Int), (0 : Int), false, (0 : Int), (0 : Int), (0 : Int), false, ([] : List Int))) (F := fun n i y => f_impl_copyWorld.l1 n x2 (x2.length : Int) i 0 x0 [] [] x1 y) (R := fun y => ((0 : Int), x0, ([] : List NodeT), ([] : List PacketT), x1, y)) x2 h.l2 (fun n i y hi => by simp only [f_impl_copyWorld.l1, df hi, cond_false])
   (fun n i y a0 a1 hm hy => by
     have hk : (x2.getD i.toNat (0, 0, false, 0, 0, 0, false, [])).2.2.2.2.2.2.2.length ≤ 1048576 := h.e2 _ hm
     have hl := h.l2
     simp only [f_impl_copyWorld.l1, ipacket_copy _ _ _ _ _ _ _ _ hk, dt a0, dt a1, cond_true, Bool.and_self, Option.bind_some, List.length_singleton, (blt_iff _ _).2 (show y.length + 1 < 1759218604441 by omega), wz (i + 1) (by omega)])
 simp only [c1, c2, Option.bind_some]
theorem implAckedS {c : SenderT} (h : gS c) (n : Int) : f_impl_Acked c.1 c.2 n = some (ackedB c.1 c.2 (tS c) n) :=
 implAcked c.1 c.2 n h.1.1 h.1.2 _ (tS_eq c h.1).1 (tS_eq c h.1).2
/-- What a packet does that is taken out of the net, of both. -/
theorem both_give {x0 : Int} {x1 : List NodeT} {x2 n2 : List PacketT} (g : gW x0 x1 n2) (i : Int) (i0 : 0 ≤ i) (i1 : i < (x2.length : Int)) (hl2 : x2.length ≤ 1048576) (hn2 : n2 = x2.take i.toNat ++ x2.drop (i + 1).toNat) (hk : okPacket (x2.getD i.toNat (0, 0, false, 0, 0, 0, false, []))) (p : PacketFacts x0 (x2.getD i.toNat (0, 0, false, 0, 0, 0, false, []))) (nb : nbW x1) :
   ∃ y1, f_spec_l6Give x0 x1 n2 (x2.getD i.toNat (0, 0, false, 0, 0, 0, false, [])).1 (x2.getD i.toNat (0, 0, false, 0, 0, 0, false, [])).2.1 (x2.getD i.toNat (0, 0, false, 0, 0, 0, false, [])).2.2.1 (x2.getD i.toNat (0, 0, false, 0, 0, 0, false, [])).2.2.2.1 (x2.getD i.toNat (0, 0, false, 0, 0, 0, false, [])).2.2.2.2.1 (x2.getD i.toNat (0, 0, false, 0, 0, 0, false, [])).2.2.2.2.2.1 (x2.getD i.toNat (0, 0, false, 0, 0, 0, false, [])).2.2.2.2.2.2.1 (x2.getD i.toNat (0, 0, false, 0, 0, 0, false, [])).2.2.2.2.2.2.2 = some (x0, y1, n2) ∧
     ∃ q1 q2 q3 q4 q5 q6 q7 q8 q9, f_impl_World_give x0 x1 x2 i = some (q1, q2, q3, q4, q5, q6, q7, q8, q9, x0, y1, n2) := by
 unfold f_spec_l6Give f_impl_World_give
 simp only [dt i0, dt i1, wz (i + 1) (by omega), dt (show i ≤ i + 1 by omega), dt (show i + 1 ≤ (x2.length : Int) by omega), dt (show i < i + 1 by omega), dt (Int.le_refl i), Bool.and_self, cond_true, Option.bind_some, ← hn2]
 generalize x2.getD i.toNat (0, 0, false, 0, 0, 0, false, []) = e at hk p ⊢
 obtain ⟨a, b, k, s, kind, pg, c, ws⟩ := e
 obtain ⟨⟨a0, a1⟩, ⟨b0, b1⟩, ⟨s0, s1⟩, pm, pn⟩ := p
 simp only at a0 a1 b0 b1 s0 s1 pm pn
 have hw : ws.length ≤ 1048576 := hk
 obtain ⟨n0, n1, n2', q⟩ := gNode g b b0 b1
 have l3 := q.l3
 have l4 := q.l4
 simp only [dt b0, dt n0, Bool.and_self, cond_true]
 cases k with
 | true =>
   have hm := mem_getD (x1.getD b.toNat (0, [], [], [], [])).2.2.2.1 (0, []) a a0 (by omega)
   have hs : gS ((x1.getD b.toNat (0, [], [], [], [])).2.2.2.1.getD a.toNat (0, [])) := ⟨n2'.e3 _ hm, q.s _ hm⟩
   obtain ⟨g1, g2⟩ := gS_acked hs s
   have g3 := implAckedS hs s
   have hb : b.toNat < x1.length := by omega
   simp only [cond_true, dt a0, dt (show a < ((x1.getD b.toNat (0, [], [], [], [])).2.2.2.1.length : Int) by omega), Bool.and_self, g2, g3, Option.bind_some, List.length_set, dt n0, dt b0, decide_true, getD_set _ _ _ _ hb, List.set_set]
   exact ⟨_, rfl, _, _, _, _, _, _, _, _, _, rfl⟩
 | false =>
   simp only [cond_false, dt a0, dt (show a < ((x1.getD b.toNat (0, [], [], [], [])).2.2.2.2.length : Int) by omega), Bool.and_self, cond_true, specArrived, implArrived, Option.bind_some]
   cases ha : (arrB ((x1.getD b.toNat (0, [], [], [], [])).2.2.2.2.getD a.toNat 0) s).2 with
   | false => exact ⟨x1, rfl, _, _, _, _, _, _, _, _, _, rfl⟩
   | true =>
     simp only [Bool.not_true, cond_false]
     obtain ⟨r, h1, h2, h3, h4, -⟩ := same_nodeHear (x1.getD b.toNat (0, [], [], [], [])).1 (x1.getD b.toNat (0, [], [], [], [])).2.1 (x1.getD b.toNat (0, [], [], [], [])).2.2.1 (x1.getD b.toNat (0, [], [], [], [])).2.2.2.1 (x1.getD b.toNat (0, [], [], [], [])).2.2.2.2 x0 a kind pg c ws n2' hw
     have h2 := h2 (nb _ n1)
     simp only [h1, h2, Option.bind_some]
     cases hr : r.2.2.2.2.2 with
     | false => exact ⟨x1, rfl, _, _, _, _, _, _, _, _, _, rfl⟩
     | true =>
       obtain ⟨-, f, h5, h6⟩ := h4 hr
       simp only [cond_true, h5, dt (show a < ((x1.getD b.toNat (0, [], [], [], [])).2.2.2.2.length : Int) by omega), dt n0, dt b0, dt a0, Bool.and_self, Option.bind_some]
       exact ⟨_, rfl, _, _, _, _, _, _, _, _, _, rfl⟩
def BothR (x0 : Int) (f : Option (Int × List NodeT × List PacketT × Int)) (nm : Option Bool) (g : Option (Int × Int × List NodeT × List PacketT)) : Prop :=
 ∃ y1 y2 s, s ≠ 1 ∧ f = some (x0, y1, y2, s) ∧ ((nm = some false ∧ s = 2) ∨ (nm = some true ∧ g = some (s, x0, y1, y2)))
theorem both_net {x0 : Int} {x1 : List NodeT} {x2 : List PacketT} (g : gW x0 x1 x2) (nb : nbW x1) (kind a b c : Int) (hk : kind = 3 ∨ kind = 4 ∨ kind = 5) : BothR x0 (f_spec_l6Do x0 x1 x2 kind a b c) (f_impl_named x0 x1 x2 kind a b c) (f_impl_World_do x0 x1 x2 kind a b c) := by
 have hl := g.2.l2
 have hN : f_impl_named x0 x1 x2 kind a b c = some (rng2 0 a ((x2.length : Int) - 1)) := by
   unfold f_impl_named
   simp only [from_rng2, wz ((x2.length : Int) - 1) (by omega), Option.bind_some]
   rcases hk with rfl | rfl | rfl <;> rfl
 have hS : f_spec_l6Do x0 x1 x2 kind a b c = f_spec_l6Net x0 x1 x2 kind a b c := by
   obtain ⟨y1, y2, s, h1, -⟩ := specNet g kind a b c
   unfold f_spec_l6Do
   rw [h1]
   rcases hk with rfl | rfl | rfl <;> rfl
 rw [hN, hS]
 unfold f_spec_l6Net f_impl_World_do
 simp only [in_rng2, wz ((x2.length : Int) - 1) (by omega), Option.bind_some]
 cases hr : rng2 0 a ((x2.length : Int) - 1) with
 | false => exact ⟨x1, x2, 2, by decide, rfl, .inl ⟨rfl, rfl⟩⟩
 | true =>
   unfold rng2 at hr
   simp only [Bool.and_eq_true, decide_eq_true_eq] at hr
   obtain ⟨a0, a1⟩ := hr
   obtain ⟨p1, p2⟩ := packetAt g a a0 (by omega)
   have pf := packetFacts x0 _ p1 p2
   have pl : (x2.getD a.toNat (0, 0, false, 0, 0, 0, false, [])).2.2.2.2.2.2.2.length ≤ 1048576 := p1
   have e1 : ((x2.drop 0).take a.toNat) = x2.take a.toNat := by rw [List.drop_zero]
   have e2 : ((x2.drop (a + 1).toNat).take ((x2.length : Int) - (a + 1)).toNat) = x2.drop (a + 1).toNat := take_drop_all x2 (a + 1) (by omega)
   have t1 : (x2.take a.toNat).length = a.toNat := by rw [List.length_take]; omega
   have t2 : (x2.drop (a + 1).toNat).length = x2.length - (a + 1).toNat := List.length_drop ..
   have gn : gW x0 x1 (x2.take a.toNat ++ x2.drop (a + 1).toNat) := gW_net g (fun f hf => by
     rcases List.mem_append.1 hf with hf | hf
     · have := List.mem_of_mem_take hf
       exact ⟨g.1.e2 f this, g.2.p f this⟩
     · have := List.mem_of_mem_drop hf
       exact ⟨g.1.e2 f this, g.2.p f this⟩) (by rw [List.length_append, t1, t2]; omega)
   simp only [Bool.not_true, cond_false, dt a0, dt (show a < (x2.length : Int) by omega), dt (show a ≤ (x2.length : Int) by omega), Bool.and_self, cond_true, packet_copy _ _ _ _ _ _ _ _ pl, ipacket_copy _ _ _ _ _ _ _ _ pl, Option.bind_some, List.length_singleton, (blt_iff _ _).2 (show x2.length + 1 < 1759218604441 by omega),
     wz (a + 1) (by omega), e1, e2, List.length_nil, List.nil_append, Nat.zero_add, (blt_iff _ _).2 (show (x2.take a.toNat).length < 1759218604441 by omega), (blt_iff _ _).2 (show (x2.take a.toNat).length + (x2.drop (a + 1).toNat).length < 1759218604441 by omega), dt (show 0 ≤ a + 1 by omega), dt (show a + 1 ≤ (x2.length : Int) by omega), dt (show 0 + a ≤ a + 1 by omega), dt (show 0 + a ≤ a by omega), dt (show a < a + 1 by omega), dt (show a ≤ a + 1 by omega), dt (show a + 1 + ((x2.length : Int) - (a + 1)) ≤ (x2.length : Int) by omega)]
   rcases hk with rfl | rfl | rfl
   · obtain ⟨y1, h1, q1, q2, q3, q4, q5, q6, q7, q8, q9, h2⟩ := both_give gn a a0 (by omega) (by omega) rfl p1 pf nb
     simp only [df (show ¬ (3 : Int) = 5 by omega), df (show ¬ (3 : Int) = 4 by omega), df (show ¬ (3 : Int) = 1 by omega), df (show ¬ (3 : Int) = 2 by omega), decide_true, cond_false, cond_true, h1, h2, Option.bind_some]
     exact ⟨y1, _, 0, by decide, rfl, .inr ⟨rfl, rfl⟩⟩
   · exact ⟨x1, _, 0, by decide, rfl, .inr ⟨rfl, rfl⟩⟩
   · by_cases h40 : (x2.length : Int) = 40
     · simp only [dt h40]
       exact ⟨x1, x2, 4, by decide, rfl, .inr ⟨rfl, rfl⟩⟩
     · simp only [df h40]
       exact ⟨x1, _, 0, by decide, rfl, .inr ⟨rfl, rfl⟩⟩
theorem both_line {x0 : Int} {x1 : List NodeT} {x2 : List PacketT} (g : gW x0 x1 x2) (kind a b c : Int) (hk : kind = 1 ∨ kind = 2) : BothR x0 (f_spec_l6Do x0 x1 x2 kind a b c) (f_impl_named x0 x1 x2 kind a b c) (f_impl_World_do x0 x1 x2 kind a b c) := by
 have hl := g.2.l2
 have k0 := g.2.k
 have hN : f_impl_named x0 x1 x2 kind a b c = some (rng2 0 a (x0 - 1) && rng2 0 b (x0 - 1)) := by
   unfold f_impl_named
   simp only [isOf_rng _ x0 k0.1 k0.2, Option.bind_some]
   rcases hk with rfl | rfl <;> cases rng2 0 a (x0 - 1) <;> rfl
 rw [hN]
 cases hr : rng2 0 a (x0 - 1) with
 | false =>
   refine ⟨x1, x2, 2, by decide, ?_, .inl ⟨rfl, rfl⟩⟩
   unfold f_spec_l6Do
   simp only [in_rng2, wz (x0 - 1) (by omega), hr, Option.bind_some]
   rcases hk with rfl | rfl <;> rfl
 | true =>
   have hS : f_spec_l6Do x0 x1 x2 kind a b c = f_spec_l6Line x0 x1 x2 kind a b c := by
     have hr' := hr
     unfold rng2 at hr'
     simp only [Bool.and_eq_true, decide_eq_true_eq] at hr'
     obtain ⟨y1, y2, s, h1, -⟩ := specLine g kind a b c hr'.1 hr'.2
     unfold f_spec_l6Do
     simp only [in_rng2, wz (x0 - 1) (by omega), hr, Option.bind_some, h1]
     rcases hk with rfl | rfl <;> rfl
   rw [hS]
   unfold rng2 at hr
   simp only [Bool.and_eq_true, decide_eq_true_eq] at hr
   obtain ⟨a0, a1⟩ := hr
   obtain ⟨n0, n1, n2, q⟩ := gNode g a a0 a1
   have l3 := q.l3
   have l4 := q.l4
   unfold f_spec_l6Line f_impl_World_do f_impl_World_send
   simp only [in_rng2, from_rng2, wz (x0 - 1) (by omega), Option.bind_some]
   cases hb : rng2 0 b (x0 - 1) with
   | false => exact ⟨x1, x2, 2, by decide, rfl, .inl ⟨rfl, rfl⟩⟩
   | true =>
     unfold rng2 at hb
     simp only [Bool.and_eq_true, decide_eq_true_eq] at hb
     obtain ⟨b0, b1⟩ := hb
     have hm := mem_getD (x1.getD a.toNat (0, [], [], [], [])).2.2.2.1 (0, []) b b0 (by omega)
     have ks := n2.e3 _ hm
     have ts := q.s _ hm
     have so := (tS_eq _ ks).1
     rw [ts] at so
     obtain ⟨f0, f1, f2, f3, f4⟩ := senderOk_facts _ _ ks.1 ks.2 so
     simp only [Bool.not_true, cond_false, dt a0, dt b0, dt n0, dt (show b < ((x1.getD a.toNat (0, [], [], [], [])).2.2.2.2.length : Int) by omega), dt (show b < ((x1.getD a.toNat (0, [], [], [], [])).2.2.2.1.length : Int) by omega), Bool.and_self, cond_true, wz (((((x1.getD a.toNat (0, [], [], [], [])).2.2.2.1.getD b.toNat (0, [])).2).length : Int) - 1) (by omega)]
     unfold f_spec_l6Put
     simp only [List.length_singleton, (blt_iff _ _).2 (show x2.length + 1 < 1759218604441 by omega), cond_true, Option.bind_some]
     rcases hk with rfl | rfl
     · simp only [decide_true, cond_true]
       cases hc : rng2 0 c (((((x1.getD a.toNat (0, [], [], [], [])).2.2.2.1.getD b.toNat (0, [])).2).length : Int) - 1) with
       | false => exact ⟨x1, x2, 3, by decide, rfl, .inr ⟨rfl, rfl⟩⟩
       | true =>
         unfold rng2 at hc
         simp only [Bool.and_eq_true, decide_eq_true_eq] at hc
         obtain ⟨c0, c1⟩ := hc
         have hw := ks.2 _ (mem_getD ((x1.getD a.toNat (0, [], [], [], [])).2.2.2.1.getD b.toNat (0, [])).2 (0, 0, false, []) c c0 (by omega))
         simp only [Bool.not_true, cond_false, dt c0, dt (show c < ((((x1.getD a.toNat (0, [], [], [], [])).2.2.2.1.getD b.toNat (0, [])).2).length : Int) by omega), Bool.and_self, cond_true, msg_copy _ _ _ _ hw, imsg_copy _ _ _ _ hw, Option.bind_some]
         by_cases h40 : (x2.length : Int) = 40
         · simp only [dt h40]
           exact ⟨x1, x2, 4, by decide, rfl, .inr ⟨rfl, rfl⟩⟩
         · simp only [df h40]
           exact ⟨x1, _, 0, by decide, rfl, .inr ⟨rfl, rfl⟩⟩
     · simp only [df (show ¬ (2 : Int) = 1 by omega), decide_true, cond_false, cond_true]
       by_cases h40 : (x2.length : Int) = 40
       · simp only [dt h40]
         exact ⟨x1, x2, 4, by decide, rfl, .inr ⟨rfl, rfl⟩⟩
       · simp only [df h40]
         exact ⟨x1, _, 0, by decide, rfl, .inr ⟨rfl, rfl⟩⟩
theorem both_want {x0 : Int} {x1 : List NodeT} {x2 : List PacketT} (g : gW x0 x1 x2) (a b c : Int) : BothR x0 (f_spec_l6Do x0 x1 x2 6 a b c) (f_impl_named x0 x1 x2 6 a b c) (f_impl_World_do x0 x1 x2 6 a b c) := by
 have k0 := g.2.k
 have hN : f_impl_named x0 x1 x2 6 a b c = some (rng2 0 a (x0 - 1)) := by
   unfold f_impl_named
   simp only [isOf_rng _ x0 k0.1 k0.2, Option.bind_some]
   rfl
 rw [hN]
 unfold f_spec_l6Do f_impl_World_do
 simp only [in_rng2, wz (x0 - 1) (by omega), Option.bind_some, df (show ¬ (6 : Int) = 3 by omega), df (show ¬ (6 : Int) = 4 by omega), df (show ¬ (6 : Int) = 5 by omega), df (show ¬ (6 : Int) = 1 by omega), df (show ¬ (6 : Int) = 2 by omega), decide_true, cond_false, Bool.not_true]
 cases hr : rng2 0 a (x0 - 1) with
 | false => exact ⟨x1, x2, 2, by decide, rfl, .inl ⟨rfl, rfl⟩⟩
 | true =>
   unfold rng2 at hr
   simp only [Bool.and_eq_true, decide_eq_true_eq] at hr
   obtain ⟨a0, a1⟩ := hr
   obtain ⟨n0, n1, n2, q⟩ := gNode g a a0 a1
   obtain ⟨r, h1, h2, -⟩ := good_want (x1.getD a.toNat (0, [], [], [], [])).1 (x1.getD a.toNat (0, [], [], [], [])).2.1 (x1.getD a.toNat (0, [], [], [], [])).2.2.1 (x1.getD a.toNat (0, [], [], [], [])).2.2.2.1 (x1.getD a.toNat (0, [], [], [], [])).2.2.2.2 x0 b (decide (c = 1)) n2
   simp only [dt a0, dt n0, Bool.and_self, cond_true, h1, h2, Option.bind_some, Bool.not_true, cond_false]
   cases r.2.2.2.2.2 with
   | false => exact ⟨x1, x2, 3, by decide, rfl, .inr ⟨rfl, rfl⟩⟩
   | true => exact ⟨_, x2, 0, by decide, rfl, .inr ⟨rfl, rfl⟩⟩
/-- In a right world of which no home is in doubt both do the same. -/
theorem do_eq {x0 : Int} {x1 : List NodeT} {x2 : List PacketT} (g : gW x0 x1 x2) (nb : nbW x1) (kind a b c : Int) : f_impl_worldDo x0 x1 x2 kind a b c = f_spec_WorldDo x0 x1 x2 kind a b c := by
 unfold f_impl_worldDo f_spec_WorldDo
 simp only [specWorldOk x0 x1 x2 g.1, worldOk_of g.2, in_rng2, from_rng2, Option.bind_some, Bool.not_true, cond_false, specWorldCopy x0 x1 x2 g.1, implWorldCopy x0 x1 x2 g.1]
 cases hk : rng2 1 kind 6 with
 | false => rfl
 | true =>
   unfold rng2 at hk
   simp only [Bool.and_eq_true, decide_eq_true_eq] at hk
   have key : BothR x0 (f_spec_l6Do x0 x1 x2 kind a b c) (f_impl_named x0 x1 x2 kind a b c) (f_impl_World_do x0 x1 x2 kind a b c) := by
     by_cases h6 : kind = 6
     · subst h6; exact both_want g a b c
     · by_cases h12 : kind = 1 ∨ kind = 2
       · exact both_line g kind a b c h12
       · exact both_net g nb kind a b c (by omega)
   obtain ⟨y1, y2, s, -, h1, ⟨h2, rfl⟩ | ⟨h2, h3⟩⟩ := key
   · simp only [Bool.not_true, cond_false, h1, h2, Option.bind_some, Bool.not_false, cond_true]
     rfl
   · simp only [Bool.not_true, cond_false, h1, h2, h3, Option.bind_some]
     by_cases hs : s = 0
     · subst hs; rfl
     · simp only [df hs, Bool.not_false, cond_true]
theorem sameWorld_self (x0 : Int) (x1 : List NodeT) (x2 : List PacketT) (h : WorldK x1 x2) : f_laws_sameWorld x0 x1 x2 x0 x1 x2 = some true := by
 have l0 := ix_loop (F := fun n i => f_laws_sameWorld.l0 n false i x0 x1 x2 x0 x1 x2) (q := fun _ => true) (b := (false, x0, x1, x2, x0, x1, x2)) x1.length h.l1
   (fun n => by simp only [f_laws_sameWorld.l0, df (show ¬ (x1.length : Int) < (x1.length : Int) by omega), cond_false])
   (fun n i a0 a1 => by
     have hw := sameNode_self (x1.getD i.toNat (0, [], [], [], [])) (h.e1 _ (mem_getD x1 (0, [], [], [], []) i a0 a1))
     have hl := h.l1
     simp only [f_laws_sameWorld.l0, dt a0, dt a1, cond_true, Bool.and_self, Bool.not_true, cond_false, hw, Option.bind_some, wz (i + 1) (by omega)])
 have l1 := ix_loop (F := fun n i => f_laws_sameWorld.l1 n false i x0 x1 x2 x0 x1 x2) (q := fun _ => true) (b := false) x2.length h.l2
   (fun n => by simp only [f_laws_sameWorld.l1, df (show ¬ (x2.length : Int) < (x2.length : Int) by omega), cond_false])
   (fun n i a0 a1 => by
     have hl := h.l2
     simp only [f_laws_sameWorld.l1, dt a0, dt a1, cond_true, Bool.and_self, decide_true, Bool.not_true, cond_false, wz (i + 1) (by omega)])
 rw [all_true, cond_true] at l0 l1
 unfold f_laws_sameWorld
 simp only [decide_true, Bool.not_true, cond_false, l0, l1, Option.bind_some, cs]
theorem spoil (x : List Int) (hn : x.length ≤ 1048576) (p s a b c d : Int) (hp : 0 ≤ p) : ∃ a' b' c' d' p' s', f_spec_l6Spoil x p s a b c d = some (a', b', c', d', p', s') := by
 unfold f_spec_l6Spoil
 obtain ⟨r, p1, s1, e1, q1, -⟩ := draw_below x hn p s 15 hp
 obtain ⟨r2, p2, s2, e2, q2, -⟩ := draw_below x hn p1 s1 9 q1
 obtain ⟨v3, p3, s3, e3, -, q3⟩ := draw_pick x hn p1 s1 q1 ([-1, 4, 9223372036854775807] : List Int) (by simp)
 obtain ⟨v4, p4, s4, e4, -, q4⟩ := draw_pick x hn p1 s1 q1 ([-1, 9, 9223372036854775807] : List Int) (by simp)
 simp only [e1, e2, e3, e4, Option.bind_some]
 cases decide (r = 0) <;> cases decide (r = 1) <;> cases decide (r = 2) <;> cases decide (r = 3) <;> exact ⟨_, _, _, _, _, _, rfl⟩
theorem drawDo (x : List Int) (hn : x.length ≤ 1048576) : ∃ (k : Int) (y1 : List NodeT) (y2 : List PacketT) (a b c d : Int), f_spec_DrawWorldDo x = some (k, y1, y2, a, b, c, d) ∧ WorldK y1 y2 ∧ nbW y1 := by
 unfold f_spec_DrawWorldDo
 obtain ⟨s0, e0⟩ := draw_new (F := fun n x s i => f_spec_DrawWorldDo.l0 n x s i 0 0 0 0 0) (G := fun x s => (x, s, (0 : Int), (0 : Int), (0 : Int), (0 : Int), (0 : Int))) (fun n x s i => rfl) x hn (IntKind.wrap .i64 (20404 + (x.length : Int)))
 have e0 : f_spec_DrawWorldDo.l0 N x (IntKind.wrap .i64 (20404 + (x.length : Int))) 0 0 0 0 0 0 = some (x, s0, 0, 0, 0, 0, 0) := e0
 obtain ⟨k, y1, y2, p1, s1, e1, q1, g, nb⟩ := draw6 x hn 0 s0 (Int.le_refl _)
 obtain ⟨a, b, c, d, p2, s2, e2, q2⟩ := drawDeed x hn p1 s1 k y1 y2 q1
 obtain ⟨a', b', c', d', p3, s3, e3⟩ := spoil x hn p2 s2 a b c d q2
 simp only [e0, e1, e2, e3, Option.bind_some]
 exact ⟨_, _, _, _, _, _, _, rfl, g, nb⟩
theorem drawWNew (x : List Int) (hn : x.length ≤ 1048576) : ∃ i, f_spec_DrawWorldNew x = some i := by
 unfold f_spec_DrawWorldNew
 obtain ⟨s0, e0⟩ := draw_new (F := fun n x s i => f_spec_DrawWorldNew.l0 n x s i) (G := fun x s => (x, s)) (fun n x s i => rfl) x hn (IntKind.wrap .i64 (20404 + (x.length : Int)))
 have e0 : f_spec_DrawWorldNew.l0 N x (IntKind.wrap .i64 (20404 + (x.length : Int))) 0 = some (x, s0) := e0
 obtain ⟨r, p3, s3, e3, q3, -⟩ := draw_below x hn 0 s0 7 (Int.le_refl _)
 simp only [e0, e3, Option.bind_some]
 exact ⟨_, rfl⟩
theorem none_K : WorldK [] [] := ⟨by simp, by simp, fun e he => (by cases he), fun e he => (by cases he)⟩
/-- What a deed answers, of both, in a world of which no home is in doubt. -/
theorem wdo (x0 : Int) (x1 : List NodeT) (x2 : List PacketT) (k : WorldK x1 x2) (nb : nbW x1) (kind a b c : Int) : ∃ z0 z1 z2 s, f_spec_WorldDo x0 x1 x2 kind a b c = some (z0, z1, z2, s) ∧ f_impl_WorldDo x0 x1 x2 kind a b c = some (z0, z1, z2, s) ∧ WorldK z1 z2 ∧ (s = 1 → z1 = []) ∧ (s ≠ 0 → s ≠ 1 → z0 = x0 ∧ z1 = x1 ∧ z2 = x2) ∧ (s = 0 → worldOkB z0 z1 z2 = true) := by
 cases hw : worldOkB x0 x1 x2 with
 | false =>
   unfold f_spec_WorldDo f_impl_WorldDo
   simp only [specWorldOk _ _ _ k, implWorldOk _ _ _ k, hw, Option.bind_some, Bool.not_false, cond_true]
   exact ⟨0, [], [], 1, rfl, rfl, none_K, fun _ => rfl, fun _ h => absurd rfl h, fun h => absurd h (by decide)⟩
 | true =>
   have w := worldFacts _ _ _ hw
   have g : gW x0 x1 x2 := ⟨k, w⟩
   have hd := do_eq g nb kind a b c
   have hI : ∀ z0 z1 z2 s, f_spec_WorldDo x0 x1 x2 kind a b c = some (z0, z1, z2, s) → f_impl_WorldDo x0 x1 x2 kind a b c = some (z0, z1, z2, s) := fun z0 z1 z2 s h => by
     unfold f_impl_WorldDo
     simp only [implWorldOk _ _ _ k, hw, Option.bind_some, Bool.not_true, cond_false, hd, h]
   have key : ∃ z0 z1 z2 s, f_spec_WorldDo x0 x1 x2 kind a b c = some (z0, z1, z2, s) ∧ WorldK z1 z2 ∧ (s = 1 → z1 = []) ∧ (s ≠ 0 → s ≠ 1 → z0 = x0 ∧ z1 = x1 ∧ z2 = x2) ∧ (s = 0 → worldOkB z0 z1 z2 = true) := by
     unfold f_spec_WorldDo
     simp only [specWorldOk _ _ _ k, hw, in_rng2, Option.bind_some, Bool.not_true, cond_false, specWorldCopy _ _ _ k]
     cases hk : rng2 1 kind 6 with
     | false => exact ⟨0, [], [], 1, rfl, none_K, fun _ => rfl, fun _ h => absurd rfl h, fun h => absurd h (by decide)⟩
     | true =>
       unfold rng2 at hk
       simp only [Bool.and_eq_true, decide_eq_true_eq] at hk
       have both : BothR x0 (f_spec_l6Do x0 x1 x2 kind a b c) (f_impl_named x0 x1 x2 kind a b c) (f_impl_World_do x0 x1 x2 kind a b c) := by
         by_cases h6 : kind = 6
         · subst h6; exact both_want g a b c
         · by_cases h12 : kind = 1 ∨ kind = 2
           · exact both_line g kind a b c h12
           · exact both_net g nb kind a b c (by omega)
       obtain ⟨y1, y2, s, hs1, h1, -⟩ := both
       obtain ⟨v1, v2, s', h2, h3, -⟩ := specDo g kind a b c
       rw [h1] at h2
       cases h2
       simp only [Bool.not_true, cond_false, h1, Option.bind_some]
       by_cases hs : s = 0
       · simp only [dt hs, Bool.not_true, cond_false]
         exact ⟨x0, y1, y2, s, rfl, h3.1, fun h => absurd h hs1, fun h => absurd hs h, fun _ => worldOk_of h3.2⟩
       · simp only [df hs, Bool.not_false, cond_true]
         exact ⟨x0, x1, x2, s, rfl, k, fun h => absurd h hs1, fun _ _ => ⟨rfl, rfl, rfl⟩, fun h => absurd h hs⟩
   obtain ⟨z0, z1, z2, s, h1, h2⟩ := key
   exact ⟨z0, z1, z2, s, h1, hI _ _ _ _ h1, h2⟩
theorem new_sane (k : Nat) (h1 : 1 ≤ k) (h4 : k ≤ 4) : f_impl_Sane (k : Int) ((List.range k).map (nodeAt k)) [] = some true := by
 rcases (show k = 1 ∨ k = 2 ∨ k = 3 ∨ k = 4 by omega) with rfl | rfl | rfl | rfl <;> kernel_rfl
theorem deedsLaw (x0 : List Int) : f_laws_FnDeeds x0 = some true := by
 unfold f_laws_FnDeeds f_laws_big
 by_cases hb : (1048576 : Int) < (x0.length : Int)
 · rw [dt hb]; rfl
 rw [df hb]
 have hn : x0.length ≤ 1048576 := by omega
 obtain ⟨k, y1, y2, a, b, c, d, e1, g, nb⟩ := drawDo x0 hn
 obtain ⟨n, e2⟩ := drawWNew x0 hn
 obtain ⟨z0, z1, z2, s, h1, h2, gz, q1, q2, q3⟩ := wdo k y1 y2 g nb a b c d
 simp only [Option.bind_some, cond_false, e1, h1, h2, decide_true, Bool.not_true, sameWorld_self _ _ _ gz, implWorldOk _ _ _ g, specWorldOk _ _ _ g, beq_self_eq_true, e2, implWorldNew, specWorldNew]
 have fin : (bif decide (s = (1 : Int)) then some (decide ((z1.length : Int) = (0 : Int))) else bif (!(decide (s = (0 : Int)))) then (f_laws_sameWorld k y1 y2 z0 z1 z2).bind fun y => some y else (f_impl_WorldOk z0 z1 z2).bind fun y => some y) = some true := by
   by_cases s1 : s = 1
   · rw [dt s1, q1 s1]; rfl
   · by_cases s0 : s = 0
     · rw [df s1, dt s0, implWorldOk _ _ _ gz, q3 s0]; rfl
     · obtain ⟨rfl, rfl, rfl⟩ := q2 s0 s1
       rw [df s1, df s0, sameWorld_self _ _ _ gz]; rfl
 by_cases hk : 1 ≤ n ∧ n ≤ 4
 · obtain ⟨kn, rfl⟩ : ∃ kn : Nat, n = kn := ⟨n.toNat, by omega⟩
   obtain ⟨gn, -⟩ := new_gW kn (by omega) (by omega)
   have hw : worldNewB (kn : Int) = ((kn : Int), (List.range kn).map (nodeAt kn), [], true) := by
     unfold worldNewB
     rw [if_pos (by omega)]
     rfl
   simp only [hw, cond_true, implWorldOk _ _ _ gn.1, worldOk_of gn.2, Option.bind_some, Bool.not_true, cond_false, new_sane kn (by omega) (by omega)]
   exact fin
 · have hw : worldNewB n = (0, [], [], false) := by unfold worldNewB; rw [if_neg hk]
   simp only [hw, cond_false]
   exact fin
theorem plain : Pure := fun x _ => deedsLaw x
end Go.Abs
