/- The law FnMsgs returns true for all bytes that a draw is made of: a drawn message is read from its bytes as it was, and bytes that are read are those of the message. More than 2^20 bytes are not asked for. -/
import Derived.Test.YtimpkielhcgfdaaMFnMsgs
import Derived.Laws.BitsLemmas
namespace Go.Abs
open Go.RowKit
set_option linter.unusedVariables false
set_option linter.unusedSimpArgs false

theorem w64 {n : Int} (h0 : -9223372036854775808 ≤ n) (h1 : n ≤ 9223372036854775807) : IntKind.wrap .i64 n = n := by
  rw [IntKind.wrap_i64]
  omega
theorem succ_fuel {n d : Nat} (h : d < n) : ∃ m, n = m + 1 := ⟨n - 1, by omega⟩
theorem big : (1048577 : Nat) < N := by decide
theorem mem_getD {α : Type} (x : List α) (d : α) (i : Int) (h0 : 0 ≤ i) (h1 : i < x.length) : x.getD i.toNat d ∈ x := by
  have hlt : i.toNat < x.length := by omega
  rw [List.getD_eq_getElem?_getD, List.getElem?_eq_getElem hlt]
  exact List.getElem_mem hlt
theorem drop_getD {α : Type} (x : List α) (d : α) (i : Int) (h0 : 0 ≤ i) (h1 : i < x.length) : x.drop i.toNat = x.getD i.toNat d :: x.drop (i + 1).toNat := by
  have hlt : i.toNat < x.length := by omega
  have e : (i + 1).toNat = i.toNat + 1 := by omega
  rw [e, List.drop_eq_getElem_cons hlt, List.getD_eq_getElem?_getD, List.getElem?_eq_getElem hlt]
  rfl
theorem to_gen {α : Type} {d : α} {F : Nat → List α → Int → List α → Option (List α)} {g : α → Option α}
    (hs : ∀ n x i y, F (n + 1) x i y = bif decide (i < (x.length : Int)) then (bif (decide ((0 : Int) ≤ i) && decide (i < (x.length : Int))) then (g (x.getD i.toNat d)).bind fun e => (bif (decide ((0 : Int) ≤ i) && decide (i < (y.length : Int))) then F n x (IntKind.wrap .i64 (i + 1)) (y.set i.toNat e) else none) else none) else some y)
    (x : List α) (hn : x.length ≤ 1048576) (hg : ∀ e ∈ x, g e = some e) (k : Nat) : ∀ (n : Nat) (y : List α) (i : Int), 0 ≤ i → i ≤ x.length → (x.length : Int) - i = k → k < n → y.length = x.length → y.take i.toNat = x.take i.toNat → F n x i y = some x := by
  induction k with
  | zero =>
    intro n y i h0 h1 hd hk hl ht
    obtain ⟨n, rfl⟩ := succ_fuel hk
    rw [hs, decide_eq_false (by omega), cond_false]
    rw [List.take_of_length_le (by omega), List.take_of_length_le (by omega)] at ht
    rw [ht]
  | succ k ih =>
    intro n y i h0 h1 hd hk hl ht
    obtain ⟨n, rfl⟩ := succ_fuel hk
    have hw : IntKind.wrap .i64 (i + 1) = i + 1 := w64 (by omega) (by omega)
    have hlt : i.toNat < x.length := by omega
    rw [hs, decide_eq_true (show i < (x.length : Int) by omega), decide_eq_true h0, decide_eq_true (show i < (y.length : Int) by omega), hw, hg _ (mem_getD x d i h0 (by omega))]
    simp only [cond_true, Bool.and_self, Option.bind_some]
    refine ih n _ (i + 1) (by omega) (by omega) (by omega) (by omega) (by rw [List.length_set]; exact hl) ?_
    have e : (i + 1).toNat = i.toNat + 1 := by omega
    rw [e, List.take_add_one, List.take_add_one, List.take_set, List.getElem?_set_self (by omega), List.getElem?_eq_getElem hlt]
    have : x.getD i.toNat d = x[i.toNat] := by rw [List.getD_eq_getElem?_getD, List.getElem?_eq_getElem hlt]; rfl
    rw [this, List.set_eq_of_length_le (by rw [List.length_take]; omega), ht]
theorem eq_gen {α : Type} {d : α} {F : Nat → List α → List α → Bool → Int → Option (Bool ⊕ Bool)} {q : α → α → Option Bool}
    (hs : ∀ n x y b i, F (n + 1) x y b i = bif decide (i < (x.length : Int)) then (bif (decide ((0 : Int) ≤ i) && decide (i < (x.length : Int))) then (bif (decide ((0 : Int) ≤ i) && decide (i < (y.length : Int))) then (q (x.getD i.toNat d) (y.getD i.toNat d)).bind fun r => (bif (!r) then some (.inl false) else F n x y b (IntKind.wrap .i64 (i + 1))) else none) else none) else some (.inr b))
    (x : List α) (hn : x.length ≤ 1048576) (hq : ∀ e ∈ x, q e e = some true) (b : Bool) (k : Nat) : ∀ (n : Nat) (i : Int), 0 ≤ i → i ≤ x.length → (x.length : Int) - i = k → k < n → F n x x b i = some (.inr b) := by
  induction k with
  | zero =>
    intro n i h0 h1 hd hk
    obtain ⟨n, rfl⟩ := succ_fuel hk
    rw [hs, decide_eq_false (by omega), cond_false]
  | succ k ih =>
    intro n i h0 h1 hd hk
    obtain ⟨n, rfl⟩ := succ_fuel hk
    have hw : IntKind.wrap .i64 (i + 1) = i + 1 := w64 (by omega) (by omega)
    rw [hs, decide_eq_true (show i < (x.length : Int) by omega), decide_eq_true h0, hw, hq _ (mem_getD x d i h0 (by omega))]
    simp only [cond_true, Bool.and_self, Option.bind_some, Bool.not_true, cond_false]
    exact ih n (i + 1) (by omega) (by omega) (by omega) (by omega)
theorem sz_gen {α : Type} {d : α} {F : Nat → List α → Int → Int → Int → Option (Int ⊕ (Int × Int))} {s : α → Int → Option Int} {Ok : α → Prop}
    (hs : ∀ n x l q i, F (n + 1) x l q i = bif decide (i < (x.length : Int)) then (bif (decide ((0 : Int) ≤ i) && decide (i < (x.length : Int))) then (s (x.getD i.toNat d) l).bind fun r => (bif decide (r < 0) then some (.inl (-1)) else F n x r q (IntKind.wrap .i64 (i + 1))) else none) else some (.inr (l, q)))
    (x : List α) (hn : x.length ≤ 1048576) (he : ∀ e ∈ x, ∀ l, 0 ≤ l → l ≤ 1048576 → s e l = some (-1) ∨ ∃ l', s e l = some l' ∧ 0 ≤ l' ∧ l' ≤ l ∧ Ok e) (q : Int) (k : Nat) :
    ∀ (n : Nat) (l i : Int), 0 ≤ l → l ≤ 1048576 → 0 ≤ i → i ≤ x.length → (x.length : Int) - i = k → k < n → F n x l q i = some (.inl (-1)) ∨ ∃ l', F n x l q i = some (.inr (l', q)) ∧ 0 ≤ l' ∧ l' ≤ l ∧ ∀ e ∈ x.drop i.toNat, Ok e := by
  induction k with
  | zero =>
    intro n l i hl0 hl1 h0 h1 hd hk
    obtain ⟨n, rfl⟩ := succ_fuel hk
    rw [hs, decide_eq_false (show ¬ i < (x.length : Int) by omega), cond_false, List.drop_eq_nil_of_le (by omega)]
    exact .inr ⟨l, rfl, hl0, Int.le_refl _, fun e h => by cases h⟩
  | succ k ih =>
    intro n l i hl0 hl1 h0 h1 hd hk
    obtain ⟨n, rfl⟩ := succ_fuel hk
    have hw : IntKind.wrap .i64 (i + 1) = i + 1 := w64 (by omega) (by omega)
    rw [hs, decide_eq_true (show i < (x.length : Int) by omega), decide_eq_true h0, hw]
    simp only [cond_true, Bool.and_self]
    rcases he _ (mem_getD x d i h0 (by omega)) l hl0 hl1 with h | ⟨l', h, a0, a1, a2⟩
    · rw [h]; exact .inl rfl
    · rw [h, Option.bind_some, decide_eq_false (show ¬ l' < 0 by omega), cond_false]
      rcases ih n l' (i + 1) a0 (by omega) (by omega) (by omega) (by omega) (by omega) with h2 | ⟨l2, h2, b0, b1, b2⟩
      · exact .inl h2
      · refine .inr ⟨l2, h2, b0, by omega, fun e hm => ?_⟩
        rw [drop_getD x d i h0 (by omega)] at hm
        rcases List.mem_cons.1 hm with rfl | hm
        · exact a2
        · exact b2 e hm
theorem lt_N {x : Nat} (h : x ≤ 1048576) : x < N := Nat.lt_of_le_of_lt h (Nat.lt_trans (by omega) big)
def rng (x m : Int) : Bool := decide ((0 : Int) ≤ x) && decide (x ≤ m)
theorem in_rng (x m : Int) : f_spec_l1In x 0 m = some (rng x m) := by
  unfold f_spec_l1In rng
  cases decide ((0 : Int) ≤ x) <;> rfl
theorem from_rng (x m : Int) : f_impl_from x 0 m = some (rng x m) := by
  unfold f_impl_from rng
  cases decide ((0 : Int) ≤ x) <;> rfl
def rg (x a b : Int) : Bool := decide (a ≤ x) && decide (x ≤ b)
theorem in_rg (x a b : Int) : f_spec_l1In x a b = some (rg x a b) := by
  unfold f_spec_l1In rg
  cases decide (a ≤ x) <;> rfl
theorem from_rg (x a b : Int) : f_impl_from x a b = some (rg x a b) := by
  unfold f_impl_from rg
  cases decide (a ≤ x) <;> rfl
def allW (x : List Int) : Bool := x.all fun w => rng w 65535
theorem drop_step (x : List Int) (i : Int) (h0 : 0 ≤ i) (h1 : i < x.length) : x.drop i.toNat = x.getD i.toNat 0 :: x.drop (i + 1).toNat := by
  have hlt : i.toNat < x.length := by omega
  have e : (i + 1).toNat = i.toNat + 1 := by omega
  rw [e, List.drop_eq_getElem_cons hlt, List.getD_eq_getElem?_getD, List.getElem?_eq_getElem hlt]
  rfl
theorem specWords_loop (x : List Int) (hn : x.length ≤ 1048576) (k : Int) (b : Bool) (d : Nat) : ∀ (n : Nat) (i : Int), 0 ≤ i → i ≤ x.length → (x.length : Int) - i = d → d < n →
    f_spec_l1Words.l0 n x k b i = some (bif allW (x.drop i.toNat) then .inr (x, k, b) else .inl false) := by
  induction d with
  | zero =>
    intro n i h0 h1 hd hk
    obtain ⟨n, rfl⟩ := succ_fuel hk
    simp only [f_spec_l1Words.l0]
    rw [decide_eq_false (by omega), cond_false, List.drop_eq_nil_of_le (by omega)]
    rfl
  | succ d ih =>
    intro n i h0 h1 hd hk
    obtain ⟨n, rfl⟩ := succ_fuel hk
    have hw : IntKind.wrap .i64 (i + 1) = i + 1 := w64 (by omega) (by omega)
    simp only [f_spec_l1Words.l0]
    rw [decide_eq_true (show i < (x.length : Int) by omega), decide_eq_true h0, hw, in_rng, drop_step x i h0 (by omega)]
    simp only [cond_true, Bool.and_self, Option.bind_some]
    unfold allW
    rw [List.all_cons]
    cases hr : rng (x.getD i.toNat 0) 65535 with
    | false => rfl
    | true =>
      simp only [Bool.not_true, cond_false, Bool.true_and]
      exact ih n (i + 1) (by omega) (by omega) (by omega) (by omega)
theorem specWords (x : List Int) (hn : x.length ≤ 1048576) (k : Int) : f_spec_l1Words x k = some (allW x && decide ((x.length : Int) = k)) := by
  unfold f_spec_l1Words
  rw [specWords_loop x hn k false x.length N 0 (by omega) (by omega) (by omega) (Nat.lt_of_le_of_lt (by omega) big)]
  simp only [Int.toNat_zero, List.drop_zero, Option.bind_some]
  cases allW x <;> rfl
theorem implWords_loop (x : List Int) (hn : x.length ≤ 1048576) (q : Int) (d : Nat) : ∀ (n : Nat) (i : Int), 0 ≤ i → i ≤ x.length → (x.length : Int) - i = d → d < n →
    (allW (x.drop i.toNat) = true ∧ f_impl_wordsOk.l0 n x q (x.length : Int) i = some (.inr q)) ∨ (allW (x.drop i.toNat) = false ∧ ∃ j : Int, 0 ≤ j ∧ f_impl_wordsOk.l0 n x q (x.length : Int) i = some (.inl j)) := by
  induction d with
  | zero =>
    intro n i h0 h1 hd hk
    obtain ⟨n, rfl⟩ := succ_fuel hk
    simp only [f_impl_wordsOk.l0]
    rw [decide_eq_false (show ¬ i < (x.length : Int) by omega), cond_false, List.drop_eq_nil_of_le (by omega)]
    exact .inl ⟨rfl, rfl⟩
  | succ d ih =>
    intro n i h0 h1 hd hk
    obtain ⟨n, rfl⟩ := succ_fuel hk
    have hw : IntKind.wrap .i64 (i + 1) = i + 1 := w64 (by omega) (by omega)
    have ih2 := ih n (i + 1) (by omega) (by omega) (by omega) (by omega)
    simp only [f_impl_wordsOk.l0]
    rw [decide_eq_true (show i < (x.length : Int) by omega), decide_eq_true h0, hw, drop_step x i h0 (by omega)]
    unfold f_impl_wordsOk_1 f_impl_isWord
    simp only [cond_true, Bool.and_self, from_rng, Option.bind_some]
    unfold allW at ih2 ⊢
    rw [List.all_cons]
    cases hr : rng (x.getD i.toNat 0) 65535 with
    | false => exact .inr ⟨rfl, i, h0, rfl⟩
    | true =>
      simp only [Bool.not_true, cond_false, Bool.true_and]
      exact ih2
theorem implWords (x : List Int) (hn : x.length ≤ 1048576) (k : Int) : f_impl_wordsOk x k = some (allW x && decide ((x.length : Int) = k)) := by
  unfold f_impl_wordsOk
  have h := implWords_loop x hn 0 x.length N 0 (by omega) (by omega) (by omega) (Nat.lt_of_le_of_lt (by omega) big)
  simp only [Int.toNat_zero, List.drop_zero] at h
  cases decide ((x.length : Int) = k) with
  | false => simp
  | true =>
    rcases h with ⟨h1, h2⟩ | ⟨h1, j, h3, h2⟩
    · simp only [cond_true, h2, Option.bind_some, h1, Bool.and_true]; rfl
    · simp only [cond_true, h2, Option.bind_some, h1, Bool.and_true]
      show some (!(decide ((0 : Int) ≤ j))) = some false
      rw [decide_eq_true h3]; rfl
theorem allW_nil (x : List Int) : (allW x && decide ((x.length : Int) = 0)) = decide ((x.length : Int) = 0) := by
  cases x with
  | nil => rfl
  | cons a x =>
    rw [decide_eq_false (by simp; omega), Bool.and_false]
theorem same_msgOk (x0 x1 : Int) (x2 : Bool) (x3 : List Int) (hn : x3.length ≤ 1048576) : ∃ b, f_spec_MsgOk x0 x1 x2 x3 = some b ∧ f_impl_MsgOk x0 x1 x2 x3 = some b := by
  unfold f_spec_MsgOk f_impl_MsgOk f_impl_isPage
  simp only [specWords x3 hn, implWords x3 hn, in_rg, from_rg, Option.bind_some, allW_nil]
  by_cases h3 : x0 = 3
  · subst h3
    rw [show rg 3 1 7 = true from rfl]
    cases rg x1 0 5 <;> cases x2 <;> exact ⟨_, rfl, rfl⟩
  · by_cases h7 : x0 = 7
    · subst h7
      rw [show rg 7 1 7 = true from rfl]
      cases rg x1 0 5 <;> cases x2 <;> exact ⟨_, rfl, rfl⟩
    · by_cases h6 : x0 = 6
      · subst h6
        rw [show rg 6 1 7 = true from rfl]
        cases rg x1 0 5 <;> cases x2 <;> exact ⟨_, rfl, rfl⟩
      · rw [decide_eq_false h3, decide_eq_false h7, decide_eq_false h6]
        cases rg x0 1 7 <;> cases rg x1 0 5 <;> cases x2 <;> exact ⟨_, rfl, rfl⟩
def putB (x : Int) : List Int := if x < 0 ∨ 100000 < x then [] else if x ≤ 127 then [x] else if x ≤ 16383 then [x % 128 + 128, x / 128] else [x % 128 + 128, x / 128 % 128 + 128, x / 16384]
theorem putB_length (x : Int) : (putB x).length ≤ 3 := by
  unfold putB
  split
  · simp
  · split
    · simp
    · split <;> simp
theorem u8 {n : Int} (h0 : 0 ≤ n) (h1 : n ≤ 255) : IntKind.wrap .u8 n = n := by
  rw [IntKind.wrap_u8]
  omega
theorem put_gen {F : Nat → Int → List Int → Option (Int × List Int)}
    (hs : ∀ n x y, F (n + 1) x y = bif decide ((127 : Int) < x) then (bif Nat.blt (y.length + ([(IntKind.wrap .u8 ((IntKind.wrap .i64 ((Int.tmod x (128 : Int)) + (128 : Int)))))] : List Int).length) 140737488355328 then
      (some (y ++ ([(IntKind.wrap .u8 ((IntKind.wrap .i64 ((Int.tmod x (128 : Int)) + (128 : Int)))))] : List Int))).bind fun z => F n (IntKind.wrap .i64 (Int.tdiv x (128 : Int))) z else none) else some (x, y)) (x : Int) (h0 : 0 ≤ x) (h1 : x ≤ 100000) :
    ∃ x' y', F N x [] = some (x', y') ∧ y' ++ [x'] = putB x ∧ 0 ≤ x' ∧ x' ≤ 127 ∧ y'.length ≤ 2 := by
  obtain ⟨m, hm⟩ : ∃ m, N = m + 3 := ⟨N - 3, rfl⟩
  rw [hm]
  have e1 : Int.tmod x 128 = x % 128 := Int.tmod_eq_emod_of_nonneg h0
  have e2 : Int.tdiv x 128 = x / 128 := Int.tdiv_eq_ediv_of_nonneg h0
  have e3 : Int.tmod (x / 128) 128 = x / 128 % 128 := Int.tmod_eq_emod_of_nonneg (by omega)
  have e4 : Int.tdiv (x / 128) 128 = x / 128 / 128 := Int.tdiv_eq_ediv_of_nonneg (by omega)
  unfold putB
  rw [if_neg (by omega)]
  rw [hs]
  by_cases h2 : x ≤ 127
  · rw [decide_eq_false (by omega), if_pos h2]
    exact ⟨x, [], rfl, rfl, h0, h2, by simp⟩
  · rw [decide_eq_true (show (127 : Int) < x by omega), if_neg h2, e1, e2, w64 (show -9223372036854775808 ≤ x % 128 + 128 by omega) (by omega), u8 (show 0 ≤ x % 128 + 128 by omega) (by omega), w64 (show -9223372036854775808 ≤ x / 128 by omega) (by omega)]
    simp only [List.length_nil, List.length_cons, Nat.zero_add, (blt_iff _ _).2 (show 1 < 140737488355328 by omega), cond_true, Option.bind_some, List.nil_append]
    rw [hs]
    by_cases h3 : x ≤ 16383
    · rw [decide_eq_false (by omega), if_pos h3]
      exact ⟨x / 128, [x % 128 + 128], rfl, rfl, by omega, by omega, by simp⟩
    · rw [decide_eq_true (show (127 : Int) < x / 128 by omega), if_neg h3, e3, e4, w64 (show -9223372036854775808 ≤ x / 128 % 128 + 128 by omega) (by omega), u8 (show 0 ≤ x / 128 % 128 + 128 by omega) (by omega), w64 (show -9223372036854775808 ≤ x / 128 / 128 by omega) (by omega)]
      simp only [List.length_nil, List.length_cons, Nat.zero_add, (blt_iff _ _).2 (show 1 + 1 < 140737488355328 by omega), cond_true, Option.bind_some]
      rw [hs, decide_eq_false (by omega)]
      exact ⟨x / 128 / 128, [x % 128 + 128, x / 128 % 128 + 128], rfl, by rw [show x / 16384 = x / 128 / 128 by omega]; rfl, by omega, by omega, by simp⟩
theorem specPut (x : Int) : f_spec_PutNum x = some (putB x) := by
  unfold f_spec_PutNum f_spec_l1In
  by_cases h0 : 0 ≤ x
  · rw [decide_eq_true h0]
    by_cases h1 : x ≤ 100000
    · rw [decide_eq_true h1]
      obtain ⟨x', y', a1, a2, a3, a4, a5⟩ := put_gen (F := f_spec_PutNum.l0) (fun n x y => rfl) x h0 h1
      simp only [cond_true, Option.bind_some, Bool.not_true, cond_false, a1, u8 a3 (show x' ≤ 255 by omega), a2]
      rw [(blt_iff _ _).2 (show y'.length + ([x'] : List Int).length < 140737488355328 by simp; omega)]
      rfl
    · rw [decide_eq_false h1]; unfold putB; rw [if_pos (by omega)]; rfl
  · rw [decide_eq_false h0]; unfold putB; rw [if_pos (by omega)]; rfl
theorem implPut (x : Int) : f_impl_PutNum x = some (putB x) := by
  unfold f_impl_PutNum f_impl_from
  by_cases h0 : 0 ≤ x
  · rw [decide_eq_true h0]
    by_cases h1 : x ≤ 100000
    · rw [decide_eq_true h1]
      obtain ⟨x', y', a1, a2, a3, a4, a5⟩ := put_gen (F := f_impl_PutNum.l0) (fun n x y => rfl) x h0 h1
      simp only [cond_true, Option.bind_some, Bool.not_true, cond_false, a1, u8 a3 (show x' ≤ 255 by omega), a2]
      rw [(blt_iff _ _).2 (show y'.length + ([x'] : List Int).length < 140737488355328 by simp; omega)]
      rfl
    · rw [decide_eq_false h1]; unfold putB; rw [if_pos (by omega)]; rfl
  · rw [decide_eq_false h0]; unfold putB; rw [if_pos (by omega)]; rfl
theorem shl7 (m : Int) (hm0 : 0 ≤ m) (hm : m < 128) : shlI .i64 m 0 = m * 1 ∧ shlI .i64 m 7 = m * 128 ∧ shlI .i64 m 14 = m * 16384 := by
  unfold shlI
  refine ⟨?_, ?_, ?_⟩
  · show IntKind.i64.wrap (m * 1) = _
    exact w64 (by omega) (by omega)
  · show IntKind.i64.wrap (m * 128) = _
    exact w64 (by omega) (by omega)
  · show IntKind.i64.wrap (m * 16384) = _
    exact w64 (by omega) (by omega)
/-- What stands at a place. -/
def getB (x : List Int) (i : Int) : Int × Int × Bool :=
  if i < 0 ∨ (x.length : Int) ≤ i then (0, 0, false) else
  if x.getD i.toNat 0 < 128 then (x.getD i.toNat 0, i + 1, true) else
  if (x.length : Int) ≤ i + 1 then (0, 0, false) else
  if x.getD (i + 1).toNat 0 < 128 then (if x.getD (i + 1).toNat 0 = 0 then (0, 0, false) else (x.getD i.toNat 0 % 128 + x.getD (i + 1).toNat 0 % 128 * 128, i + 2, true)) else
  if (x.length : Int) ≤ i + 2 then (0, 0, false) else
  if x.getD (i + 2).toNat 0 < 128 then (if x.getD (i + 2).toNat 0 = 0 then (0, 0, false) else
    if 100000 < x.getD i.toNat 0 % 128 + x.getD (i + 1).toNat 0 % 128 * 128 + x.getD (i + 2).toNat 0 % 128 * 16384 then (0, 0, false) else (x.getD i.toNat 0 % 128 + x.getD (i + 1).toNat 0 % 128 * 128 + x.getD (i + 2).toNat 0 % 128 * 16384, i + 3, true)) else (0, 0, false)
theorem byte_getD {x : List Int} (hx : ∀ y ∈ x, 0 ≤ y ∧ y < 256) (i : Int) : 0 ≤ x.getD i.toNat 0 ∧ x.getD i.toNat 0 < 256 := by
  rcases Nat.lt_or_ge i.toNat x.length with h | h
  · rw [List.getD_eq_getElem?_getD, List.getElem?_eq_getElem h]
    exact hx _ (List.getElem_mem h)
  · rw [List.getD_eq_getElem?_getD, List.getElem?_eq_none h]
    exact ⟨by simp, by simp⟩
theorem impl_get_step (x : List Int) (hn : x.length ≤ 1048576) (hx : ∀ y ∈ x, 0 ≤ y ∧ y < 256) (i : Int) (hi : 0 ≤ i) (t v P b : Int) (n : Nat) (ht : t = 0 ∨ t = 1 ∨ t = 2) (hv0 : 0 ≤ v) (hv1 : v < P) (hP : 0 < P ∧ P ≤ 16384) (hb : x.getD (i + t).toNat 0 = b)
    (hsl : ∀ m : Int, 0 ≤ m → m < 128 → shlI .i64 m (7 * t) = m * P) :
    f_impl_GetNum.l0 (n + 1) x i 0 0 false v t = if (x.length : Int) ≤ i + t then some (.inl (0, 0, false)) else if b < 128 then (if 0 < t ∧ b = 0 then some (.inl (0, 0, false)) else if 100000 < v + b % 128 * P then some (.inl (0, 0, false)) else some (.inr (v + b % 128 * P, i + t + 1, true))) else f_impl_GetNum.l0 n x i 0 0 false (v + b % 128 * P) (t + 1) := by
  have hbb := byte_getD hx (i + t)
  rw [hb] at hbb
  have hS0 : 0 ≤ (b % 128) * P := Int.mul_nonneg (by omega) (by omega)
  have hS1 : (b % 128) * P ≤ 127 * P := Int.mul_le_mul_of_nonneg_right (by omega) (by omega)
  simp only [f_impl_GetNum.l0]
  rw [decide_eq_true (show t < 3 by omega), w64 (show -9223372036854775808 ≤ (x.length : Int) - t by omega) (by omega)]
  by_cases hl : (x.length : Int) ≤ i + t
  · rw [if_pos hl, decide_eq_false (show ¬ i < (x.length : Int) - t by omega)]; rfl
  · rw [if_neg hl, decide_eq_true (show i < (x.length : Int) - t by omega), w64 (show -9223372036854775808 ≤ i + t by omega) (by omega), decide_eq_true (show 0 ≤ i + t by omega), decide_eq_true (show i + t < (x.length : Int) by omega), w64 (show -9223372036854775808 ≤ 7 * t by omega) (by omega), decide_eq_false (show ¬ 7 * t < 0 by omega), hb,
      Int.tmod_eq_emod_of_nonneg hbb.1, w64 (show -9223372036854775808 ≤ b % 128 by omega) (by omega), hsl _ (by omega) (by omega), w64 (show -9223372036854775808 ≤ v + b % 128 * P by omega) (by omega), w64 (show -9223372036854775808 ≤ i + t + 1 by omega) (by omega), w64 (show -9223372036854775808 ≤ t + 1 by omega) (by omega)]
    simp only [cond_true, cond_false, Bool.and_self]
    by_cases h1 : b < 128
    · rw [decide_eq_false (show ¬ 128 ≤ b by omega), if_pos h1, cond_false]
      by_cases h4 : 100000 < v + b % 128 * P
      · rw [decide_eq_true h4, if_pos h4, cond_true]
        by_cases h3 : 0 < t ∧ b = 0
        · rw [if_pos h3]
        · rw [if_neg h3]
      · rw [decide_eq_false h4, if_neg h4, cond_false]
        by_cases h3 : b = 0
        · rw [decide_eq_true h3, cond_true]
          by_cases h2 : 0 < t
          · rw [decide_eq_true h2, if_pos ⟨h2, h3⟩]; rfl
          · rw [decide_eq_false h2, if_neg (fun h => h2 h.1)]; rfl
        · rw [decide_eq_false h3, if_neg (fun h => h3 h.2)]; rfl
    · rw [decide_eq_true (show 128 ≤ b by omega), if_neg h1]; rfl
theorem implGet (x : List Int) (hn : x.length ≤ 1048576) (hx : ∀ y ∈ x, 0 ≤ y ∧ y < 256) (i : Int) : f_impl_GetNum x i = some (getB x i) := by
  unfold f_impl_GetNum getB
  obtain ⟨m, hm⟩ : ∃ m, N = m + 4 := ⟨N - 4, rfl⟩
  rw [hm]
  by_cases hi : 0 ≤ i
  · have b0 := byte_getD hx i
    have b1 := byte_getD hx (i + 1)
    have b2 := byte_getD hx (i + 2)
    rw [decide_eq_false (show ¬ i < 0 by omega), cond_false, impl_get_step x hn hx i hi 0 0 1 _ (m + 3) (.inl rfl) (Int.le_refl _) (by omega) (by omega) rfl (fun m h0 h1 => (shl7 m h0 h1).1), Int.add_zero]
    by_cases hl : (x.length : Int) ≤ i
    · rw [if_pos hl, if_pos (.inr hl)]; rfl
    · rw [if_neg hl, if_neg (show ¬ (i < 0 ∨ (x.length : Int) ≤ i) by omega)]
      by_cases h0 : x.getD i.toNat 0 < 128
      · rw [if_pos h0, if_pos h0, if_neg (by omega), if_neg (by omega), show x.getD i.toNat 0 % 128 = x.getD i.toNat 0 by omega, Int.mul_one, Int.zero_add]; rfl
      · rw [if_neg h0, if_neg h0, Int.mul_one, Int.zero_add, Int.zero_add, impl_get_step x hn hx i hi 1 _ 128 _ (m + 2) (.inr (.inl rfl)) (by omega) (by omega) (by omega) rfl (fun m h0 h1 => (shl7 m h0 h1).2.1)]
        by_cases hl1 : (x.length : Int) ≤ i + 1
        · rw [if_pos hl1, if_pos hl1]; rfl
        · rw [if_neg hl1, if_neg hl1]
          by_cases h1 : x.getD (i + 1).toNat 0 < 128
          · rw [if_pos h1, if_pos h1]
            by_cases hz : x.getD (i + 1).toNat 0 = 0
            · rw [if_pos ⟨by omega, hz⟩, if_pos hz]; rfl
            · rw [if_neg (fun h => hz h.2), if_neg hz, if_neg (by omega), show i + 1 + 1 = i + 2 by omega]; rfl
          · rw [if_neg h1, if_neg h1, show (1 : Int) + 1 = 2 from rfl, impl_get_step x hn hx i hi 2 _ 16384 _ (m + 1) (.inr (.inr rfl)) (by omega) (by omega) (by omega) rfl (fun m h0 h1 => (shl7 m h0 h1).2.2)]
            by_cases hl2 : (x.length : Int) ≤ i + 2
            · rw [if_pos hl2, if_pos hl2]; rfl
            · rw [if_neg hl2, if_neg hl2]
              by_cases h2 : x.getD (i + 2).toNat 0 < 128
              · rw [if_pos h2, if_pos h2]
                by_cases hz : x.getD (i + 2).toNat 0 = 0
                · rw [if_pos ⟨by omega, hz⟩, if_pos hz]; rfl
                · rw [if_neg (fun h => hz h.2), if_neg hz]
                  by_cases hbig : 100000 < x.getD i.toNat 0 % 128 + x.getD (i + 1).toNat 0 % 128 * 128 + x.getD (i + 2).toNat 0 % 128 * 16384
                  · rw [if_pos hbig, if_pos hbig]; rfl
                  · rw [if_neg hbig, if_neg hbig, show i + 2 + 1 = i + 3 by omega]; rfl
              · rw [if_neg h2, if_neg h2]
                simp only [f_impl_GetNum.l0]
                rfl
  · rw [if_pos (.inl (by omega)), decide_eq_true (show i < 0 by omega)]
    rfl
theorem bits_small (n : Int) (h₀ : 0 ≤ n) (h₁ : n < 2 ^ 30) : IntKind.i64.wrap n = n := by
  have : (2 : Int) ^ 30 = 1073741824 := by decide
  exact w64 (by omega) (by omega)
theorem or_more (v m : Int) (t : Nat) (P : Nat) (hP : P = 2 ^ t) (ht : t ≤ 14) (h0 : 0 ≤ v) (h1 : v < P) (hm0 : 0 ≤ m) (hm : m < 128) : bitI .or .i64 v (m * P) = v + m * P := by
  obtain ⟨a, rfl⟩ := Int.eq_ofNat_of_zero_le h0
  obtain ⟨b, rfl⟩ := Int.eq_ofNat_of_zero_le hm0
  have ha : a < P := by exact_mod_cast h1
  have hp : P ≤ 2 ^ 14 := by rw [hP]; exact Nat.pow_le_pow_right (by omega) ht
  have e14 : 2 ^ 14 = 16384 := by decide
  have e30 : 2 ^ 30 = 1073741824 := by decide
  have hb : b * P ≤ 127 * 2 ^ 14 := Nat.mul_le_mul (by omega) hp
  have hc : ((b : Int) * P) = ((b * P : Nat) : Int) := by simp
  have hbits : bitI .or .i64 (a : Int) ((b * P : Nat) : Int) = Go.bits .or .i64 (a : Int) ((b * P : Nat) : Int) := rfl
  rw [hc, hbits, (bits_nat .i64 30 (by decide) bits_small a (b * P) (by omega) (by omega)).2, Nat.or_comm, Nat.mul_comm, hP, ← Nat.two_pow_add_eq_or_of_lt (by rw [← hP]; exact ha) b]
  omega
theorem spec_get_step (x : List Int) (hn : x.length ≤ 1048576) (hx : ∀ y ∈ x, 0 ≤ y ∧ y < 256) (i : Int) (hi : 0 ≤ i) (t v P b : Int) (n : Nat) (ht : t = 0 ∨ t = 1 ∨ t = 2) (_ : 0 ≤ v) (hb : x.getD (i + t).toNat 0 = b)
    (hsl : ∀ m : Int, 0 ≤ m → m < 128 → shlI .i64 m (7 * t) = m * P) (hor : ∀ m : Int, 0 ≤ m → m < 128 → bitI .or .i64 v (m * P) = v + m * P) :
    f_spec_GetNum.l0 (n + 1) x i 0 0 false v t = if (x.length : Int) ≤ i + t then some (.inl (0, 0, false)) else if b < 128 then (if 0 < t ∧ b = 0 then some (.inl (0, 0, false)) else if 100000 < v + b % 128 * P then some (.inl (0, 0, false)) else some (.inl (v + b % 128 * P, i + t + 1, true))) else f_spec_GetNum.l0 n x i 0 0 false (v + b % 128 * P) (t + 1) := by
  have hbb := byte_getD hx (i + t)
  rw [hb] at hbb
  simp only [f_spec_GetNum.l0]
  rw [decide_eq_true (show t < 3 by omega), decide_eq_false (show ¬ i < 0 by omega), w64 (show -9223372036854775808 ≤ (x.length : Int) - t by omega) (by omega)]
  by_cases hl : (x.length : Int) ≤ i + t
  · rw [if_pos hl, decide_eq_true (show (x.length : Int) - t ≤ i by omega)]; rfl
  · rw [if_neg hl, decide_eq_false (show ¬ (x.length : Int) - t ≤ i by omega), w64 (show -9223372036854775808 ≤ i + t by omega) (by omega), decide_eq_true (show 0 ≤ i + t by omega), decide_eq_true (show i + t < (x.length : Int) by omega), w64 (show -9223372036854775808 ≤ 7 * t by omega) (by omega), decide_eq_false (show ¬ 7 * t < 0 by omega), hb,
      w64 (show -9223372036854775808 ≤ b by omega) (by omega), Int.tmod_eq_emod_of_nonneg hbb.1, hsl _ (by omega) (by omega), hor _ (by omega) (by omega), w64 (show -9223372036854775808 ≤ i + t + 1 by omega) (by omega), w64 (show -9223372036854775808 ≤ t + 1 by omega) (by omega)]
    simp only [cond_true, cond_false, Bool.and_self]
    by_cases h1 : b < 128
    · rw [decide_eq_true h1, if_pos h1, cond_true]
      by_cases h2 : 0 < t
      · rw [decide_eq_true h2, cond_true]
        by_cases h3 : b = 0
        · rw [decide_eq_true h3, if_pos ⟨h2, h3⟩]; rfl
        · rw [decide_eq_false h3, if_neg (fun h => h3 h.2), cond_false]
          by_cases h4 : 100000 < v + b % 128 * P
          · rw [decide_eq_true h4, if_pos h4]; rfl
          · rw [decide_eq_false h4, if_neg h4]; rfl
      · rw [decide_eq_false h2, if_neg (fun h => h2 h.1), cond_false]
        by_cases h4 : 100000 < v + b % 128 * P
        · rw [decide_eq_true h4, if_pos h4]; rfl
        · rw [decide_eq_false h4, if_neg h4]; rfl
    · rw [decide_eq_false h1, if_neg h1]; rfl
theorem specGet (x : List Int) (hn : x.length ≤ 1048576) (hx : ∀ y ∈ x, 0 ≤ y ∧ y < 256) (i : Int) : f_spec_GetNum x i = some (getB x i) := by
  unfold f_spec_GetNum getB
  obtain ⟨m, hm⟩ : ∃ m, N = m + 4 := ⟨N - 4, rfl⟩
  rw [hm]
  by_cases hi : 0 ≤ i
  · have b0 := byte_getD hx i
    have b1 := byte_getD hx (i + 1)
    have b2 := byte_getD hx (i + 2)
    rw [spec_get_step x hn hx i hi 0 0 1 _ (m + 3) (.inl rfl) (Int.le_refl _) rfl (fun m h0 h1 => (shl7 m h0 h1).1) (fun m h0 h1 => or_more 0 m 0 1 rfl (by omega) (by omega) (by omega) h0 h1), Int.add_zero]
    by_cases hl : (x.length : Int) ≤ i
    · rw [if_pos hl, if_pos (.inr hl)]; rfl
    · rw [if_neg hl, if_neg (show ¬ (i < 0 ∨ (x.length : Int) ≤ i) by omega)]
      by_cases h0 : x.getD i.toNat 0 < 128
      · rw [if_pos h0, if_pos h0, if_neg (by omega), if_neg (by omega), show x.getD i.toNat 0 % 128 = x.getD i.toNat 0 by omega, Int.mul_one, Int.zero_add]; rfl
      · rw [if_neg h0, if_neg h0, Int.mul_one, Int.zero_add, Int.zero_add, spec_get_step x hn hx i hi 1 _ 128 _ (m + 2) (.inr (.inl rfl)) (by omega) rfl (fun m h0 h1 => (shl7 m h0 h1).2.1) (fun m h0 h1 => or_more _ m 7 128 rfl (by omega) (by omega) (by omega) h0 h1)]
        by_cases hl1 : (x.length : Int) ≤ i + 1
        · rw [if_pos hl1, if_pos hl1]; rfl
        · rw [if_neg hl1, if_neg hl1]
          by_cases h1 : x.getD (i + 1).toNat 0 < 128
          · rw [if_pos h1, if_pos h1]
            by_cases hz : x.getD (i + 1).toNat 0 = 0
            · rw [if_pos ⟨by omega, hz⟩, if_pos hz]; rfl
            · rw [if_neg (fun h => hz h.2), if_neg hz, if_neg (by omega), show i + 1 + 1 = i + 2 by omega]; rfl
          · rw [if_neg h1, if_neg h1, show (1 : Int) + 1 = 2 from rfl, spec_get_step x hn hx i hi 2 _ 16384 _ (m + 1) (.inr (.inr rfl)) (by omega) rfl (fun m h0 h1 => (shl7 m h0 h1).2.2) (fun m h0 h1 => or_more _ m 14 16384 rfl (by omega) (by omega) (by omega) h0 h1)]
            by_cases hl2 : (x.length : Int) ≤ i + 2
            · rw [if_pos hl2, if_pos hl2]; rfl
            · rw [if_neg hl2, if_neg hl2]
              by_cases h2 : x.getD (i + 2).toNat 0 < 128
              · rw [if_pos h2, if_pos h2]
                by_cases hz : x.getD (i + 2).toNat 0 = 0
                · rw [if_pos ⟨by omega, hz⟩, if_pos hz]; rfl
                · rw [if_neg (fun h => hz h.2), if_neg hz]
                  by_cases hbig : 100000 < x.getD i.toNat 0 % 128 + x.getD (i + 1).toNat 0 % 128 * 128 + x.getD (i + 2).toNat 0 % 128 * 16384
                  · rw [if_pos hbig, if_pos hbig]; rfl
                  · rw [if_neg hbig, if_neg hbig, show i + 2 + 1 = i + 3 by omega]; rfl
              · rw [if_neg h2, if_neg h2]
                simp only [f_spec_GetNum.l0]
                rfl
  · rw [if_pos (.inl (by omega))]
    simp only [f_spec_GetNum.l0]
    rw [decide_eq_true (show i < 0 by omega)]
    rfl
theorem msgOk_true (x0 x1 : Int) (x2 : Bool) (x3 : List Int) (hn : x3.length ≤ 1048576) (h : f_spec_MsgOk x0 x1 x2 x3 = some true) : x3.length ≤ 4 := by
  unfold f_spec_MsgOk at h
  simp only [specWords x3 hn, in_rg, Option.bind_some] at h
  cases h3 : decide (x0 = (3 : Int)) <;> cases h7 : decide (x0 = (7 : Int)) <;> cases h6 : decide (x0 = (6 : Int)) <;> cases hr : rg x0 1 7 <;> cases hp : rg x1 0 5 <;> cases x2 <;>
    simp only [h3, h7, h6, hr, hp, cond_true, cond_false, Bool.not_true, Bool.not_false, Option.some.injEq, Bool.and_eq_true, decide_eq_true_eq, Bool.false_eq_true] at h <;> omega
theorem bytes_loop {F : Nat → Int → List Int → Option (List Int)} (z : List Int) (hz : z.length ≤ 1000) (h0 : ∀ n i y, ¬ i < (z.length : Int) → F (n + 1) i y = some y)
    (h1 : ∀ n i y, 0 ≤ i → i < (z.length : Int) → F (n + 1) i y = bif Nat.blt (y.length + (putB (z.getD i.toNat 0)).length) 140737488355328 then F n (i + 1) (y ++ putB (z.getD i.toNat 0)) else none) (k : Nat) :
    ∀ (n : Nat) (i : Int) (y : List Int), y.length ≤ 1000000 - 3 * k → 0 ≤ i → i ≤ z.length → (z.length : Int) - i = k → k < n → F n i y = some (y ++ (z.drop i.toNat).flatMap putB) := by
  induction k with
  | zero =>
    intro n i y hy a0 a1 hd hn
    obtain ⟨n, rfl⟩ := succ_fuel hn
    rw [h0 n i y (by omega), List.drop_eq_nil_of_le (by omega)]
    simp
  | succ k ih =>
    intro n i y hy a0 a1 hd hn
    obtain ⟨n, rfl⟩ := succ_fuel hn
    have hl := putB_length (z.getD i.toNat 0)
    rw [h1 n i y a0 (by omega), (blt_iff _ _).2 (by omega), cond_true, ih n (i + 1) _ (by rw [List.length_append]; omega) (by omega) (by omega) (by omega) (by omega), drop_getD z 0 i a0 (by omega), List.flatMap_cons, List.append_assoc]
theorem flat_length (z : List Int) : (z.flatMap putB).length ≤ 3 * z.length := by
  induction z with
  | nil => simp
  | cons a z ih => have := putB_length a; simp only [List.flatMap_cons, List.length_append, List.length_cons]; omega
def msgB (x0 x1 : Int) (x2 : Bool) (x3 : List Int) : List Int := ([x0, x1, bif x2 then 1 else 0] ++ x3).flatMap putB
theorem same_msgBytes (x0 x1 : Int) (x2 : Bool) (x3 : List Int) (hn : x3.length ≤ 1048576) : ∃ r, f_spec_MsgBytes x0 x1 x2 x3 = some r ∧ f_impl_MsgBytes x0 x1 x2 x3 = some r ∧ r.length ≤ 100 ∧ (f_spec_MsgOk x0 x1 x2 x3 = some true → r = msgB x0 x1 x2 x3) := by
  obtain ⟨b, e1, e2⟩ := same_msgOk x0 x1 x2 x3 hn
  unfold f_spec_MsgBytes f_impl_MsgBytes
  rw [e1, e2]
  cases b with
  | false => exact ⟨[], rfl, rfl, by simp, fun h => by cases h⟩
  | true =>
    have hl := msgOk_true x0 x1 x2 x3 hn e1
    have q0 := putB_length x0
    have q1 := putB_length x1
    have q2 := putB_length (bif x2 then 1 else 0)
    have s : ∀ y : List Int, y.length ≤ 100 → f_spec_MsgBytes.l0 N 0 x0 x1 x2 x3 y = some (y ++ x3.flatMap putB) := by
      intro y hy
      have := bytes_loop (F := fun n i y => f_spec_MsgBytes.l0 n i x0 x1 x2 x3 y) x3 (by omega) (fun n i y h => by simp only [f_spec_MsgBytes.l0, decide_eq_false h, cond_false])
        (fun n i y a0 a1 => by simp only [f_spec_MsgBytes.l0, decide_eq_true a0, decide_eq_true a1, specPut, cond_true, Bool.and_self, Option.bind_some, w64 (show -9223372036854775808 ≤ i + 1 by omega) (by omega)])
        x3.length N 0 y (by omega) (by omega) (by omega) (by omega) (Nat.lt_of_le_of_lt hn (Nat.lt_trans (by omega) big))
      simpa using this
    have i : ∀ z : List Int, z.length ≤ 100 → f_impl_MsgBytes.l0 N (z.length : Int) 0 [] z = some (z.flatMap putB) := by
      intro z hz
      have := bytes_loop (F := fun n i y => f_impl_MsgBytes.l0 n (z.length : Int) i y z) z (by omega) (fun n i y h => by simp only [f_impl_MsgBytes.l0, decide_eq_false h, cond_false])
        (fun n i y a0 a1 => by simp only [f_impl_MsgBytes.l0, decide_eq_true a0, decide_eq_true a1, implPut, cond_true, Bool.and_self, Option.bind_some, w64 (show -9223372036854775808 ≤ i + 1 by omega) (by omega)])
        z.length N 0 [] (Nat.zero_le _) (by omega) (by omega) (by omega) (Nat.lt_trans (by omega) big)
      simpa using this
    have eb : f_spec_l1Bit x2 = some (bif x2 then 1 else 0) := by unfold f_spec_l1Bit; cases x2 <;> rfl
    have hl1 : (([x0, x1, bif x2 then 1 else 0] ++ x3).flatMap putB).length ≤ 100 := by
      have := flat_length ([x0, x1, bif x2 then 1 else 0] ++ x3)
      simp only [List.length_append, List.length_cons, List.length_nil] at this
      omega
    refine ⟨msgB x0 x1 x2 x3, ?_, ?_, hl1, fun _ => rfl⟩
    · simp only [Option.bind_some, Bool.not_true, cond_false, specPut, eb]
      rw [(blt_iff _ _).2 (show (putB x0).length + (putB x1).length < 140737488355328 by omega)]
      simp only [cond_true]
      rw [(blt_iff _ _).2 (show (putB x0 ++ putB x1).length + (putB (bif x2 then 1 else 0)).length < 140737488355328 by rw [List.length_append]; omega)]
      simp only [cond_true]
      rw [s _ (by simp only [List.length_append]; omega)]
      unfold msgB
      simp [List.append_assoc]
    · simp only [Option.bind_some, Bool.not_true, cond_false]
      cases x2 with
      | true =>
        simp only [cond_true]
        rw [(blt_iff _ _).2 (show ([x0, x1, 1] : List Int).length + x3.length < 17592186044416 by simp; omega), cond_true, i _ (by simp; omega)]
        rfl
      | false =>
        simp only [cond_false]
        rw [(blt_iff _ _).2 (show ([x0, x1, 0] : List Int).length + x3.length < 17592186044416 by simp; omega), cond_true, i _ (by simp; omega)]
        rfl
theorem toList_loop (bs : ByteArray) (i : Nat) (r : List UInt8) : ByteArray.toList.loop bs i r = r.reverse ++ bs.data.toList.drop i := by
  fun_induction ByteArray.toList.loop bs i r with
  | case1 i r h ih =>
    rw [ih]
    have h' : i < bs.data.toList.length := by simpa using h
    rw [List.drop_eq_getElem_cons h', List.reverse_cons, List.append_assoc]
    congr 1
    simp only [List.singleton_append, List.cons.injEq, and_true]
    simp [ByteArray.get!]
    rw [getElem!_pos bs.data i (by simpa using h)]
  | case2 i r h =>
    rw [List.drop_eq_nil_of_le (by simpa using h)]
    simp
theorem bytes_list (x : List Int) : (bytesOfRows x).toList = x.map fun n => UInt8.ofNat n.toNat := by
  unfold ByteArray.toList
  rw [toList_loop]
  simp [bytesOfRows]
theorem bytes_ne {x y : List Int} (h : x.length ≠ y.length) : ((bytesOfRows x).toList == (bytesOfRows y).toList) = false := by
  rw [bytes_list, bytes_list, beq_eq_false_iff_ne]
  intro e
  have := congrArg List.length e
  simp at this
  exact h this
theorem getB_len (x : List Int) (hx : ∀ y ∈ x, 0 ≤ y ∧ y < 256) (i : Int) (h : (getB x i).2.2 = true) : 0 ≤ i ∧ i < x.length ∧ (getB x i).2.1 = i + ((putB (getB x i).1).length : Int) ∧ 1 ≤ (putB (getB x i).1).length := by
  have b0 := byte_getD hx i
  have b1 := byte_getD hx (i + 1)
  have b2 := byte_getD hx (i + 2)
  unfold getB at h ⊢
  by_cases hl : i < 0 ∨ (x.length : Int) ≤ i
  · rw [if_pos hl] at h; cases h
  · rw [if_neg hl] at h ⊢
    refine ⟨by omega, by omega, ?_⟩
    by_cases h0 : x.getD i.toNat 0 < 128
    · rw [if_pos h0] at h ⊢
      unfold putB
      simp only
      rw [if_neg (by omega), if_pos (by omega)]
      exact ⟨rfl, by simp⟩
    · rw [if_neg h0] at h ⊢
      by_cases hl1 : (x.length : Int) ≤ i + 1
      · rw [if_pos hl1] at h; cases h
      · rw [if_neg hl1] at h ⊢
        by_cases h1 : x.getD (i + 1).toNat 0 < 128
        · rw [if_pos h1] at h ⊢
          by_cases hz : x.getD (i + 1).toNat 0 = 0
          · rw [if_pos hz] at h; cases h
          · rw [if_neg hz]
            unfold putB
            simp only
            rw [if_neg (by omega), if_neg (by omega), if_pos (by omega)]
            exact ⟨rfl, by simp⟩
        · rw [if_neg h1] at h ⊢
          by_cases hl2 : (x.length : Int) ≤ i + 2
          · rw [if_pos hl2] at h; cases h
          · rw [if_neg hl2] at h ⊢
            by_cases h2 : x.getD (i + 2).toNat 0 < 128
            · rw [if_pos h2] at h ⊢
              by_cases hz : x.getD (i + 2).toNat 0 = 0
              · rw [if_pos hz] at h; cases h
              · rw [if_neg hz] at h ⊢
                by_cases hbig : 100000 < x.getD i.toNat 0 % 128 + x.getD (i + 1).toNat 0 % 128 * 128 + x.getD (i + 2).toNat 0 % 128 * 16384
                · rw [if_pos hbig] at h; cases h
                · rw [if_neg hbig]
                  unfold putB
                  simp only
                  rw [if_neg (by omega), if_neg (by omega), if_neg (by omega)]
                  exact ⟨rfl, by simp⟩
            · rw [if_neg h2] at h; cases h
theorem three {v : List Int} (h : 3 ≤ v.length) : ∃ a b c r, v = a :: b :: c :: r := by
  match v, h with
  | a :: b :: c :: r, _ => exact ⟨a, b, c, r, rfl⟩
inductive Coll (x : List Int) (s : Option ((Bool × Int × Int × Bool × List Int) ⊕ (List Int × Bool × Int × Int × Bool × List Int × List Int))) (t : Option ((Bool × Int × Int × Bool × List Int) ⊕ (List Int × Bool × Int × Int × Bool × List Int × List Int))) : Prop where
  | bad (hs : s = some (.inl (false, 0, 0, false, []))) (ht : t = some (.inl (false, 0, 0, false, [])))
  | good (v : List Int) (hv : v.length ≤ 7) (hp : v = [] ∨ 0 < x.length) (hs : s = some (.inr (x, false, 0, 0, false, v, []))) (ht : t = some (.inr (x, false, 0, 0, false, v, [])))
  | long (v : List Int) (hv : v.length = 7) (hl : (v.flatMap putB).length < x.length) (h1 : ∀ a ∈ v, 1 ≤ (putB a).length) (hs : s = some (.inl (false, 0, 0, false, [])) ∨ ∃ a, s = some (.inr (x, false, 0, 0, false, v ++ [a], []))) (ht : t = some (.inr (x, false, 0, 0, false, v, [])))
theorem coll_loop (x : List Int) (hn : x.length ≤ 1048576) (hx : ∀ y ∈ x, 0 ≤ y ∧ y < 256) (k : Nat) : ∀ (n m : Nat) (i : Int) (v : List Int), v.length + k = 7 → i = ((v.flatMap putB).length : Int) → (v = [] ∨ 0 < x.length) → (∀ a ∈ v, 1 ≤ (putB a).length) → k + 3 < n → k + 3 < m →
    Coll x (f_spec_MsgOf.l0 n x false i 0 0 false v []) (f_impl_MsgOf.l0 m x false i 0 0 false v []) := by
  induction k with
  | zero =>
    intro n m i v hv hi hp h1 hn' hm'
    obtain ⟨n, rfl⟩ := succ_fuel hn'
    obtain ⟨m, rfl⟩ := succ_fuel hm'
    by_cases hl : i < (x.length : Int)
    · refine .long v hv (by omega) h1 ?_ ?_
      · simp only [f_spec_MsgOf.l0, decide_eq_true hl, decide_eq_true (show (v.length : Int) < 8 by omega), cond_true, specGet x hn hx, Option.bind_some]
        cases hg : (getB x i).2.2 with
        | false => exact .inl rfl
        | true =>
          obtain ⟨n, rfl⟩ : ∃ m, n = m + 1 := ⟨n - 1, by omega⟩
          right
          refine ⟨(getB x i).1, ?_⟩
          simp only [Bool.not_true, cond_false, List.length_cons, List.length_nil, Nat.zero_add, (blt_iff _ _).2 (show v.length + 1 < 17592186044416 by omega), cond_true, f_spec_MsgOf.l0, List.length_append]
          rw [decide_eq_false (show ¬ ((v.length + 1 : Nat) : Int) < 8 by omega)]
          cases decide ((getB x i).2.1 < (x.length : Int)) <;> rfl
      · simp only [f_impl_MsgOf.l0, decide_eq_true hl, decide_eq_false (show ¬ (v.length : Int) < 7 by omega), cond_true, cond_false]
    · refine .good v (by omega) hp ?_ ?_
      · simp only [f_spec_MsgOf.l0, decide_eq_false hl, cond_false]
      · simp only [f_impl_MsgOf.l0, decide_eq_false hl, cond_false]
  | succ k ih =>
    intro n m i v hv hi hp h1 hn' hm'
    obtain ⟨n, rfl⟩ := succ_fuel hn'
    obtain ⟨m, rfl⟩ := succ_fuel hm'
    by_cases hl : i < (x.length : Int)
    · simp only [f_spec_MsgOf.l0, f_impl_MsgOf.l0, decide_eq_true hl, decide_eq_true (show (v.length : Int) < 8 by omega), decide_eq_true (show (v.length : Int) < 7 by omega), cond_true, specGet x hn hx, implGet x hn hx, Option.bind_some, List.length_cons, List.length_nil, Nat.zero_add, (blt_iff _ _).2 (show v.length + 1 < 17592186044416 by omega)]
      cases hg : (getB x i).2.2 with
      | false => exact .bad rfl rfl
      | true =>
        obtain ⟨g1, g2, g3, g4⟩ := getB_len x hx i hg
        simp only [Bool.not_true, cond_false]
        refine ih n m _ (v ++ [(getB x i).1]) (by simp; omega) ?_ (.inr (by omega)) (fun a ha => ?_) (by omega) (by omega)
        · rw [g3, hi]
          simp
        · rcases List.mem_append.1 ha with ha | ha
          · exact h1 a ha
          · simp at ha; rw [ha]; exact g4
    · refine .good v (by omega) hp ?_ ?_
      · simp only [f_spec_MsgOf.l0, decide_eq_false hl, cond_false]
      · simp only [f_impl_MsgOf.l0, decide_eq_false hl, cond_false]
theorem msgBytes_long (x0 x1 : Int) (x2 : Bool) (x3 : List Int) (hn : x3.length ≤ 1048576) : ∃ r, f_spec_MsgBytes x0 x1 x2 x3 = some r ∧ f_impl_MsgBytes x0 x1 x2 x3 = some r ∧ r.length ≤ 100 ∧ (r = [] ∨ (x3.length ≤ 4 ∧ r = msgB x0 x1 x2 x3)) := by
  obtain ⟨r, h1, h2, h3, h4⟩ := same_msgBytes x0 x1 x2 x3 hn
  refine ⟨r, h1, h2, h3, ?_⟩
  obtain ⟨b, e1, e2⟩ := same_msgOk x0 x1 x2 x3 hn
  cases b with
  | true => exact .inr ⟨msgOk_true x0 x1 x2 x3 hn e1, h4 e1⟩
  | false =>
    unfold f_spec_MsgBytes at h1
    rw [e1] at h1
    exact .inl (Option.some.inj h1).symm
theorem same_msgOf (x : List Int) (hn : x.length ≤ 1048576) (hx : ∀ y ∈ x, 0 ≤ y ∧ y < 256) : ∃ r, f_spec_MsgOf x = some r ∧ f_impl_MsgOf x = some r ∧ r.2.2.2.1.length ≤ 100 := by
  unfold f_spec_MsgOf f_impl_MsgOf
  have hN : 7 + 3 < N := Nat.lt_trans (by omega) big
  have H := coll_loop x hn hx 7 N N 0 [] rfl rfl (.inl rfl) (fun a ha => by cases ha) hN hN
  generalize f_spec_MsgOf.l0 N x false 0 0 0 false [] [] = s at H
  generalize f_impl_MsgOf.l0 N x false 0 0 0 false [] [] = t at H
  cases H with
  | bad hs ht => subst hs ht; exact ⟨_, rfl, rfl, by simp⟩
  | good v hv hp hs ht =>
    subst hs ht
    simp only [Option.bind_some, cs]
    by_cases h3 : (v.length : Int) < 3
    · rw [decide_eq_true h3]; exact ⟨_, rfl, rfl, by simp⟩
    · obtain ⟨a, b, c, r, rfl⟩ := three (v := v) (by omega)
      have hlen : ((a :: b :: c :: r).length : Int) = r.length + 3 := by simp; omega
      have hr : r.length ≤ 4 := by simp at hv; omega
      have ht : List.take (((a :: b :: c :: r).length : Int) - 3).toNat (List.drop 3 (a :: b :: c :: r)) = r := by
        rw [hlen]
        simp
      obtain ⟨y, y1, y2, y3, y4⟩ := msgBytes_long a b (decide (c = 1)) r (by omega)
      rw [ht]
      simp only [decide_eq_false h3, decide_eq_true (show (0 : Int) < ((a :: b :: c :: r).length : Int) by omega), decide_eq_true (show (1 : Int) < ((a :: b :: c :: r).length : Int) by omega), decide_eq_true (show (2 : Int) < ((a :: b :: c :: r).length : Int) by omega), decide_eq_true (show (3 : Int) ≤ ((a :: b :: c :: r).length : Int) by omega), cond_true, cond_false, List.length_nil, Nat.zero_add,
        (blt_iff _ _).2 (show r.length < 17592186044416 by omega), List.nil_append, Option.bind_some, List.getD_cons_zero, List.getD_cons_succ, y1, y2, f_bytes_Equal]
      rcases y4 with rfl | ⟨_, rfl⟩
      · rw [bytes_ne (show ([] : List Int).length ≠ x.length by
          rcases hp with hp | hp
          · cases hp
          · simp; omega)]
        exact ⟨_, rfl, rfl, by simp⟩
      · by_cases h0 : ((msgB a b (decide (c = 1)) r).length : Int) = 0
        · rw [decide_eq_true h0, bytes_ne (show (msgB a b (decide (c = 1)) r).length ≠ x.length by
            rcases hp with hp | hp
            · cases hp
            · omega)]
          exact ⟨_, rfl, rfl, by simp⟩
        · rw [decide_eq_false h0]
          cases (bytesOfRows (msgB a b (decide (c = 1)) r)).toList == (bytesOfRows x).toList with
          | false => exact ⟨_, rfl, rfl, by simp⟩
          | true => exact ⟨_, rfl, rfl, by simp; omega⟩
  | long v hv hl h1 hs ht =>
    refine ⟨(0, 0, false, [], false), ?_, ?_, by simp⟩
    · rcases hs with rfl | ⟨e, rfl⟩
      · rfl
      · simp only [Option.bind_some, cs]
        obtain ⟨a, b, c, r, hr⟩ := three (v := v ++ [e]) (by simp; omega)
        rw [hr]
        have hl8 : (v ++ [e]).length = 8 := by simp; omega
        rw [hr] at hl8
        have hlen : ((a :: b :: c :: r).length : Int) = r.length + 3 := by simp; omega
        have hr5 : r.length = 5 := by simp at hl8; omega
        have ht : List.take (((a :: b :: c :: r).length : Int) - 3).toNat (List.drop 3 (a :: b :: c :: r)) = r := by
          rw [hlen]
          simp
        obtain ⟨y, y1, y2, y3, y4⟩ := msgBytes_long a b (decide (c = 1)) r (by omega)
        have hy : y = [] := by
          rcases y4 with h | ⟨h, _⟩
          · exact h
          · omega
        subst hy
        rw [ht]
        simp only [decide_eq_false (show ¬ ((a :: b :: c :: r).length : Int) < 3 by omega), decide_eq_true (show (0 : Int) < ((a :: b :: c :: r).length : Int) by omega), decide_eq_true (show (1 : Int) < ((a :: b :: c :: r).length : Int) by omega), decide_eq_true (show (2 : Int) < ((a :: b :: c :: r).length : Int) by omega), decide_eq_true (show (3 : Int) ≤ ((a :: b :: c :: r).length : Int) by omega), cond_true, cond_false, List.length_nil, Nat.zero_add,
          (blt_iff _ _).2 (show r.length < 17592186044416 by omega), List.nil_append, Option.bind_some, List.getD_cons_zero, List.getD_cons_succ, y1]
        rw [bytes_ne (show ([] : List Int).length ≠ x.length by simp; omega)]
        rfl
    · subst ht
      simp only [Option.bind_some, cs]
      obtain ⟨a, b, c, r, rfl⟩ := three (v := v) (by omega)
      have hlen : ((a :: b :: c :: r).length : Int) = r.length + 3 := by simp; omega
      have hr4 : r.length = 4 := by simp at hv; omega
      have ht : List.take (((a :: b :: c :: r).length : Int) - 3).toNat (List.drop 3 (a :: b :: c :: r)) = r := by
        rw [hlen]
        simp
      obtain ⟨y, y1, y2, y3, y4⟩ := msgBytes_long a b (decide (c = 1)) r (by omega)
      rw [ht]
      simp only [decide_eq_false (show ¬ ((a :: b :: c :: r).length : Int) < 3 by omega), decide_eq_true (show (0 : Int) < ((a :: b :: c :: r).length : Int) by omega), decide_eq_true (show (1 : Int) < ((a :: b :: c :: r).length : Int) by omega), decide_eq_true (show (2 : Int) < ((a :: b :: c :: r).length : Int) by omega), decide_eq_true (show (3 : Int) ≤ ((a :: b :: c :: r).length : Int) by omega), cond_true, cond_false, Option.bind_some, List.getD_cons_zero, List.getD_cons_succ, y2, f_bytes_Equal]
      rcases y4 with rfl | ⟨_, rfl⟩
      · rfl
      · have hc := h1 c (.tail _ (.tail _ (.head _)))
        have hb : (putB (bif decide (c = 1) then 1 else 0)).length = 1 := by cases decide (c = 1) <;> rfl
        have hlt : (msgB a b (decide (c = 1)) r).length < x.length := by
          unfold msgB
          simp only [List.cons_append, List.nil_append, List.flatMap_cons, List.length_append] at hl ⊢
          omega
        rw [bytes_ne (show (msgB a b (decide (c = 1)) r).length ≠ x.length by omega)]
        cases decide (((msgB a b (decide (c = 1)) r).length : Int) = 0) <;> rfl
theorem putB_bytes (v : Int) : ∀ b ∈ putB v, 0 ≤ b ∧ b < 256 := by
  unfold putB
  split
  · simp
  · split
    · simp; omega
    · split
      · simp; omega
      · simp; omega
theorem drop_get {α : Type} (x : List α) (d : α) (i : Int) (k : Nat) (h : 0 ≤ i) : x.getD (i + k).toNat d = (x.drop i.toNat).getD k d := by
  rw [List.getD_eq_getElem?_getD, List.getD_eq_getElem?_getD, List.getElem?_drop]
  congr 2
  omega
theorem putB1 (v : Int) (h0 : 0 ≤ v) (h1 : v ≤ 127) : putB v = [v] := by unfold putB; rw [if_neg (by omega), if_pos h1]
theorem putB2 (v : Int) (h0 : ¬ v ≤ 127) (h1 : v ≤ 16383) : putB v = [v % 128 + 128, v / 128] := by unfold putB; rw [if_neg (by omega), if_neg h0, if_pos h1]
theorem putB3 (v : Int) (h0 : ¬ v ≤ 16383) (h1 : v ≤ 100000) : putB v = [v % 128 + 128, v / 128 % 128 + 128, v / 16384] := by unfold putB; rw [if_neg (by omega), if_neg (by omega), if_neg h0]
/-- What was put is read as it was. -/
theorem get_put (x rest : List Int) (i v : Int) (hi : 0 ≤ i) (hv0 : 0 ≤ v) (hv1 : v ≤ 100000) (hx : x.drop i.toNat = putB v ++ rest) : getB x i = (v, i + ((putB v).length : Int), true) := by
  have hl := congrArg List.length hx
  rw [List.length_drop, List.length_append] at hl
  have g0 := drop_get x 0 i 0 hi
  have g1 := drop_get x 0 i 1 hi
  have g2 := drop_get x 0 i 2 hi
  rw [hx] at g0 g1 g2
  have e0 : i + ((0 : Nat) : Int) = i := by omega
  have e1 : i + ((1 : Nat) : Int) = i + 1 := by omega
  have e2 : i + ((2 : Nat) : Int) = i + 2 := by omega
  rw [e0] at g0; rw [e1] at g1; rw [e2] at g2
  unfold getB
  clear e0 e1 e2 hx
  by_cases h1 : v ≤ 127
  · rw [putB1 v hv0 h1] at hl g0 ⊢
    simp only [List.cons_append, List.getD_cons_zero, List.length_singleton] at hl g0 ⊢
    rw [g0, if_neg (by omega), if_pos (by omega)]
    rfl
  · by_cases h2 : v ≤ 16383
    · rw [putB2 v h1 h2] at hl g0 g1 ⊢
      simp only [List.cons_append, List.getD_cons_zero, List.getD_cons_succ, List.length_cons, List.length_nil] at hl g0 g1 ⊢
      rw [g0, g1, if_neg (by omega), if_neg (by omega), if_neg (by omega), if_pos (by omega), if_neg (by omega)]
      refine Prod.ext ?_ (Prod.ext ?_ rfl)
      · show (v % 128 + 128) % 128 + v / 128 % 128 * 128 = v
        omega
      · show i + 2 = i + ((0 + 1 + 1 : Nat) : Int)
        omega
    · rw [putB3 v h2 hv1] at hl g0 g1 g2 ⊢
      simp only [List.cons_append, List.getD_cons_zero, List.getD_cons_succ, List.length_cons, List.length_nil] at hl g0 g1 g2 ⊢
      rw [g0, g1, g2, if_neg (by omega), if_neg (by omega), if_neg (by omega), if_neg (by omega), if_neg (by omega), if_pos (by omega), if_neg (by omega), if_neg (by omega)]
      refine Prod.ext ?_ (Prod.ext ?_ rfl)
      · show (v % 128 + 128) % 128 + (v / 128 % 128 + 128) % 128 * 128 + v / 16384 % 128 * 16384 = v
        omega
      · show i + 3 = i + ((0 + 1 + 1 + 1 : Nat) : Int)
        omega
theorem take_1 (x : List Int) (i : Int) (h0 : 0 ≤ i) (h1 : i < x.length) : (x.drop i.toNat).take 1 = [x.getD i.toNat 0] := by
  rw [drop_getD x 0 i h0 h1]; rfl
theorem take_2 (x : List Int) (i : Int) (h0 : 0 ≤ i) (h1 : i + 1 < x.length) : (x.drop i.toNat).take 2 = [x.getD i.toNat 0, x.getD (i + 1).toNat 0] := by
  rw [drop_getD x 0 i h0 (by omega), drop_getD x 0 (i + 1) (by omega) (by omega)]; rfl
theorem take_3 (x : List Int) (i : Int) (h0 : 0 ≤ i) (h1 : i + 2 < x.length) : (x.drop i.toNat).take 3 = [x.getD i.toNat 0, x.getD (i + 1).toNat 0, x.getD (i + 2).toNat 0] := by
  rw [drop_getD x 0 i h0 (by omega), drop_getD x 0 (i + 1) (by omega) (by omega), drop_getD x 0 (i + 1 + 1) (by omega) (by omega), show i + 1 + 1 = i + 2 by omega]; rfl
/-- What is read stands there as it is put. -/
theorem get_canon (x : List Int) (hx : ∀ y ∈ x, 0 ≤ y ∧ y < 256) (i : Int) : getB x i = (0, 0, false) ∨ ∃ v j, getB x i = (v, j, true) ∧ 0 ≤ i ∧ i < j ∧ j ≤ x.length ∧ 0 ≤ v ∧ v ≤ 100000 ∧ j = i + ((putB v).length : Int) ∧ (x.drop i.toNat).take (j - i).toNat = putB v := by
  have b0 := byte_getD hx i
  have b1 := byte_getD hx (i + 1)
  have b2 := byte_getD hx (i + 2)
  unfold getB
  by_cases h : i < 0 ∨ (x.length : Int) ≤ i
  · rw [if_pos h]; exact .inl rfl
  rw [if_neg h]
  by_cases h0 : x.getD i.toNat 0 < 128
  · rw [if_pos h0]
    refine .inr ⟨_, _, rfl, by omega, by omega, by omega, by omega, by omega, ?_, ?_⟩
    · unfold putB; rw [if_neg (by omega), if_pos (by omega)]; rfl
    · rw [show (i + 1 - i).toNat = 1 by omega, take_1 x i (by omega) (by omega)]
      unfold putB; rw [if_neg (by omega), if_pos (by omega)]
  rw [if_neg h0]
  by_cases hl1 : (x.length : Int) ≤ i + 1
  · rw [if_pos hl1]; exact .inl rfl
  rw [if_neg hl1]
  by_cases h1 : x.getD (i + 1).toNat 0 < 128
  · rw [if_pos h1]
    by_cases hz : x.getD (i + 1).toNat 0 = 0
    · rw [if_pos hz]; exact .inl rfl
    rw [if_neg hz]
    refine .inr ⟨_, _, rfl, by omega, by omega, by omega, by omega, by omega, ?_, ?_⟩
    · unfold putB; rw [if_neg (by omega), if_neg (by omega), if_pos (by omega)]; rfl
    · rw [show (i + 2 - i).toNat = 2 by omega, take_2 x i (by omega) (by omega)]
      unfold putB; rw [if_neg (by omega), if_neg (by omega), if_pos (by omega)]
      congr 1
      · omega
      · congr 1
        omega
  rw [if_neg h1]
  by_cases hl2 : (x.length : Int) ≤ i + 2
  · rw [if_pos hl2]; exact .inl rfl
  rw [if_neg hl2]
  by_cases h2 : x.getD (i + 2).toNat 0 < 128
  · rw [if_pos h2]
    by_cases hz : x.getD (i + 2).toNat 0 = 0
    · rw [if_pos hz]; exact .inl rfl
    rw [if_neg hz]
    by_cases hbig : 100000 < x.getD i.toNat 0 % 128 + x.getD (i + 1).toNat 0 % 128 * 128 + x.getD (i + 2).toNat 0 % 128 * 16384
    · rw [if_pos hbig]; exact .inl rfl
    rw [if_neg hbig]
    refine .inr ⟨_, _, rfl, by omega, by omega, by omega, by omega, by omega, ?_, ?_⟩
    · unfold putB; rw [if_neg (by omega), if_neg (by omega), if_neg (by omega)]; rfl
    · rw [show (i + 3 - i).toNat = 3 by omega, take_3 x i (by omega) (by omega)]
      unfold putB; rw [if_neg (by omega), if_neg (by omega), if_neg (by omega)]
      congr 1
      · omega
      · congr 1
        · omega
        · congr 1
          omega
  · rw [if_neg h2]; exact .inl rfl
theorem collI_loop (x : List Int) (hn : x.length ≤ 1048576) (hx : ∀ y ∈ x, 0 ≤ y ∧ y < 256) (k : Nat) : ∀ (m : Nat) (i : Int) (v : List Int), v.length + k = 7 → k < m →
    f_impl_MsgOf.l0 m x false i 0 0 false v [] = some (.inl (false, 0, 0, false, [])) ∨ ∃ v', v'.length ≤ 7 ∧ f_impl_MsgOf.l0 m x false i 0 0 false v [] = some (.inr (x, false, 0, 0, false, v', [])) := by
  induction k with
  | zero =>
    intro m i v hv hm
    obtain ⟨m, rfl⟩ := succ_fuel hm
    refine .inr ⟨v, by omega, ?_⟩
    simp only [f_impl_MsgOf.l0, decide_eq_false (show ¬ (v.length : Int) < 7 by omega), cond_false]
    cases decide (i < (x.length : Int)) <;> rfl
  | succ k ih =>
    intro m i v hv hm
    obtain ⟨m, rfl⟩ := succ_fuel hm
    by_cases hl : i < (x.length : Int)
    · simp only [f_impl_MsgOf.l0, decide_eq_true hl, decide_eq_true (show (v.length : Int) < 7 by omega), cond_true, implGet x hn hx, Option.bind_some, List.length_singleton, (blt_iff _ _).2 (show v.length + 1 < 17592186044416 by omega)]
      cases (getB x i).2.2 with
      | false => exact .inl rfl
      | true =>
        simp only [Bool.not_true, cond_false]
        exact ih m _ (v ++ [(getB x i).1]) (by rw [List.length_append, List.length_singleton]; omega) (by omega)
    · refine .inr ⟨v, by omega, ?_⟩
      simp only [f_impl_MsgOf.l0, decide_eq_false hl, cond_false]
theorem putB_pos (v : Int) (h0 : 0 ≤ v) (h1 : v ≤ 100000) : 0 < ((putB v).length : Int) := by
  by_cases h2 : v ≤ 127
  · rw [putB1 v h0 h2]; simp
  · by_cases h3 : v ≤ 16383
    · rw [putB2 v h2 h3]; simp
    · rw [putB3 v h3 h1]; simp
theorem put_cancel {a b : Int} {r s : List Int} (a0 : 0 ≤ a) (a1 : a ≤ 100000) (b0 : 0 ≤ b) (b1 : b ≤ 100000) (h : putB a ++ r = putB b ++ s) : a = b ∧ r = s := by
  have g1 := get_put (putB a ++ r) r 0 a (Int.le_refl _) a0 a1 rfl
  have g2 := get_put (putB a ++ r) s 0 b (Int.le_refl _) b0 b1 h
  rw [g1] at g2
  have e : a = b := congrArg Prod.fst g2
  subst e
  exact ⟨rfl, List.append_cancel_left h⟩
def okN (z : List Int) : Prop := ∀ v ∈ z, 0 ≤ v ∧ v ≤ 100000
theorem flat_nil : ∀ (z : List Int), okN z → z.flatMap putB = [] → z = []
  | [], _, _ => rfl
  | a :: z, h, e => by
    have := putB_pos a (h a (.head _)).1 (h a (.head _)).2
    have e := congrArg List.length e
    simp only [List.flatMap_cons, List.length_append, List.length_nil] at e
    omega
/-- Numbers whose bytes are those of others and one more, are the others and one more. -/
theorem flat_one : ∀ (z' z : List Int) (b : Int), okN z → okN z' → z.flatMap putB = z'.flatMap putB ++ [b] → ∃ e, z = z' ++ [e]
  | [], [], b, _, _, e => by cases e
  | [], a :: z, b, h, _, e => by
    have hp := putB_pos a (h a (.head _)).1 (h a (.head _)).2
    have hl := congrArg List.length e
    simp only [List.flatMap_cons, List.flatMap_nil, List.length_append, List.length_nil, List.length_singleton] at hl
    have : z.flatMap putB = [] := List.eq_nil_of_length_eq_zero (by omega)
    rw [flat_nil z (fun v hv => h v (.tail _ hv)) this]
    exact ⟨a, rfl⟩
  | a' :: z', [], b, _, h', e => by
    have hl := congrArg List.length e
    simp only [List.flatMap_nil, List.length_append, List.length_nil, List.length_singleton] at hl
    omega
  | a' :: z', a :: z, b, h, h', e => by
    simp only [List.flatMap_cons, List.append_assoc] at e
    obtain ⟨rfl, e2⟩ := put_cancel (h a (.head _)).1 (h a (.head _)).2 (h' a' (.head _)).1 (h' a' (.head _)).2 e
    obtain ⟨x, rfl⟩ := flat_one z' z b (fun v hv => h v (.tail _ hv)) (fun v hv => h' v (.tail _ hv)) e2
    exact ⟨x, rfl⟩
theorem msgOk_facts (k p : Int) (c : Bool) (w : List Int) (hn : w.length ≤ 1048576) (h : f_spec_MsgOk k p c w = some true) : 1 ≤ k ∧ k ≤ 7 ∧ 0 ≤ p ∧ p ≤ 5 ∧ allW w = true ∧ w.length = (if k = 3 ∨ k = 7 then 4 else 0) := by
  unfold f_spec_MsgOk at h
  simp only [specWords w hn, in_rg, Option.bind_some] at h
  have key : rg k 1 7 = true ∧ rg p 0 5 = true ∧ allW w = true ∧ (w.length : Int) = (if k = 3 ∨ k = 7 then 4 else 0) := by
    by_cases h3 : k = 3
    · subst h3
      rw [show rg 3 1 7 = true from rfl] at h ⊢
      cases hp : rg p 0 5 <;> simp [hp] at h ⊢
      exact ⟨h.1, by omega⟩
    · by_cases h7 : k = 7
      · subst h7
        rw [show rg 7 1 7 = true from rfl] at h ⊢
        cases hp : rg p 0 5 <;> cases c <;> simp [hp] at h ⊢
        exact ⟨h.1, by omega⟩
      · rw [decide_eq_false h3, decide_eq_false h7] at h
        cases hr : rg k 1 7 <;> cases hp : rg p 0 5 <;> cases hk : decide (k = 6) <;> cases c <;> simp [hr, hp, hk, h3, h7] at h ⊢ <;> exact ⟨h.1, h.2⟩
  obtain ⟨k1, k2, k3, k4⟩ := key
  unfold rg at k1 k2
  simp only [Bool.and_eq_true, decide_eq_true_eq] at k1 k2
  refine ⟨k1.1, k1.2, k2.1, k2.2, k3, ?_⟩
  by_cases hk : k = 3 ∨ k = 7
  · rw [if_pos hk] at k4 ⊢; omega
  · rw [if_neg hk] at k4 ⊢; omega
def msgN (k p : Int) (c : Bool) (w : List Int) : List Int := [k, p, bif c then 1 else 0] ++ w
theorem msgN_ok (k p : Int) (c : Bool) (w : List Int) (hn : w.length ≤ 1048576) (h : f_spec_MsgOk k p c w = some true) : okN (msgN k p c w) := by
  obtain ⟨h1, h2, h3, h4, h5, -⟩ := msgOk_facts k p c w hn h
  intro v hv
  rcases List.mem_append.1 hv with hv | hv
  · simp only [List.mem_cons, List.not_mem_nil, or_false] at hv
    rcases hv with rfl | rfl | rfl
    · omega
    · omega
    · cases c <;> simp
  · unfold allW rng at h5
    have := List.all_eq_true.1 h5 v hv
    simp only [Bool.and_eq_true, decide_eq_true_eq] at this
    omega
theorem msgB_pos (k p : Int) (c : Bool) (w : List Int) (hn : w.length ≤ 1048576) (h : f_spec_MsgOk k p c w = some true) : 0 < (msgB k p c w).length := by
  obtain ⟨h1, h2, -⟩ := msgOk_facts k p c w hn h
  have := putB_pos k (by omega) (by omega)
  unfold msgB
  simp only [List.cons_append, List.flatMap_cons, List.length_append]
  omega
theorem msgB_bytes (k p : Int) (c : Bool) (w : List Int) : ∀ b ∈ msgB k p c w, 0 ≤ b ∧ b < 256 := by
  intro b hb
  unfold msgB at hb
  obtain ⟨v, -, h⟩ := List.mem_flatMap.1 hb
  exact putB_bytes v b h
/-- Bytes that are alike are the same. -/
theorem bytes_inj : ∀ (x y : List Int), (∀ b ∈ x, 0 ≤ b ∧ b < 256) → (∀ b ∈ y, 0 ≤ b ∧ b < 256) → ((bytesOfRows x).toList == (bytesOfRows y).toList) = true → x = y := by
  intro x y hx hy h
  rw [bytes_list, bytes_list, beq_iff_eq] at h
  induction x generalizing y with
  | nil => cases y with | nil => rfl | cons b y => cases h
  | cons a x ih =>
    cases y with
    | nil => cases h
    | cons b y =>
      simp only [List.map_cons, List.cons.injEq] at h
      have h1 := hx a (.head _)
      have h2 := hy b (.head _)
      have e := congrArg UInt8.toNat h.1
      simp only [UInt8.toNat_ofNat'] at e
      rw [Nat.mod_eq_of_lt (by omega), Nat.mod_eq_of_lt (by omega)] at e
      rw [ih y (fun b hb => hx b (.tail _ hb)) (fun b hb => hy b (.tail _ hb)) h.2, show a = b by omega]
/-- What is no message answers zeros. -/
theorem msgOf_cases (x : List Int) (hn : x.length ≤ 1048576) (hx : ∀ y ∈ x, 0 ≤ y ∧ y < 256) : f_impl_MsgOf x = some (0, 0, false, [], false) ∨
    ∃ k p c w, f_impl_MsgOf x = some (k, p, c, w, true) ∧ w.length ≤ 4 ∧ f_spec_MsgOk k p c w = some true ∧ x = msgB k p c w := by
  unfold f_impl_MsgOf
  have H := collI_loop x hn hx 7 N 0 [] rfl (Nat.lt_trans (by omega) big)
  generalize f_impl_MsgOf.l0 N x false 0 0 0 false [] [] = t at H ⊢
  rcases H with ht | ⟨v, hv, ht⟩
  · subst ht; exact .inl rfl
  · subst ht
    simp only [Option.bind_some, cs]
    by_cases h3 : (v.length : Int) < 3
    · rw [decide_eq_true h3]; exact .inl rfl
    · obtain ⟨a, b, c, r, rfl⟩ := three (v := v) (by omega)
      have hlen : ((a :: b :: c :: r).length : Int) = r.length + 3 := by simp; omega
      have hr : r.length ≤ 4 := by simp at hv; omega
      have ht : List.take (((a :: b :: c :: r).length : Int) - 3).toNat (List.drop 3 (a :: b :: c :: r)) = r := by
        rw [hlen]
        simp
      obtain ⟨y, y1, y2, y3, y4⟩ := same_msgBytes a b (decide (c = 1)) r (by omega)
      rw [ht]
      simp only [decide_eq_false h3, decide_eq_true (show (0 : Int) < ((a :: b :: c :: r).length : Int) by omega), decide_eq_true (show (1 : Int) < ((a :: b :: c :: r).length : Int) by omega), decide_eq_true (show (2 : Int) < ((a :: b :: c :: r).length : Int) by omega), decide_eq_true (show (3 : Int) ≤ ((a :: b :: c :: r).length : Int) by omega), cond_true, cond_false, Option.bind_some, List.getD_cons_zero, List.getD_cons_succ, y2, f_bytes_Equal]
      by_cases h0 : (y.length : Int) = 0
      · rw [decide_eq_true h0]; exact .inl rfl
      · rw [decide_eq_false h0, cond_false]
        cases hq : (bytesOfRows y).toList == (bytesOfRows x).toList with
        | false => exact .inl rfl
        | true =>
          obtain ⟨o, e1, e2⟩ := same_msgOk a b (decide (c = 1)) r (by omega)
          cases o with
          | false =>
            unfold f_spec_MsgBytes at y1
            rw [e1] at y1
            have : y = [] := (Option.some.inj y1).symm
            subst this
            exact absurd rfl h0
          | true =>
            have hy := y4 e1
            refine .inr ⟨_, _, _, _, rfl, hr, e1, ?_⟩
            rw [hy] at hq
            exact (bytes_inj _ _ (msgB_bytes _ _ _ _) hx hq).symm
theorem coll_put (z : List Int) (hz : okN z) (hl : z.length ≤ 7) (x : List Int) (hx : x = z.flatMap putB) : ∀ (k n j : Nat), z.length - j = k → j ≤ z.length → k < n →
    f_impl_MsgOf.l0 n x false (((z.take j).flatMap putB).length : Int) 0 0 false (z.take j) [] = some (.inr (x, false, 0, 0, false, z, [])) := by
  have hxb : ∀ y ∈ x, 0 ≤ y ∧ y < 256 := fun y hy => by
    rw [hx] at hy
    obtain ⟨v, -, h⟩ := List.mem_flatMap.1 hy
    exact putB_bytes v y h
  have hxl : x.length ≤ 1048576 := by rw [hx]; have := flat_length z; omega
  intro k
  induction k with
  | zero =>
    intro n j hk hj hn
    obtain ⟨n, rfl⟩ := succ_fuel hn
    have e : z.take j = z := List.take_of_length_le (by omega)
    rw [e]
    simp only [f_impl_MsgOf.l0]
    rw [decide_eq_false (by rw [hx]; exact Int.lt_irrefl _)]
    rfl
  | succ k ih =>
    intro n j hk hj hn
    obtain ⟨n, rfl⟩ := succ_fuel hn
    have hjl : j < z.length := by omega
    have hsplit : z.flatMap putB = (z.take j).flatMap putB ++ (putB z[j] ++ (z.drop (j + 1)).flatMap putB) := by
      conv => lhs; rw [← List.take_append_drop j z, List.drop_eq_getElem_cons hjl]
      rw [List.flatMap_append, List.flatMap_cons]
    have hv := hz z[j] (List.getElem_mem hjl)
    have hpos := putB_pos z[j] hv.1 hv.2
    have hlt : (((z.take j).flatMap putB).length : Int) < (x.length : Int) := by
      rw [hx, hsplit]
      simp only [List.length_append]
      omega
    have hg := get_put x ((z.drop (j + 1)).flatMap putB) (((z.take j).flatMap putB).length : Int) z[j] (by omega) hv.1 hv.2 (by rw [hx, hsplit]; simp)
    have htl : (z.take j).length = j := by rw [List.length_take]; omega
    simp only [f_impl_MsgOf.l0, decide_eq_true hlt, decide_eq_true (show ((z.take j).length : Int) < 7 by omega), cond_true, implGet x hxl hxb, hg, Option.bind_some, Bool.not_true, cond_false, List.length_singleton, (blt_iff _ _).2 (show (z.take j).length + 1 < 17592186044416 by omega)]
    have := ih n (j + 1) (by omega) (by omega) (by omega)
    rw [List.take_add_one, List.getElem?_eq_getElem hjl] at this
    simp only [Option.toList_some, List.flatMap_append, List.flatMap_cons, List.flatMap_nil, List.append_nil, List.length_append] at this
    rw [← this]
    congr 1
/-- What was put is read as it was. -/
theorem msgOf_put (k p : Int) (c : Bool) (w : List Int) (hn : w.length ≤ 1048576) (h : f_spec_MsgOk k p c w = some true) : f_impl_MsgOf (msgB k p c w) = some (k, p, c, w, true) := by
  have hw := msgOk_true k p c w hn h
  have hb := coll_put (msgN k p c w) (msgN_ok k p c w hn h) (by unfold msgN; simp; omega) (msgB k p c w) rfl (msgN k p c w).length N 0 (by omega) (by omega) (Nat.lt_of_le_of_lt (show _ ≤ 1048576 by unfold msgN; simp; omega) (Nat.lt_trans (by omega) big))
  simp only [List.take_zero, List.flatMap_nil, List.length_nil] at hb
  unfold f_impl_MsgOf
  have hb : f_impl_MsgOf.l0 N (msgB k p c w) false 0 0 0 false [] [] = some (.inr (msgB k p c w, false, 0, 0, false, k :: p :: (bif c then 1 else 0) :: w, [])) := hb
  rw [hb]
  simp only [Option.bind_some, cs]
  have hlen : ((k :: p :: (bif c then (1 : Int) else 0) :: w).length : Int) = w.length + 3 := by simp; omega
  have ht : List.take (((k :: p :: (bif c then (1 : Int) else 0) :: w).length : Int) - 3).toNat (List.drop 3 (k :: p :: (bif c then (1 : Int) else 0) :: w)) = w := by
    rw [hlen]
    simp
  have hc : decide ((bif c then (1 : Int) else 0) = 1) = c := by cases c <;> rfl
  obtain ⟨y, y1, y2, y3, y4⟩ := same_msgBytes k p c w hn
  have hy := y4 h
  subst hy
  have hpos := msgB_pos k p c w hn h
  rw [ht]
  simp only [decide_eq_false (show ¬ ((k :: p :: (bif c then (1 : Int) else 0) :: w).length : Int) < 3 by omega), decide_eq_true (show (0 : Int) < ((k :: p :: (bif c then (1 : Int) else 0) :: w).length : Int) by omega), decide_eq_true (show (1 : Int) < ((k :: p :: (bif c then (1 : Int) else 0) :: w).length : Int) by omega), decide_eq_true (show (2 : Int) < ((k :: p :: (bif c then (1 : Int) else 0) :: w).length : Int) by omega), decide_eq_true (show (3 : Int) ≤ ((k :: p :: (bif c then (1 : Int) else 0) :: w).length : Int) by omega), cond_true, cond_false, Option.bind_some, List.getD_cons_zero, List.getD_cons_succ, hc, y2, f_bytes_Equal, decide_eq_false (show ¬ ((msgB k p c w).length : Int) = 0 by omega), beq_self_eq_true, Bool.not_true]
/-- Bytes of a message that are one shorter, or one longer, are none. -/
theorem msgOf_cut (k p : Int) (c : Bool) (w : List Int) (hn : w.length ≤ 1048576) (h : f_spec_MsgOk k p c w = some true) (x : List Int) (b : Int) (hx : ∀ y ∈ x, 0 ≤ y ∧ y < 256) (hl : x.length ≤ 1000)
    (hc : msgB k p c w = x ++ [b] ∨ x = msgB k p c w ++ [b]) : f_impl_MsgOf x = some (0, 0, false, [], false) := by
  rcases msgOf_cases x (by omega) hx with h0 | ⟨k', p', c', w', h1, h2, h3, h4⟩
  · exact h0
  · exfalso
    obtain ⟨-, -, -, -, -, f1⟩ := msgOk_facts k p c w hn h
    obtain ⟨-, -, -, -, -, f2⟩ := msgOk_facts k' p' c' w' (by omega) h3
    have g1 := msgN_ok k p c w hn h
    have g2 := msgN_ok k' p' c' w' (by omega) h3
    subst h4
    rcases hc with hc | hc
    · obtain ⟨e, he⟩ := flat_one (msgN k' p' c' w') (msgN k p c w) b g1 g2 hc
      unfold msgN at he
      simp only [List.cons_append, List.nil_append, List.cons.injEq] at he
      obtain ⟨rfl, -, -, he⟩ := he
      have := congrArg List.length he
      simp only [List.length_append, List.length_singleton] at this
      omega
    · obtain ⟨e, he⟩ := flat_one (msgN k p c w) (msgN k' p' c' w') b g2 g1 hc
      unfold msgN at he
      simp only [List.cons_append, List.nil_append, List.cons.injEq] at he
      obtain ⟨rfl, -, -, he⟩ := he
      have := congrArg List.length he
      simp only [List.length_append, List.length_singleton] at this
      omega
theorem sameInts_loop (x : List Int) (hn : x.length ≤ 1048576) (b : Bool) (d : Nat) : ∀ (n : Nat) (i : Int), 0 ≤ i → i ≤ x.length → (x.length : Int) - i = d → d < n → f_laws_sameInts.l0 n x x b i = some (.inr b) := by
  induction d with
  | zero =>
    intro n i h0 h1 hd hk
    obtain ⟨n, rfl⟩ := succ_fuel hk
    simp only [f_laws_sameInts.l0]
    rw [decide_eq_false (by omega), cond_false]
  | succ d ih =>
    intro n i h0 h1 hd hk
    obtain ⟨n, rfl⟩ := succ_fuel hk
    have hw : IntKind.wrap .i64 (i + 1) = i + 1 := w64 (by omega) (by omega)
    simp only [f_laws_sameInts.l0]
    rw [decide_eq_true (show i < (x.length : Int) by omega), decide_eq_true h0, hw]
    simp only [cond_true, Bool.and_self, decide_true, Bool.not_true, cond_false]
    exact ih n (i + 1) (by omega) (by omega) (by omega) (by omega)
theorem sameInts (x : List Int) (hn : x.length ≤ 1048576) : f_laws_sameInts x x = some true := by
  unfold f_laws_sameInts
  simp only [decide_true, Bool.not_true, cond_false]
  rw [sameInts_loop x hn false x.length N 0 (by omega) (by omega) (by omega) (Nat.lt_of_le_of_lt (by omega) big)]
  rfl
theorem and8 (n : Int) : bitI .and .i64 n 255 = n % 256 := by
  have h : (BitVec.ofInt 64 n &&& BitVec.ofInt 64 255).toNat = (n % 18446744073709551616).toNat % 256 := by
    rw [BitVec.toNat_and, BitVec.toNat_ofInt]
    show (n % 18446744073709551616).toNat &&& (2 ^ 8 - 1) = _
    rw [Nat.and_two_pow_sub_one_eq_mod]
  show IntKind.wrap .i64 ((BitVec.ofInt 64 n &&& BitVec.ofInt 64 255).toNat : Int) = _
  rw [h, w64 (by omega) (by omega)]
  omega
theorem draw_byte (x : List Int) (hn : x.length ≤ 1048576) (p s : Int) (hp : 0 ≤ p) : ∃ b p' s', f_spec_l1Byte x p s = some (b, p', s') ∧ 0 ≤ b ∧ b ≤ 255 ∧ 0 ≤ p' := by
  unfold f_spec_l1Byte
  simp only [and8]
  by_cases h : p < (x.length : Int)
  · rw [decide_eq_true h, decide_eq_true hp, w64 (show -9223372036854775808 ≤ p + 1 by omega) (by omega)]
    exact ⟨_, _, _, rfl, by omega, by omega, by omega⟩
  · rw [decide_eq_false h]
    exact ⟨_, _, _, rfl, by omega, by omega, hp⟩
theorem draw_below (x : List Int) (hn : x.length ≤ 1048576) (p s n : Int) (hp : 0 ≤ p) : ∃ r p' s', f_spec_l1Below x p s n = some (r, p', s') ∧ 0 ≤ p' ∧ 0 ≤ r ∧ (0 < n → r < n) ∧ (n ≤ 0 → r = 0) := by
  unfold f_spec_l1Below
  by_cases h0 : n ≤ 0
  · rw [decide_eq_true h0]
    exact ⟨_, _, _, rfl, hp, Int.le_refl _, fun h => by omega, fun _ => rfl⟩
  · rw [decide_eq_false h0, cond_false, decide_eq_false (show ¬ n = 0 by omega)]
    have hm : ∀ b, 0 ≤ b → 0 ≤ Int.tmod b n ∧ Int.tmod b n < n := fun b hb => by
      rw [Int.tmod_eq_emod_of_nonneg hb]
      exact ⟨Int.emod_nonneg _ (by omega), Int.emod_lt_of_pos _ (by omega)⟩
    by_cases h1 : n ≤ 256
    · obtain ⟨b, p', s', e, b0, b1, q⟩ := draw_byte x hn p s hp
      rw [decide_eq_true h1, e]
      exact ⟨_, _, _, rfl, q, (hm b b0).1, fun _ => (hm b b0).2, fun h => absurd h h0⟩
    · obtain ⟨b, p1, s1, e1, b0, b1, q1⟩ := draw_byte x hn p s hp
      obtain ⟨c, p2, s2, e2, c0, c1, q2⟩ := draw_byte x hn p1 s1 q1
      obtain ⟨d, p3, s3, e3, d0, d1, q3⟩ := draw_byte x hn p2 s2 q2
      obtain ⟨e, p4, s4, e4, f0, f1, q4⟩ := draw_byte x hn p3 s3 q3
      rw [decide_eq_false h1, cond_false, e1, Option.bind_some]
      simp only [e2, e3, e4, Option.bind_some, cond_false]
      rw [w64 (show -9223372036854775808 ≤ b * 16777216 by omega) (by omega), w64 (show -9223372036854775808 ≤ c * 65536 by omega) (by omega), w64 (show -9223372036854775808 ≤ d * 256 by omega) (by omega), w64 (show -9223372036854775808 ≤ b * 16777216 + c * 65536 by omega) (by omega), w64 (show -9223372036854775808 ≤ b * 16777216 + c * 65536 + d * 256 by omega) (by omega), w64 (show -9223372036854775808 ≤ b * 16777216 + c * 65536 + d * 256 + e by omega) (by omega)]
      have := hm (b * 16777216 + c * 65536 + d * 256 + e) (by omega)
      exact ⟨_, _, _, rfl, q4, this.1, fun _ => this.2, fun h => absurd h h0⟩
/-- The head of a draw: the bytes that it was handed, and a number out of them. -/
theorem draw_new {τ : Type} {F : Nat → List Int → Int → Int → Option τ} {G : List Int → Int → τ}
    (hs : ∀ n x s i, F (n + 1) x s i = bif (decide (i < (x.length : Int))) then bif (decide (i < (4000 : Int))) then bif ((decide ((0 : Int) ≤ i)) && (decide (i < (x.length : Int)))) then
      F n x (bitI .and .i64 (IntKind.wrap .i64 ((IntKind.wrap .i64 ((IntKind.wrap .i64 (s * (131 : Int))) + (IntKind.wrap .i64 ((x.getD i.toNat 0))))) + (7 : Int))) (1073741823 : Int)) (IntKind.wrap .i64 (i + (1 : Int))) else none else some (G x s) else some (G x s))
    (x : List Int) (hn : x.length ≤ 1048576) : ∀ s, ∃ s', F N x s 0 = some (G x s') := by
  have key : ∀ (k n : Nat) (s i : Int), 0 ≤ i → (x.length : Int) - i ≤ k → k < n → ∃ s', F n x s i = some (G x s') := by
    intro k
    induction k with
    | zero =>
      intro n s i h0 h1 hk
      obtain ⟨n, rfl⟩ := succ_fuel hk
      rw [hs, decide_eq_false (by omega)]
      exact ⟨_, rfl⟩
    | succ k ih =>
      intro n s i h0 h1 hk
      obtain ⟨n, rfl⟩ := succ_fuel hk
      rw [hs]
      by_cases h : i < (x.length : Int)
      · rw [decide_eq_true h, decide_eq_true h0, w64 (show -9223372036854775808 ≤ i + 1 by omega) (by omega)]
        cases decide (i < 4000)
        · exact ⟨_, rfl⟩
        · exact ih n _ (i + 1) (by omega) (by omega) (by omega)
      · rw [decide_eq_false h]; exact ⟨_, rfl⟩
  intro s
  exact key x.length N s 0 (Int.le_refl _) (by omega) (Nat.lt_of_le_of_lt hn (Nat.lt_trans (by omega) big))
theorem draw_pick (x : List Int) (hn : x.length ≤ 1048576) (p s : Int) (hp : 0 ≤ p) (l : List Int) (hl : 0 < (l.length : Int)) : ∃ e p' s', f_spec_l1PickInt x p s l = some (e, p', s') ∧ e ∈ l ∧ 0 ≤ p' := by
  unfold f_spec_l1PickInt
  obtain ⟨r, p', s', e, q, r0, r1, -⟩ := draw_below x hn p s (l.length : Int) hp
  rw [e, Option.bind_some]
  have r2 := r1 hl
  have hlt : r.toNat < l.length := by omega
  simp only [decide_eq_true r0, decide_eq_true r2, Bool.and_self, cond_true]
  refine ⟨_, _, _, rfl, ?_, q⟩
  rw [List.getD_eq_getElem?_getD, List.getElem?_eq_getElem hlt]
  exact List.getElem_mem hlt
theorem draw_once (x : List Int) (hn : x.length ≤ 1048576) (p s n : Int) (hp : 0 ≤ p) : ∃ b p' s', f_spec_l1Once x p s n = some (b, p', s') ∧ 0 ≤ p' := by
  unfold f_spec_l1Once
  obtain ⟨r, p', s', e, q, -⟩ := draw_below x hn p s n hp
  rw [e]
  exact ⟨_, _, _, rfl, q⟩
theorem drawList_loop (x : List Int) (hn : x.length ≤ 1048576) : ∀ (k n : Nat) (i p s : Int) (y : List Int), 0 ≤ i → 4 - i = k → k < n → 0 ≤ p → (y.length : Int) = i →
    ∃ p' s' y', f_spec_l1DrawList.l0 n i x p s y = some (x, p', s', y') ∧ 0 ≤ p' ∧ y'.length = 4 := by
  intro k
  induction k with
  | zero =>
    intro n i p s y h0 hk hn' hp hy
    obtain ⟨n, rfl⟩ := succ_fuel hn'
    simp only [f_spec_l1DrawList.l0, decide_eq_false (show ¬ i < 4 by omega), cond_false]
    exact ⟨_, _, _, rfl, hp, by omega⟩
  | succ k ih =>
    intro n i p s y h0 hk hn' hp hy
    obtain ⟨n, rfl⟩ := succ_fuel hn'
    obtain ⟨v, p1, s1, e1, -, q1⟩ := draw_pick x hn p s hp ([0, 1, 5, 300, 65535] : List Int) (by simp)
    simp only [f_spec_l1DrawList.l0, decide_eq_true (show i < 4 by omega), cond_true, e1, Option.bind_some, (blt_iff _ _).2 (show y.length + ([v] : List Int).length < 17592186044416 by simp; omega), w64 (show -9223372036854775808 ≤ i + 1 by omega) (by omega)]
    exact ih n (i + 1) p1 s1 _ (by omega) (by omega) (by omega) q1 (by rw [List.length_append]; simp; omega)
theorem drawList (x : List Int) (hn : x.length ≤ 1048576) (p s : Int) (hp : 0 ≤ p) : ∃ y p' s', f_spec_l1DrawList x p s = some (y, p', s') ∧ 0 ≤ p' ∧ y.length = 4 := by
  unfold f_spec_l1DrawList
  obtain ⟨p2, s2, y, e2, q2, hy⟩ := drawList_loop x hn 4 N 0 p s [] (Int.le_refl _) rfl (Nat.lt_of_lt_of_le (by omega) (Nat.le_of_lt big)) hp rfl
  rw [e2]
  exact ⟨_, _, _, rfl, q2, hy⟩
theorem drawMsgRight (x : List Int) (hn : x.length ≤ 1048576) (p s : Int) (hp : 0 ≤ p) : ∃ a b c y p' s', f_spec_l1DrawRight x p s = some (a, b, c, y, p', s') ∧ 0 ≤ p' ∧ y.length ≤ 4 := by
  unfold f_spec_l1DrawRight
  obtain ⟨r, p1, s1, e1, q1, -⟩ := draw_below x hn p s 7 hp
  obtain ⟨r2, p2, s2, e2, q2, -⟩ := draw_below x hn p1 s1 6 q1
  obtain ⟨b, p3, s3, e3, q3⟩ := draw_once x hn p2 s2 2 q2
  obtain ⟨y4, p4, s4, e4, q4, hy4⟩ := drawList x hn p3 s3 q3
  obtain ⟨y5, p5, s5, e5, q5, hy5⟩ := drawList x hn p2 s2 q2
  rw [e1, Option.bind_some]
  simp only [e2, e3, e4, e5, Option.bind_some]
  cases decide (IntKind.wrap .i64 (1 + r) = 3) <;> cases decide (IntKind.wrap .i64 (1 + r) = 6) <;> cases decide (IntKind.wrap .i64 (1 + r) = 7) <;> simp only [cond_true, cond_false] <;>
    first | exact ⟨_, _, _, _, _, _, rfl, q4, by omega⟩ | exact ⟨_, _, _, _, _, _, rfl, q5, by omega⟩ | exact ⟨_, _, _, _, _, _, rfl, q3, by simp⟩ | exact ⟨_, _, _, _, _, _, rfl, q2, by simp⟩
theorem drawMsg (x : List Int) (hn : x.length ≤ 1048576) (p s : Int) (hp : 0 ≤ p) : ∃ a b c y p' s', f_spec_l1Draw x p s = some (a, b, c, y, p', s') ∧ 0 ≤ p' ∧ y.length ≤ 5 := by
  unfold f_spec_l1Draw
  obtain ⟨a, b, c, y, p1, s1, e1, q1, hy⟩ := drawMsgRight x hn p s hp
  obtain ⟨r2, p2, s2, e2, q2, -⟩ := draw_below x hn p1 s1 12 q1
  obtain ⟨r3, p3, s3, e3, q3, -⟩ := draw_below x hn p2 s2 9 q2
  obtain ⟨r4, p4, s4, e4, -, q4⟩ := draw_pick x hn p2 s2 q2 ([-1, 6] : List Int) (by simp)
  obtain ⟨r5, p5, s5, e5, -, q5⟩ := draw_pick x hn p2 s2 q2 ([-1, 3, 65536] : List Int) (by simp)
  rw [e1, Option.bind_some]
  simp only [e2, e3, e4, e5, Option.bind_some, List.length_singleton, (blt_iff _ _).2 (show y.length + 1 < 17592186044416 by omega), cond_true]
  cases decide (r2 = 0)
  · cases decide (r2 = 1)
    · cases decide (r2 = 2)
      · cases decide (r2 = 3)
        · exact ⟨_, _, _, _, _, _, rfl, q2, by omega⟩
        · exact ⟨_, _, _, _, _, _, rfl, q5, by rw [List.length_append, List.length_singleton]; omega⟩
      · exact ⟨_, _, _, _, _, _, rfl, q2, by omega⟩
    · exact ⟨_, _, _, _, _, _, rfl, q4, by omega⟩
  · exact ⟨_, _, _, _, _, _, rfl, q3, by omega⟩
theorem drawMsgBytes (x : List Int) (hn : x.length ≤ 1048576) : ∃ a b c y, f_spec_DrawMsgBytes x = some (a, b, c, y) ∧ y.length ≤ 5 := by
  unfold f_spec_DrawMsgBytes
  obtain ⟨s', h⟩ := draw_new (F := fun n x s i => f_spec_DrawMsgBytes.l0 n x s i 0 0 false) (G := fun x s => (x, s, 0, 0, false)) (fun _ _ _ _ => rfl) x hn (IntKind.wrap .i64 ((20404 : Int) + (x.length : Int)))
  obtain ⟨a, b, c, y, p1, s1, e1, q1, hy⟩ := drawMsg x hn 0 s' (Int.le_refl _)
  rw [h, Option.bind_some]
  simp only [e1, Option.bind_some]
  exact ⟨_, _, _, _, rfl, hy⟩
theorem u8_rng (n : Int) : 0 ≤ IntKind.wrap .u8 n ∧ IntKind.wrap .u8 n < 256 := by
  rw [IntKind.wrap_u8]; omega
theorem msgBytes_byte (k p : Int) (c : Bool) (w y : List Int) (hn : w.length ≤ 1048576) (h : f_spec_MsgBytes k p c w = some y) : ∀ b ∈ y, 0 ≤ b ∧ b < 256 := by
  obtain ⟨r, r1, r2, r3, r4⟩ := msgBytes_long k p c w hn
  rw [h] at r1
  cases r1
  rcases r4 with rfl | ⟨-, rfl⟩
  · intro b hb; cases hb
  · exact msgB_bytes k p c w
theorem drawMsgOf (x : List Int) (hn : x.length ≤ 1048576) : ∃ y, f_spec_DrawMsgOf x = some y ∧ y.length ≤ 101 ∧ ∀ b ∈ y, 0 ≤ b ∧ b < 256 := by
  unfold f_spec_DrawMsgOf
  obtain ⟨s', h⟩ := draw_new (F := f_spec_DrawMsgOf.l0) (G := fun x s => (x, s)) (fun _ _ _ _ => rfl) x hn (IntKind.wrap .i64 ((20404 : Int) + (x.length : Int)))
  obtain ⟨k, p, c, w, p1, s1, e1, q1, hw⟩ := drawMsgRight x hn 0 s' (Int.le_refl _)
  obtain ⟨y, y1, -, y3, -⟩ := msgBytes_long k p c w (by omega)
  have hyb := msgBytes_byte k p c w y (by omega) y1
  obtain ⟨r2, p2, s2, e2, q2, r0, r1, -⟩ := draw_below x hn p1 s1 ((y.length : Int) + 1) q1
  have hr := r1 (by omega)
  obtain ⟨r3, p3, s3, e3, q3, -⟩ := draw_below x hn p2 s2 5 q2
  obtain ⟨r4, p4, s4, e4, -, q4⟩ := draw_pick x hn p3 s3 q3 ([0, 1, 128, 3] : List Int) (by simp)
  rw [h, Option.bind_some]
  simp only [e1, y1, w64 (show -9223372036854775808 ≤ (y.length : Int) + 1 by omega) (by omega), e2, e3, e4, Option.bind_some, decide_eq_true r0, decide_eq_true (show r2 ≤ (y.length : Int) by omega), Bool.and_self, cond_true, List.drop_zero, List.length_nil, Nat.zero_add, List.nil_append, List.length_singleton]
  have ht : (y.take r2.toNat).length ≤ 100 := by rw [List.length_take]; omega
  have hd : ((y.drop r2.toNat).take ((y.length : Int) - r2).toNat).length ≤ 100 := by rw [List.length_take, List.length_drop]; omega
  cases decide (r3 = 0)
  · cases decide (r3 = 1)
    · exact ⟨_, rfl, by omega, hyb⟩
    · simp only [cond_false, cond_true, (blt_iff _ _).2 (show (y.take r2.toNat).length < 140737488355328 by omega), (blt_iff _ _).2 (show 1 + ((y.drop r2.toNat).take ((y.length : Int) - r2).toNat).length < 140737488355328 by omega), Option.bind_some, (blt_iff _ _).2 (show (y.take r2.toNat).length + ([IntKind.wrap .u8 r4] ++ (y.drop r2.toNat).take ((y.length : Int) - r2).toNat).length < 140737488355328 by rw [List.length_append, List.length_singleton]; omega)]
      refine ⟨_, rfl, ?_, fun b hb => ?_⟩
      · simp only [List.length_append, List.length_singleton, List.length_take, List.length_drop]
        omega
      · rcases List.mem_append.1 hb with hb | hb
        · exact hyb b (List.mem_of_mem_take hb)
        · rcases List.mem_append.1 hb with hb | hb
          · rw [List.mem_singleton.1 hb]; exact u8_rng r4
          · exact hyb b (List.mem_of_mem_drop (List.mem_of_mem_take hb))
  · exact ⟨_, rfl, by omega, fun b hb => hyb b (List.mem_of_mem_take hb)⟩
theorem drawMsgOk (x : List Int) (hn : x.length ≤ 1048576) : ∃ a b c y, f_spec_DrawMsgOk x = some (a, b, c, y) ∧ y.length ≤ 5 := by
  unfold f_spec_DrawMsgOk
  obtain ⟨s', h⟩ := draw_new (F := fun n x s i => f_spec_DrawMsgOk.l0 n x s i 0 0 false) (G := fun x s => (x, s, 0, 0, false)) (fun _ _ _ _ => rfl) x hn (IntKind.wrap .i64 ((20404 : Int) + (x.length : Int)))
  obtain ⟨a, b, c, y, p1, s1, e1, q1, hy⟩ := drawMsg x hn 0 s' (Int.le_refl _)
  rw [h, Option.bind_some]
  simp only [e1, Option.bind_some]
  exact ⟨_, _, _, _, rfl, hy⟩
theorem msgs (x0 : List Int) : f_laws_FnMsgs x0 = some true := by
  unfold f_laws_FnMsgs f_laws_big
  by_cases hb : (1048576 : Int) < (x0.length : Int)
  · rw [decide_eq_true hb]; rfl
  rw [decide_eq_false hb]
  have hn : x0.length ≤ 1048576 := by omega
  obtain ⟨k, p, c, w, e1, hw⟩ := drawMsgBytes x0 hn
  obtain ⟨y, y1, y2, y3, y4⟩ := same_msgBytes k p c w (by omega)
  obtain ⟨o, o1, o2⟩ := same_msgOk k p c w (by omega)
  obtain ⟨z, e2, z1, z2⟩ := drawMsgOf x0 hn
  obtain ⟨r, r1, r2, -⟩ := same_msgOf z (by omega) z2
  obtain ⟨k', p', c', w', e3, hw'⟩ := drawMsgOk x0 hn
  obtain ⟨o', o1', o2'⟩ := same_msgOk k' p' c' w' (by omega)
  have tail : (bif (!r.2.2.2.2) then bif (decide (r.1 = (0 : Int))) then some true else bif r.2.2.2.2 then (f_impl_MsgBytes r.1 r.2.1 r.2.2.1 r.2.2.2.1).bind fun y217 => some ((bytesOfRows y217).toList == (bytesOfRows z).toList) else some false
      else bif r.2.2.2.2 then (f_impl_MsgBytes r.1 r.2.1 r.2.2.1 r.2.2.2.1).bind fun y218 => some ((bytesOfRows y218).toList == (bytesOfRows z).toList) else some false) = some true := by
    rcases msgOf_cases z (by omega) z2 with h | ⟨a, b, d, v, h, hv, h3, h4⟩
    · rw [r2] at h
      cases h
      rfl
    · rw [r2] at h
      cases h
      obtain ⟨q, q1, q2, q3, q4⟩ := same_msgBytes a b d v (by omega)
      simp only [Bool.not_true, cond_false, cond_true, q2, Option.bind_some, q4 h3, ← h4, beq_self_eq_true]
  simp only [Option.bind_some, cond_false, e1, y1, y2, beq_self_eq_true, Bool.not_true, o2, e2, r1, r2, e3, o1', o2', cond_true, tail]
  cases o with
  | false =>
    have : y = [] := by
      unfold f_spec_MsgBytes at y1
      rw [o1] at y1
      exact (Option.some.inj y1).symm
    subst this
    rfl
  | true =>
    have hy := y4 o1
    have hpos := msgB_pos k p c w (by omega) o1
    rw [← hy] at hpos
    rw [decide_eq_true (show (0 : Int) < (y.length : Int) by omega), hy, msgOf_put k p c w (by omega) o1]
    simp only [beq_self_eq_true, Bool.not_true, cond_false, cond_true, Option.bind_some, decide_true, sameInts w (by omega)]
theorem plain : Pure := fun x _ => msgs x
end Go.Abs
