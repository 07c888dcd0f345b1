/- The law FnExactMsgOf returns true for all bytes: the program's MsgOf gives the reference's message, in a row of its own, and turns nothing that it was handed. More than 2^20 bytes are not asked for. -/
import Derived.Test.YtgifligfbjnmfaaMFnExactMsgOf
import Derived.Laws.BitsLemmas
namespace Go.Abs
open Go.RowKit

theorem w64 {n : Int} (h0 : -9223372036854775808 ≤ n) (h1 : n ≤ 9223372036854775807) : IntKind.wrap .i64 n = n := by
  rw [IntKind.wrap_i64]
  omega
theorem succ_fuel {n d : Nat} (h : d < n) : ∃ m, n = m + 1 := ⟨n - 1, by omega⟩
theorem big : (1048577 : Nat) < N := by decide
def rng (x m : Int) : Bool := decide ((0 : Int) ≤ x) && decide (x ≤ m)
theorem in_rng (x m : Int) : f_spec_l1In x 0 m = some (rng x m) := by
  unfold f_spec_l1In rng
  cases decide ((0 : Int) ≤ x) <;> rfl
theorem from_rng (x m : Int) : f_impl_from x 0 m = some (rng x m) := by
  unfold f_impl_from rng
  cases decide ((0 : Int) ≤ x) <;> rfl
def rg (x a b : Int) : Bool := decide (a ≤ x) && decide (x ≤ b)
theorem in_rg (x a b : Int) : f_spec_l1In x a b = some (rg x a b) := by
  unfold f_spec_l1In rg
  cases decide (a ≤ x) <;> rfl
theorem from_rg (x a b : Int) : f_impl_from x a b = some (rg x a b) := by
  unfold f_impl_from rg
  cases decide (a ≤ x) <;> rfl
theorem mem_getD {α : Type} (x : List α) (d : α) (i : Int) (h0 : 0 ≤ i) (h1 : i < x.length) : x.getD i.toNat d ∈ x := by
  have hlt : i.toNat < x.length := by omega
  rw [List.getD_eq_getElem?_getD, List.getElem?_eq_getElem hlt]
  exact List.getElem_mem hlt
theorem drop_getD {α : Type} (x : List α) (d : α) (i : Int) (h0 : 0 ≤ i) (h1 : i < x.length) : x.drop i.toNat = x.getD i.toNat d :: x.drop (i + 1).toNat := by
  have hlt : i.toNat < x.length := by omega
  have e : (i + 1).toNat = i.toNat + 1 := by omega
  rw [e, List.drop_eq_getElem_cons hlt, List.getD_eq_getElem?_getD, List.getElem?_eq_getElem hlt]
  rfl
theorem to_gen {α : Type} {d : α} {F : Nat → List α → Int → List α → Option (List α)} {g : α → Option α}
    (hs : ∀ n x i y, F (n + 1) x i y = bif decide (i < (x.length : Int)) then (bif (decide ((0 : Int) ≤ i) && decide (i < (x.length : Int))) then (g (x.getD i.toNat d)).bind fun e => (bif (decide ((0 : Int) ≤ i) && decide (i < (y.length : Int))) then F n x (IntKind.wrap .i64 (i + 1)) (y.set i.toNat e) else none) else none) else some y)
    (x : List α) (hn : x.length ≤ 1048576) (hg : ∀ e ∈ x, g e = some e) (k : Nat) : ∀ (n : Nat) (y : List α) (i : Int), 0 ≤ i → i ≤ x.length → (x.length : Int) - i = k → k < n → y.length = x.length → y.take i.toNat = x.take i.toNat → F n x i y = some x := by
  induction k with
  | zero =>
    intro n y i h0 h1 hd hk hl ht
    obtain ⟨n, rfl⟩ := succ_fuel hk
    rw [hs, decide_eq_false (by omega), cond_false]
    rw [List.take_of_length_le (by omega), List.take_of_length_le (by omega)] at ht
    rw [ht]
  | succ k ih =>
    intro n y i h0 h1 hd hk hl ht
    obtain ⟨n, rfl⟩ := succ_fuel hk
    have hw : IntKind.wrap .i64 (i + 1) = i + 1 := w64 (by omega) (by omega)
    have hlt : i.toNat < x.length := by omega
    rw [hs, decide_eq_true (show i < (x.length : Int) by omega), decide_eq_true h0, decide_eq_true (show i < (y.length : Int) by omega), hw, hg _ (mem_getD x d i h0 (by omega))]
    simp only [cond_true, Bool.and_self, Option.bind_some]
    refine ih n _ (i + 1) (by omega) (by omega) (by omega) (by omega) (by rw [List.length_set]; exact hl) ?_
    have e : (i + 1).toNat = i.toNat + 1 := by omega
    rw [e, List.take_add_one, List.take_add_one, List.take_set, List.getElem?_set_self (by omega), List.getElem?_eq_getElem hlt]
    have : x.getD i.toNat d = x[i.toNat] := by rw [List.getD_eq_getElem?_getD, List.getElem?_eq_getElem hlt]; rfl
    rw [this, List.set_eq_of_length_le (by rw [List.length_take]; omega), ht]
theorem eq_gen {α : Type} {d : α} {F : Nat → List α → List α → Bool → Int → Option (Bool ⊕ Bool)} {q : α → α → Option Bool}
    (hs : ∀ n x y b i, F (n + 1) x y b i = bif decide (i < (x.length : Int)) then (bif (decide ((0 : Int) ≤ i) && decide (i < (x.length : Int))) then (bif (decide ((0 : Int) ≤ i) && decide (i < (y.length : Int))) then (q (x.getD i.toNat d) (y.getD i.toNat d)).bind fun r => (bif (!r) then some (.inl false) else F n x y b (IntKind.wrap .i64 (i + 1))) else none) else none) else some (.inr b))
    (x : List α) (hn : x.length ≤ 1048576) (hq : ∀ e ∈ x, q e e = some true) (b : Bool) (k : Nat) : ∀ (n : Nat) (i : Int), 0 ≤ i → i ≤ x.length → (x.length : Int) - i = k → k < n → F n x x b i = some (.inr b) := by
  induction k with
  | zero =>
    intro n i h0 h1 hd hk
    obtain ⟨n, rfl⟩ := succ_fuel hk
    rw [hs, decide_eq_false (by omega), cond_false]
  | succ k ih =>
    intro n i h0 h1 hd hk
    obtain ⟨n, rfl⟩ := succ_fuel hk
    have hw : IntKind.wrap .i64 (i + 1) = i + 1 := w64 (by omega) (by omega)
    rw [hs, decide_eq_true (show i < (x.length : Int) by omega), decide_eq_true h0, hw, hq _ (mem_getD x d i h0 (by omega))]
    simp only [cond_true, Bool.and_self, Option.bind_some, Bool.not_true, cond_false]
    exact ih n (i + 1) (by omega) (by omega) (by omega) (by omega)
theorem sz_gen {α : Type} {d : α} {F : Nat → List α → Int → Int → Int → Option (Int ⊕ (Int × Int))} {s : α → Int → Option Int} {Ok : α → Prop}
    (hs : ∀ n x l q i, F (n + 1) x l q i = bif decide (i < (x.length : Int)) then (bif (decide ((0 : Int) ≤ i) && decide (i < (x.length : Int))) then (s (x.getD i.toNat d) l).bind fun r => (bif decide (r < 0) then some (.inl (-1)) else F n x r q (IntKind.wrap .i64 (i + 1))) else none) else some (.inr (l, q)))
    (x : List α) (hn : x.length ≤ 1048576) (he : ∀ e ∈ x, ∀ l, 0 ≤ l → l ≤ 1048576 → s e l = some (-1) ∨ ∃ l', s e l = some l' ∧ 0 ≤ l' ∧ l' ≤ l ∧ Ok e) (q : Int) (k : Nat) :
    ∀ (n : Nat) (l i : Int), 0 ≤ l → l ≤ 1048576 → 0 ≤ i → i ≤ x.length → (x.length : Int) - i = k → k < n → F n x l q i = some (.inl (-1)) ∨ ∃ l', F n x l q i = some (.inr (l', q)) ∧ 0 ≤ l' ∧ l' ≤ l ∧ ∀ e ∈ x.drop i.toNat, Ok e := by
  induction k with
  | zero =>
    intro n l i hl0 hl1 h0 h1 hd hk
    obtain ⟨n, rfl⟩ := succ_fuel hk
    rw [hs, decide_eq_false (show ¬ i < (x.length : Int) by omega), cond_false, List.drop_eq_nil_of_le (by omega)]
    exact .inr ⟨l, rfl, hl0, Int.le_refl _, fun e h => by cases h⟩
  | succ k ih =>
    intro n l i hl0 hl1 h0 h1 hd hk
    obtain ⟨n, rfl⟩ := succ_fuel hk
    have hw : IntKind.wrap .i64 (i + 1) = i + 1 := w64 (by omega) (by omega)
    rw [hs, decide_eq_true (show i < (x.length : Int) by omega), decide_eq_true h0, hw]
    simp only [cond_true, Bool.and_self]
    rcases he _ (mem_getD x d i h0 (by omega)) l hl0 hl1 with h | ⟨l', h, a0, a1, a2⟩
    · rw [h]; exact .inl rfl
    · rw [h, Option.bind_some, decide_eq_false (show ¬ l' < 0 by omega), cond_false]
      rcases ih n l' (i + 1) a0 (by omega) (by omega) (by omega) (by omega) (by omega) with h2 | ⟨l2, h2, b0, b1, b2⟩
      · exact .inl h2
      · refine .inr ⟨l2, h2, b0, by omega, fun e hm => ?_⟩
        rw [drop_getD x d i h0 (by omega)] at hm
        rcases List.mem_cons.1 hm with rfl | hm
        · exact a2
        · exact b2 e hm
theorem lt_N {x : Nat} (h : x ≤ 1048576) : x < N := Nat.lt_of_le_of_lt h (Nat.lt_trans (by omega) big)
theorem eqIntS_loop (x : List Int) (hn : x.length ≤ 1048576) (b : Bool) (d : Nat) : ∀ (n : Nat) (i : Int), 0 ≤ i → i ≤ x.length → (x.length : Int) - i = d → d < n → f_laws_eqIntS.l0 n x x b i = some (.inr b) := by
  induction d with
  | zero =>
    intro n i h0 h1 hd hk
    obtain ⟨n, rfl⟩ := succ_fuel hk
    simp only [f_laws_eqIntS.l0]
    rw [decide_eq_false (by omega), cond_false]
  | succ d ih =>
    intro n i h0 h1 hd hk
    obtain ⟨n, rfl⟩ := succ_fuel hk
    have hw : IntKind.wrap .i64 (i + 1) = i + 1 := w64 (by omega) (by omega)
    simp only [f_laws_eqIntS.l0]
    rw [decide_eq_true (show i < (x.length : Int) by omega), decide_eq_true h0, hw]
    simp only [cond_true, Bool.and_self, decide_true, Bool.not_true, cond_false]
    exact ih n (i + 1) (by omega) (by omega) (by omega) (by omega)
theorem eqIntS (x : List Int) (hn : x.length ≤ 1048576) : f_laws_eqIntS x x = some true := by
  unfold f_laws_eqIntS
  simp only [decide_true, Bool.not_true, cond_false]
  rw [eqIntS_loop x hn false x.length N 0 (by omega) (by omega) (by omega) (Nat.lt_of_le_of_lt (by omega) big)]
  rfl
def allW (x : List Int) : Bool := x.all fun w => rng w 65535
theorem drop_step (x : List Int) (i : Int) (h0 : 0 ≤ i) (h1 : i < x.length) : x.drop i.toNat = x.getD i.toNat 0 :: x.drop (i + 1).toNat := by
  have hlt : i.toNat < x.length := by omega
  have e : (i + 1).toNat = i.toNat + 1 := by omega
  rw [e, List.drop_eq_getElem_cons hlt, List.getD_eq_getElem?_getD, List.getElem?_eq_getElem hlt]
  rfl
theorem specWords_loop (x : List Int) (hn : x.length ≤ 1048576) (k : Int) (b : Bool) (d : Nat) : ∀ (n : Nat) (i : Int), 0 ≤ i → i ≤ x.length → (x.length : Int) - i = d → d < n →
    f_spec_l1Words.l0 n x k b i = some (bif allW (x.drop i.toNat) then .inr (x, k, b) else .inl false) := by
  induction d with
  | zero =>
    intro n i h0 h1 hd hk
    obtain ⟨n, rfl⟩ := succ_fuel hk
    simp only [f_spec_l1Words.l0]
    rw [decide_eq_false (by omega), cond_false, List.drop_eq_nil_of_le (by omega)]
    rfl
  | succ d ih =>
    intro n i h0 h1 hd hk
    obtain ⟨n, rfl⟩ := succ_fuel hk
    have hw : IntKind.wrap .i64 (i + 1) = i + 1 := w64 (by omega) (by omega)
    simp only [f_spec_l1Words.l0]
    rw [decide_eq_true (show i < (x.length : Int) by omega), decide_eq_true h0, hw, in_rng, drop_step x i h0 (by omega)]
    simp only [cond_true, Bool.and_self, Option.bind_some]
    unfold allW
    rw [List.all_cons]
    cases hr : rng (x.getD i.toNat 0) 65535 with
    | false => rfl
    | true =>
      simp only [Bool.not_true, cond_false, Bool.true_and]
      exact ih n (i + 1) (by omega) (by omega) (by omega) (by omega)
theorem specWords (x : List Int) (hn : x.length ≤ 1048576) (k : Int) : f_spec_l1Words x k = some (allW x && decide ((x.length : Int) = k)) := by
  unfold f_spec_l1Words
  rw [specWords_loop x hn k false x.length N 0 (by omega) (by omega) (by omega) (Nat.lt_of_le_of_lt (by omega) big)]
  simp only [Int.toNat_zero, List.drop_zero, Option.bind_some]
  cases allW x <;> rfl
theorem implWords_loop (x : List Int) (hn : x.length ≤ 1048576) (q : Int) (d : Nat) : ∀ (n : Nat) (i : Int), 0 ≤ i → i ≤ x.length → (x.length : Int) - i = d → d < n →
    (allW (x.drop i.toNat) = true ∧ f_impl_wordsOk.l0 n x q (x.length : Int) i = some (.inr q)) ∨ (allW (x.drop i.toNat) = false ∧ ∃ j : Int, 0 ≤ j ∧ f_impl_wordsOk.l0 n x q (x.length : Int) i = some (.inl j)) := by
  induction d with
  | zero =>
    intro n i h0 h1 hd hk
    obtain ⟨n, rfl⟩ := succ_fuel hk
    simp only [f_impl_wordsOk.l0]
    rw [decide_eq_false (show ¬ i < (x.length : Int) by omega), cond_false, List.drop_eq_nil_of_le (by omega)]
    exact .inl ⟨rfl, rfl⟩
  | succ d ih =>
    intro n i h0 h1 hd hk
    obtain ⟨n, rfl⟩ := succ_fuel hk
    have hw : IntKind.wrap .i64 (i + 1) = i + 1 := w64 (by omega) (by omega)
    have ih2 := ih n (i + 1) (by omega) (by omega) (by omega) (by omega)
    simp only [f_impl_wordsOk.l0]
    rw [decide_eq_true (show i < (x.length : Int) by omega), decide_eq_true h0, hw, drop_step x i h0 (by omega)]
    unfold f_impl_wordsOk_1 f_impl_isWord
    simp only [cond_true, Bool.and_self, from_rng, Option.bind_some]
    unfold allW at ih2 ⊢
    rw [List.all_cons]
    cases hr : rng (x.getD i.toNat 0) 65535 with
    | false => exact .inr ⟨rfl, i, h0, rfl⟩
    | true =>
      simp only [Bool.not_true, cond_false, Bool.true_and]
      exact ih2
theorem implWords (x : List Int) (hn : x.length ≤ 1048576) (k : Int) : f_impl_wordsOk x k = some (allW x && decide ((x.length : Int) = k)) := by
  unfold f_impl_wordsOk
  have h := implWords_loop x hn 0 x.length N 0 (by omega) (by omega) (by omega) (Nat.lt_of_le_of_lt (by omega) big)
  simp only [Int.toNat_zero, List.drop_zero] at h
  cases decide ((x.length : Int) = k) with
  | false => simp
  | true =>
    rcases h with ⟨h1, h2⟩ | ⟨h1, j, h3, h2⟩
    · simp only [cond_true, h2, Option.bind_some, h1, Bool.and_true]; rfl
    · simp only [cond_true, h2, Option.bind_some, h1, Bool.and_true]
      show some (!(decide ((0 : Int) ≤ j))) = some false
      rw [decide_eq_true h3]; rfl
theorem allW_nil (x : List Int) : (allW x && decide ((x.length : Int) = 0)) = decide ((x.length : Int) = 0) := by
  cases x with
  | nil => rfl
  | cons a x =>
    rw [decide_eq_false (by simp; omega), Bool.and_false]
theorem same_msgOk (x0 x1 : Int) (x2 : Bool) (x3 : List Int) (hn : x3.length ≤ 1048576) : ∃ b, f_spec_MsgOk x0 x1 x2 x3 = some b ∧ f_impl_MsgOk x0 x1 x2 x3 = some b := by
  unfold f_spec_MsgOk f_impl_MsgOk f_impl_isPage
  simp only [specWords x3 hn, implWords x3 hn, in_rg, from_rg, Option.bind_some, allW_nil]
  by_cases h3 : x0 = 3
  · subst h3
    rw [show rg 3 1 7 = true from rfl]
    cases rg x1 0 5 <;> cases x2 <;> exact ⟨_, rfl, rfl⟩
  · by_cases h7 : x0 = 7
    · subst h7
      rw [show rg 7 1 7 = true from rfl]
      cases rg x1 0 5 <;> cases x2 <;> exact ⟨_, rfl, rfl⟩
    · by_cases h6 : x0 = 6
      · subst h6
        rw [show rg 6 1 7 = true from rfl]
        cases rg x1 0 5 <;> cases x2 <;> exact ⟨_, rfl, rfl⟩
      · rw [decide_eq_false h3, decide_eq_false h7, decide_eq_false h6]
        cases rg x0 1 7 <;> cases rg x1 0 5 <;> cases x2 <;> exact ⟨_, rfl, rfl⟩
def putB (x : Int) : List Int := if x < 0 ∨ 100000 < x then [] else if x ≤ 127 then [x] else if x ≤ 16383 then [x % 128 + 128, x / 128] else [x % 128 + 128, x / 128 % 128 + 128, x / 16384]
theorem putB_length (x : Int) : (putB x).length ≤ 3 := by
  unfold putB
  split
  · simp
  · split
    · simp
    · split <;> simp
theorem u8 {n : Int} (h0 : 0 ≤ n) (h1 : n ≤ 255) : IntKind.wrap .u8 n = n := by
  rw [IntKind.wrap_u8]
  omega
theorem put_gen {F : Nat → Int → List Int → Option (Int × List Int)}
    (hs : ∀ n x y, F (n + 1) x y = bif decide ((127 : Int) < x) then (bif Nat.blt (y.length + ([(IntKind.wrap .u8 ((IntKind.wrap .i64 ((Int.tmod x (128 : Int)) + (128 : Int)))))] : List Int).length) 140737488355328 then
      (some (y ++ ([(IntKind.wrap .u8 ((IntKind.wrap .i64 ((Int.tmod x (128 : Int)) + (128 : Int)))))] : List Int))).bind fun z => F n (IntKind.wrap .i64 (Int.tdiv x (128 : Int))) z else none) else some (x, y)) (x : Int) (h0 : 0 ≤ x) (h1 : x ≤ 100000) :
    ∃ x' y', F N x [] = some (x', y') ∧ y' ++ [x'] = putB x ∧ 0 ≤ x' ∧ x' ≤ 127 ∧ y'.length ≤ 2 := by
  obtain ⟨m, hm⟩ : ∃ m, N = m + 3 := ⟨N - 3, rfl⟩
  rw [hm]
  have e1 : Int.tmod x 128 = x % 128 := Int.tmod_eq_emod_of_nonneg h0
  have e2 : Int.tdiv x 128 = x / 128 := Int.tdiv_eq_ediv_of_nonneg h0
  have e3 : Int.tmod (x / 128) 128 = x / 128 % 128 := Int.tmod_eq_emod_of_nonneg (by omega)
  have e4 : Int.tdiv (x / 128) 128 = x / 128 / 128 := Int.tdiv_eq_ediv_of_nonneg (by omega)
  unfold putB
  rw [if_neg (by omega)]
  rw [hs]
  by_cases h2 : x ≤ 127
  · rw [decide_eq_false (by omega), if_pos h2]
    exact ⟨x, [], rfl, rfl, h0, h2, by simp⟩
  · rw [decide_eq_true (show (127 : Int) < x by omega), if_neg h2, e1, e2, w64 (show -9223372036854775808 ≤ x % 128 + 128 by omega) (by omega), u8 (show 0 ≤ x % 128 + 128 by omega) (by omega), w64 (show -9223372036854775808 ≤ x / 128 by omega) (by omega)]
    simp only [List.length_nil, List.length_cons, Nat.zero_add, (blt_iff _ _).2 (show 1 < 140737488355328 by omega), cond_true, Option.bind_some, List.nil_append]
    rw [hs]
    by_cases h3 : x ≤ 16383
    · rw [decide_eq_false (by omega), if_pos h3]
      exact ⟨x / 128, [x % 128 + 128], rfl, rfl, by omega, by omega, by simp⟩
    · rw [decide_eq_true (show (127 : Int) < x / 128 by omega), if_neg h3, e3, e4, w64 (show -9223372036854775808 ≤ x / 128 % 128 + 128 by omega) (by omega), u8 (show 0 ≤ x / 128 % 128 + 128 by omega) (by omega), w64 (show -9223372036854775808 ≤ x / 128 / 128 by omega) (by omega)]
      simp only [List.length_nil, List.length_cons, Nat.zero_add, (blt_iff _ _).2 (show 1 + 1 < 140737488355328 by omega), cond_true, Option.bind_some]
      rw [hs, decide_eq_false (by omega)]
      exact ⟨x / 128 / 128, [x % 128 + 128, x / 128 % 128 + 128], rfl, by rw [show x / 16384 = x / 128 / 128 by omega]; rfl, by omega, by omega, by simp⟩
theorem specPut (x : Int) : f_spec_PutNum x = some (putB x) := by
  unfold f_spec_PutNum f_spec_l1In
  by_cases h0 : 0 ≤ x
  · rw [decide_eq_true h0]
    by_cases h1 : x ≤ 100000
    · rw [decide_eq_true h1]
      obtain ⟨x', y', a1, a2, a3, a4, a5⟩ := put_gen (F := f_spec_PutNum.l0) (fun n x y => rfl) x h0 h1
      simp only [cond_true, Option.bind_some, Bool.not_true, cond_false, a1, u8 a3 (show x' ≤ 255 by omega), a2]
      rw [(blt_iff _ _).2 (show y'.length + ([x'] : List Int).length < 140737488355328 by simp; omega)]
      rfl
    · rw [decide_eq_false h1]; unfold putB; rw [if_pos (by omega)]; rfl
  · rw [decide_eq_false h0]; unfold putB; rw [if_pos (by omega)]; rfl
theorem implPut (x : Int) : f_impl_PutNum x = some (putB x) := by
  unfold f_impl_PutNum f_impl_from
  by_cases h0 : 0 ≤ x
  · rw [decide_eq_true h0]
    by_cases h1 : x ≤ 100000
    · rw [decide_eq_true h1]
      obtain ⟨x', y', a1, a2, a3, a4, a5⟩ := put_gen (F := f_impl_PutNum.l0) (fun n x y => rfl) x h0 h1
      simp only [cond_true, Option.bind_some, Bool.not_true, cond_false, a1, u8 a3 (show x' ≤ 255 by omega), a2]
      rw [(blt_iff _ _).2 (show y'.length + ([x'] : List Int).length < 140737488355328 by simp; omega)]
      rfl
    · rw [decide_eq_false h1]; unfold putB; rw [if_pos (by omega)]; rfl
  · rw [decide_eq_false h0]; unfold putB; rw [if_pos (by omega)]; rfl
theorem msgOk_true (x0 x1 : Int) (x2 : Bool) (x3 : List Int) (hn : x3.length ≤ 1048576) (h : f_spec_MsgOk x0 x1 x2 x3 = some true) : x3.length ≤ 4 := by
  unfold f_spec_MsgOk at h
  simp only [specWords x3 hn, in_rg, Option.bind_some] at h
  cases h3 : decide (x0 = (3 : Int)) <;> cases h7 : decide (x0 = (7 : Int)) <;> cases h6 : decide (x0 = (6 : Int)) <;> cases hr : rg x0 1 7 <;> cases hp : rg x1 0 5 <;> cases x2 <;>
    simp only [h3, h7, h6, hr, hp, cond_true, cond_false, Bool.not_true, Bool.not_false, Option.some.injEq, Bool.and_eq_true, decide_eq_true_eq, Bool.false_eq_true] at h <;> omega
theorem bytes_loop {F : Nat → Int → List Int → Option (List Int)} (z : List Int) (hz : z.length ≤ 1000) (h0 : ∀ n i y, ¬ i < (z.length : Int) → F (n + 1) i y = some y)
    (h1 : ∀ n i y, 0 ≤ i → i < (z.length : Int) → F (n + 1) i y = bif Nat.blt (y.length + (putB (z.getD i.toNat 0)).length) 140737488355328 then F n (i + 1) (y ++ putB (z.getD i.toNat 0)) else none) (k : Nat) :
    ∀ (n : Nat) (i : Int) (y : List Int), y.length ≤ 1000000 - 3 * k → 0 ≤ i → i ≤ z.length → (z.length : Int) - i = k → k < n → F n i y = some (y ++ (z.drop i.toNat).flatMap putB) := by
  induction k with
  | zero =>
    intro n i y hy a0 a1 hd hn
    obtain ⟨n, rfl⟩ := succ_fuel hn
    rw [h0 n i y (by omega), List.drop_eq_nil_of_le (by omega)]
    simp
  | succ k ih =>
    intro n i y hy a0 a1 hd hn
    obtain ⟨n, rfl⟩ := succ_fuel hn
    have hl := putB_length (z.getD i.toNat 0)
    rw [h1 n i y a0 (by omega), (blt_iff _ _).2 (by omega), cond_true, ih n (i + 1) _ (by rw [List.length_append]; omega) (by omega) (by omega) (by omega) (by omega), drop_getD z 0 i a0 (by omega), List.flatMap_cons, List.append_assoc]
theorem flat_length (z : List Int) : (z.flatMap putB).length ≤ 3 * z.length := by
  induction z with
  | nil => simp
  | cons a z ih => have := putB_length a; simp only [List.flatMap_cons, List.length_append, List.length_cons]; omega
def msgB (x0 x1 : Int) (x2 : Bool) (x3 : List Int) : List Int := ([x0, x1, bif x2 then 1 else 0] ++ x3).flatMap putB
theorem same_msgBytes (x0 x1 : Int) (x2 : Bool) (x3 : List Int) (hn : x3.length ≤ 1048576) : ∃ r, f_spec_MsgBytes x0 x1 x2 x3 = some r ∧ f_impl_MsgBytes x0 x1 x2 x3 = some r ∧ r.length ≤ 100 ∧ (f_spec_MsgOk x0 x1 x2 x3 = some true → r = msgB x0 x1 x2 x3) := by
  obtain ⟨b, e1, e2⟩ := same_msgOk x0 x1 x2 x3 hn
  unfold f_spec_MsgBytes f_impl_MsgBytes
  rw [e1, e2]
  cases b with
  | false => exact ⟨[], rfl, rfl, by simp, fun h => by cases h⟩
  | true =>
    have hl := msgOk_true x0 x1 x2 x3 hn e1
    have q0 := putB_length x0
    have q1 := putB_length x1
    have q2 := putB_length (bif x2 then 1 else 0)
    have s : ∀ y : List Int, y.length ≤ 100 → f_spec_MsgBytes.l0 N 0 x0 x1 x2 x3 y = some (y ++ x3.flatMap putB) := by
      intro y hy
      have := bytes_loop (F := fun n i y => f_spec_MsgBytes.l0 n i x0 x1 x2 x3 y) x3 (by omega) (fun n i y h => by simp only [f_spec_MsgBytes.l0, decide_eq_false h, cond_false])
        (fun n i y a0 a1 => by simp only [f_spec_MsgBytes.l0, decide_eq_true a0, decide_eq_true a1, specPut, cond_true, Bool.and_self, Option.bind_some, w64 (show -9223372036854775808 ≤ i + 1 by omega) (by omega)])
        x3.length N 0 y (by omega) (by omega) (by omega) (by omega) (Nat.lt_of_le_of_lt hn (Nat.lt_trans (by omega) big))
      simpa using this
    have i : ∀ z : List Int, z.length ≤ 100 → f_impl_MsgBytes.l0 N (z.length : Int) 0 [] z = some (z.flatMap putB) := by
      intro z hz
      have := bytes_loop (F := fun n i y => f_impl_MsgBytes.l0 n (z.length : Int) i y z) z (by omega) (fun n i y h => by simp only [f_impl_MsgBytes.l0, decide_eq_false h, cond_false])
        (fun n i y a0 a1 => by simp only [f_impl_MsgBytes.l0, decide_eq_true a0, decide_eq_true a1, implPut, cond_true, Bool.and_self, Option.bind_some, w64 (show -9223372036854775808 ≤ i + 1 by omega) (by omega)])
        z.length N 0 [] (Nat.zero_le _) (by omega) (by omega) (by omega) (Nat.lt_trans (by omega) big)
      simpa using this
    have eb : f_spec_l1Bit x2 = some (bif x2 then 1 else 0) := by unfold f_spec_l1Bit; cases x2 <;> rfl
    have hl1 : (([x0, x1, bif x2 then 1 else 0] ++ x3).flatMap putB).length ≤ 100 := by
      have := flat_length ([x0, x1, bif x2 then 1 else 0] ++ x3)
      simp only [List.length_append, List.length_cons, List.length_nil] at this
      omega
    refine ⟨msgB x0 x1 x2 x3, ?_, ?_, hl1, fun _ => rfl⟩
    · simp only [Option.bind_some, Bool.not_true, cond_false, specPut, eb]
      rw [(blt_iff _ _).2 (show (putB x0).length + (putB x1).length < 140737488355328 by omega)]
      simp only [cond_true]
      rw [(blt_iff _ _).2 (show (putB x0 ++ putB x1).length + (putB (bif x2 then 1 else 0)).length < 140737488355328 by rw [List.length_append]; omega)]
      simp only [cond_true]
      rw [s _ (by simp only [List.length_append]; omega)]
      unfold msgB
      simp [List.append_assoc]
    · simp only [Option.bind_some, Bool.not_true, cond_false]
      cases x2 with
      | true =>
        simp only [cond_true]
        rw [(blt_iff _ _).2 (show ([x0, x1, 1] : List Int).length + x3.length < 17592186044416 by simp; omega), cond_true, i _ (by simp; omega)]
        rfl
      | false =>
        simp only [cond_false]
        rw [(blt_iff _ _).2 (show ([x0, x1, 0] : List Int).length + x3.length < 17592186044416 by simp; omega), cond_true, i _ (by simp; omega)]
        rfl
theorem bits_small (n : Int) (h₀ : 0 ≤ n) (h₁ : n < 2 ^ 30) : IntKind.i64.wrap n = n := by
  have : (2 : Int) ^ 30 = 1073741824 := by decide
  exact w64 (by omega) (by omega)
theorem or_more (v m : Int) (t : Nat) (P : Nat) (hP : P = 2 ^ t) (ht : t ≤ 14) (h0 : 0 ≤ v) (h1 : v < P) (hm0 : 0 ≤ m) (hm : m < 128) : bitI .or .i64 v (m * P) = v + m * P := by
  obtain ⟨a, rfl⟩ := Int.eq_ofNat_of_zero_le h0
  obtain ⟨b, rfl⟩ := Int.eq_ofNat_of_zero_le hm0
  have ha : a < P := by exact_mod_cast h1
  have hp : P ≤ 2 ^ 14 := by rw [hP]; exact Nat.pow_le_pow_right (by omega) ht
  have e14 : 2 ^ 14 = 16384 := by decide
  have e30 : 2 ^ 30 = 1073741824 := by decide
  have hb : b * P ≤ 127 * 2 ^ 14 := Nat.mul_le_mul (by omega) hp
  have hc : ((b : Int) * P) = ((b * P : Nat) : Int) := by simp
  have hbits : bitI .or .i64 (a : Int) ((b * P : Nat) : Int) = Go.bits .or .i64 (a : Int) ((b * P : Nat) : Int) := rfl
  rw [hc, hbits, (bits_nat .i64 30 (by decide) bits_small a (b * P) (by omega) (by omega)).2, Nat.or_comm, Nat.mul_comm, hP, ← Nat.two_pow_add_eq_or_of_lt (by rw [← hP]; exact ha) b]
  omega
theorem shl7 (m : Int) (hm0 : 0 ≤ m) (hm : m < 128) : shlI .i64 m 0 = m * 1 ∧ shlI .i64 m 7 = m * 128 ∧ shlI .i64 m 14 = m * 16384 := by
  unfold shlI
  refine ⟨?_, ?_, ?_⟩
  · show IntKind.i64.wrap (m * 1) = _
    exact w64 (by omega) (by omega)
  · show IntKind.i64.wrap (m * 128) = _
    exact w64 (by omega) (by omega)
  · show IntKind.i64.wrap (m * 16384) = _
    exact w64 (by omega) (by omega)
/-- What stands at a place. -/
def getB (x : List Int) (i : Int) : Int × Int × Bool :=
  if i < 0 ∨ (x.length : Int) ≤ i then (0, 0, false) else
  if x.getD i.toNat 0 < 128 then (x.getD i.toNat 0, i + 1, true) else
  if (x.length : Int) ≤ i + 1 then (0, 0, false) else
  if x.getD (i + 1).toNat 0 < 128 then (if x.getD (i + 1).toNat 0 = 0 then (0, 0, false) else (x.getD i.toNat 0 % 128 + x.getD (i + 1).toNat 0 % 128 * 128, i + 2, true)) else
  if (x.length : Int) ≤ i + 2 then (0, 0, false) else
  if x.getD (i + 2).toNat 0 < 128 then (if x.getD (i + 2).toNat 0 = 0 then (0, 0, false) else
    if 100000 < x.getD i.toNat 0 % 128 + x.getD (i + 1).toNat 0 % 128 * 128 + x.getD (i + 2).toNat 0 % 128 * 16384 then (0, 0, false) else (x.getD i.toNat 0 % 128 + x.getD (i + 1).toNat 0 % 128 * 128 + x.getD (i + 2).toNat 0 % 128 * 16384, i + 3, true)) else (0, 0, false)
theorem byte_getD {x : List Int} (hx : ∀ y ∈ x, 0 ≤ y ∧ y < 256) (i : Int) : 0 ≤ x.getD i.toNat 0 ∧ x.getD i.toNat 0 < 256 := by
  rcases Nat.lt_or_ge i.toNat x.length with h | h
  · rw [List.getD_eq_getElem?_getD, List.getElem?_eq_getElem h]
    exact hx _ (List.getElem_mem h)
  · rw [List.getD_eq_getElem?_getD, List.getElem?_eq_none h]
    exact ⟨by simp, by simp⟩
theorem spec_get_step (x : List Int) (hn : x.length ≤ 1048576) (hx : ∀ y ∈ x, 0 ≤ y ∧ y < 256) (i : Int) (hi : 0 ≤ i) (t v P b : Int) (n : Nat) (ht : t = 0 ∨ t = 1 ∨ t = 2) (_ : 0 ≤ v) (hb : x.getD (i + t).toNat 0 = b)
    (hsl : ∀ m : Int, 0 ≤ m → m < 128 → shlI .i64 m (7 * t) = m * P) (hor : ∀ m : Int, 0 ≤ m → m < 128 → bitI .or .i64 v (m * P) = v + m * P) :
    f_spec_GetNum.l0 (n + 1) x i 0 0 false v t = if (x.length : Int) ≤ i + t then some (.inl (0, 0, false)) else if b < 128 then (if 0 < t ∧ b = 0 then some (.inl (0, 0, false)) else if 100000 < v + b % 128 * P then some (.inl (0, 0, false)) else some (.inl (v + b % 128 * P, i + t + 1, true))) else f_spec_GetNum.l0 n x i 0 0 false (v + b % 128 * P) (t + 1) := by
  have hbb := byte_getD hx (i + t)
  rw [hb] at hbb
  simp only [f_spec_GetNum.l0]
  rw [decide_eq_true (show t < 3 by omega), decide_eq_false (show ¬ i < 0 by omega), w64 (show -9223372036854775808 ≤ (x.length : Int) - t by omega) (by omega)]
  by_cases hl : (x.length : Int) ≤ i + t
  · rw [if_pos hl, decide_eq_true (show (x.length : Int) - t ≤ i by omega)]; rfl
  · rw [if_neg hl, decide_eq_false (show ¬ (x.length : Int) - t ≤ i by omega), w64 (show -9223372036854775808 ≤ i + t by omega) (by omega), decide_eq_true (show 0 ≤ i + t by omega), decide_eq_true (show i + t < (x.length : Int) by omega), w64 (show -9223372036854775808 ≤ 7 * t by omega) (by omega), decide_eq_false (show ¬ 7 * t < 0 by omega), hb,
      w64 (show -9223372036854775808 ≤ b by omega) (by omega), Int.tmod_eq_emod_of_nonneg hbb.1, hsl _ (by omega) (by omega), hor _ (by omega) (by omega), w64 (show -9223372036854775808 ≤ i + t + 1 by omega) (by omega), w64 (show -9223372036854775808 ≤ t + 1 by omega) (by omega)]
    simp only [cond_true, cond_false, Bool.and_self]
    by_cases h1 : b < 128
    · rw [decide_eq_true h1, if_pos h1, cond_true]
      by_cases h2 : 0 < t
      · rw [decide_eq_true h2, cond_true]
        by_cases h3 : b = 0
        · rw [decide_eq_true h3, if_pos ⟨h2, h3⟩]; rfl
        · rw [decide_eq_false h3, if_neg (fun h => h3 h.2), cond_false]
          by_cases h4 : 100000 < v + b % 128 * P
          · rw [decide_eq_true h4, if_pos h4]; rfl
          · rw [decide_eq_false h4, if_neg h4]; rfl
      · rw [decide_eq_false h2, if_neg (fun h => h2 h.1), cond_false]
        by_cases h4 : 100000 < v + b % 128 * P
        · rw [decide_eq_true h4, if_pos h4]; rfl
        · rw [decide_eq_false h4, if_neg h4]; rfl
    · rw [decide_eq_false h1, if_neg h1]; rfl
theorem impl_get_step (x : List Int) (hn : x.length ≤ 1048576) (hx : ∀ y ∈ x, 0 ≤ y ∧ y < 256) (i : Int) (hi : 0 ≤ i) (t v P b : Int) (n : Nat) (ht : t = 0 ∨ t = 1 ∨ t = 2) (hv0 : 0 ≤ v) (hv1 : v < P) (hP : 0 < P ∧ P ≤ 16384) (hb : x.getD (i + t).toNat 0 = b)
    (hsl : ∀ m : Int, 0 ≤ m → m < 128 → shlI .i64 m (7 * t) = m * P) :
    f_impl_GetNum.l0 (n + 1) x i 0 0 false v t = if (x.length : Int) ≤ i + t then some (.inl (0, 0, false)) else if b < 128 then (if 0 < t ∧ b = 0 then some (.inl (0, 0, false)) else if 100000 < v + b % 128 * P then some (.inl (0, 0, false)) else some (.inr (v + b % 128 * P, i + t + 1, true))) else f_impl_GetNum.l0 n x i 0 0 false (v + b % 128 * P) (t + 1) := by
  have hbb := byte_getD hx (i + t)
  rw [hb] at hbb
  have hS0 : 0 ≤ (b % 128) * P := Int.mul_nonneg (by omega) (by omega)
  have hS1 : (b % 128) * P ≤ 127 * P := Int.mul_le_mul_of_nonneg_right (by omega) (by omega)
  simp only [f_impl_GetNum.l0]
  rw [decide_eq_true (show t < 3 by omega), w64 (show -9223372036854775808 ≤ (x.length : Int) - t by omega) (by omega)]
  by_cases hl : (x.length : Int) ≤ i + t
  · rw [if_pos hl, decide_eq_false (show ¬ i < (x.length : Int) - t by omega)]; rfl
  · rw [if_neg hl, decide_eq_true (show i < (x.length : Int) - t by omega), w64 (show -9223372036854775808 ≤ i + t by omega) (by omega), decide_eq_true (show 0 ≤ i + t by omega), decide_eq_true (show i + t < (x.length : Int) by omega), w64 (show -9223372036854775808 ≤ 7 * t by omega) (by omega), decide_eq_false (show ¬ 7 * t < 0 by omega), hb,
      Int.tmod_eq_emod_of_nonneg hbb.1, w64 (show -9223372036854775808 ≤ b % 128 by omega) (by omega), hsl _ (by omega) (by omega), w64 (show -9223372036854775808 ≤ v + b % 128 * P by omega) (by omega), w64 (show -9223372036854775808 ≤ i + t + 1 by omega) (by omega), w64 (show -9223372036854775808 ≤ t + 1 by omega) (by omega)]
    simp only [cond_true, cond_false, Bool.and_self]
    by_cases h1 : b < 128
    · rw [decide_eq_false (show ¬ 128 ≤ b by omega), if_pos h1, cond_false]
      by_cases h4 : 100000 < v + b % 128 * P
      · rw [decide_eq_true h4, if_pos h4, cond_true]
        by_cases h3 : 0 < t ∧ b = 0
        · rw [if_pos h3]
        · rw [if_neg h3]
      · rw [decide_eq_false h4, if_neg h4, cond_false]
        by_cases h3 : b = 0
        · rw [decide_eq_true h3, cond_true]
          by_cases h2 : 0 < t
          · rw [decide_eq_true h2, if_pos ⟨h2, h3⟩]; rfl
          · rw [decide_eq_false h2, if_neg (fun h => h2 h.1)]; rfl
        · rw [decide_eq_false h3, if_neg (fun h => h3 h.2)]; rfl
    · rw [decide_eq_true (show 128 ≤ b by omega), if_neg h1]; rfl
theorem specGet (x : List Int) (hn : x.length ≤ 1048576) (hx : ∀ y ∈ x, 0 ≤ y ∧ y < 256) (i : Int) : f_spec_GetNum x i = some (getB x i) := by
  unfold f_spec_GetNum getB
  obtain ⟨m, hm⟩ : ∃ m, N = m + 4 := ⟨N - 4, rfl⟩
  rw [hm]
  by_cases hi : 0 ≤ i
  · have b0 := byte_getD hx i
    have b1 := byte_getD hx (i + 1)
    have b2 := byte_getD hx (i + 2)
    rw [spec_get_step x hn hx i hi 0 0 1 _ (m + 3) (.inl rfl) (Int.le_refl _) rfl (fun m h0 h1 => (shl7 m h0 h1).1) (fun m h0 h1 => or_more 0 m 0 1 rfl (by omega) (by omega) (by omega) h0 h1), Int.add_zero]
    by_cases hl : (x.length : Int) ≤ i
    · rw [if_pos hl, if_pos (.inr hl)]; rfl
    · rw [if_neg hl, if_neg (show ¬ (i < 0 ∨ (x.length : Int) ≤ i) by omega)]
      by_cases h0 : x.getD i.toNat 0 < 128
      · rw [if_pos h0, if_pos h0, if_neg (by omega), if_neg (by omega), show x.getD i.toNat 0 % 128 = x.getD i.toNat 0 by omega, Int.mul_one, Int.zero_add]; rfl
      · rw [if_neg h0, if_neg h0, Int.mul_one, Int.zero_add, Int.zero_add, spec_get_step x hn hx i hi 1 _ 128 _ (m + 2) (.inr (.inl rfl)) (by omega) rfl (fun m h0 h1 => (shl7 m h0 h1).2.1) (fun m h0 h1 => or_more _ m 7 128 rfl (by omega) (by omega) (by omega) h0 h1)]
        by_cases hl1 : (x.length : Int) ≤ i + 1
        · rw [if_pos hl1, if_pos hl1]; rfl
        · rw [if_neg hl1, if_neg hl1]
          by_cases h1 : x.getD (i + 1).toNat 0 < 128
          · rw [if_pos h1, if_pos h1]
            by_cases hz : x.getD (i + 1).toNat 0 = 0
            · rw [if_pos ⟨by omega, hz⟩, if_pos hz]; rfl
            · rw [if_neg (fun h => hz h.2), if_neg hz, if_neg (by omega), show i + 1 + 1 = i + 2 by omega]; rfl
          · rw [if_neg h1, if_neg h1, show (1 : Int) + 1 = 2 from rfl, spec_get_step x hn hx i hi 2 _ 16384 _ (m + 1) (.inr (.inr rfl)) (by omega) rfl (fun m h0 h1 => (shl7 m h0 h1).2.2) (fun m h0 h1 => or_more _ m 14 16384 rfl (by omega) (by omega) (by omega) h0 h1)]
            by_cases hl2 : (x.length : Int) ≤ i + 2
            · rw [if_pos hl2, if_pos hl2]; rfl
            · rw [if_neg hl2, if_neg hl2]
              by_cases h2 : x.getD (i + 2).toNat 0 < 128
              · rw [if_pos h2, if_pos h2]
                by_cases hz : x.getD (i + 2).toNat 0 = 0
                · rw [if_pos ⟨by omega, hz⟩, if_pos hz]; rfl
                · rw [if_neg (fun h => hz h.2), if_neg hz]
                  by_cases hbig : 100000 < x.getD i.toNat 0 % 128 + x.getD (i + 1).toNat 0 % 128 * 128 + x.getD (i + 2).toNat 0 % 128 * 16384
                  · rw [if_pos hbig, if_pos hbig]; rfl
                  · rw [if_neg hbig, if_neg hbig, show i + 2 + 1 = i + 3 by omega]; rfl
              · rw [if_neg h2, if_neg h2]
                simp only [f_spec_GetNum.l0]
                rfl
  · rw [if_pos (.inl (by omega))]
    simp only [f_spec_GetNum.l0]
    rw [decide_eq_true (show i < 0 by omega)]
    rfl
theorem implGet (x : List Int) (hn : x.length ≤ 1048576) (hx : ∀ y ∈ x, 0 ≤ y ∧ y < 256) (i : Int) : f_impl_GetNum x i = some (getB x i) := by
  unfold f_impl_GetNum getB
  obtain ⟨m, hm⟩ : ∃ m, N = m + 4 := ⟨N - 4, rfl⟩
  rw [hm]
  by_cases hi : 0 ≤ i
  · have b0 := byte_getD hx i
    have b1 := byte_getD hx (i + 1)
    have b2 := byte_getD hx (i + 2)
    rw [decide_eq_false (show ¬ i < 0 by omega), cond_false, impl_get_step x hn hx i hi 0 0 1 _ (m + 3) (.inl rfl) (Int.le_refl _) (by omega) (by omega) rfl (fun m h0 h1 => (shl7 m h0 h1).1), Int.add_zero]
    by_cases hl : (x.length : Int) ≤ i
    · rw [if_pos hl, if_pos (.inr hl)]; rfl
    · rw [if_neg hl, if_neg (show ¬ (i < 0 ∨ (x.length : Int) ≤ i) by omega)]
      by_cases h0 : x.getD i.toNat 0 < 128
      · rw [if_pos h0, if_pos h0, if_neg (by omega), if_neg (by omega), show x.getD i.toNat 0 % 128 = x.getD i.toNat 0 by omega, Int.mul_one, Int.zero_add]; rfl
      · rw [if_neg h0, if_neg h0, Int.mul_one, Int.zero_add, Int.zero_add, impl_get_step x hn hx i hi 1 _ 128 _ (m + 2) (.inr (.inl rfl)) (by omega) (by omega) (by omega) rfl (fun m h0 h1 => (shl7 m h0 h1).2.1)]
        by_cases hl1 : (x.length : Int) ≤ i + 1
        · rw [if_pos hl1, if_pos hl1]; rfl
        · rw [if_neg hl1, if_neg hl1]
          by_cases h1 : x.getD (i + 1).toNat 0 < 128
          · rw [if_pos h1, if_pos h1]
            by_cases hz : x.getD (i + 1).toNat 0 = 0
            · rw [if_pos ⟨by omega, hz⟩, if_pos hz]; rfl
            · rw [if_neg (fun h => hz h.2), if_neg hz, if_neg (by omega), show i + 1 + 1 = i + 2 by omega]; rfl
          · rw [if_neg h1, if_neg h1, show (1 : Int) + 1 = 2 from rfl, impl_get_step x hn hx i hi 2 _ 16384 _ (m + 1) (.inr (.inr rfl)) (by omega) (by omega) (by omega) rfl (fun m h0 h1 => (shl7 m h0 h1).2.2)]
            by_cases hl2 : (x.length : Int) ≤ i + 2
            · rw [if_pos hl2, if_pos hl2]; rfl
            · rw [if_neg hl2, if_neg hl2]
              by_cases h2 : x.getD (i + 2).toNat 0 < 128
              · rw [if_pos h2, if_pos h2]
                by_cases hz : x.getD (i + 2).toNat 0 = 0
                · rw [if_pos ⟨by omega, hz⟩, if_pos hz]; rfl
                · rw [if_neg (fun h => hz h.2), if_neg hz]
                  by_cases hbig : 100000 < x.getD i.toNat 0 % 128 + x.getD (i + 1).toNat 0 % 128 * 128 + x.getD (i + 2).toNat 0 % 128 * 16384
                  · rw [if_pos hbig, if_pos hbig]; rfl
                  · rw [if_neg hbig, if_neg hbig, show i + 2 + 1 = i + 3 by omega]; rfl
              · rw [if_neg h2, if_neg h2]
                simp only [f_impl_GetNum.l0]
                rfl
  · rw [if_pos (.inl (by omega)), decide_eq_true (show i < 0 by omega)]
    rfl
theorem toList_loop (bs : ByteArray) (i : Nat) (r : List UInt8) : ByteArray.toList.loop bs i r = r.reverse ++ bs.data.toList.drop i := by
  fun_induction ByteArray.toList.loop bs i r with
  | case1 i r h ih =>
    rw [ih]
    have h' : i < bs.data.toList.length := by simpa using h
    rw [List.drop_eq_getElem_cons h', List.reverse_cons, List.append_assoc]
    congr 1
    simp only [List.singleton_append, List.cons.injEq, and_true]
    simp [ByteArray.get!]
    rw [getElem!_pos bs.data i (by simpa using h)]
  | case2 i r h =>
    rw [List.drop_eq_nil_of_le (by simpa using h)]
    simp
theorem bytes_list (x : List Int) : (bytesOfRows x).toList = x.map fun n => UInt8.ofNat n.toNat := by
  unfold ByteArray.toList
  rw [toList_loop]
  simp [bytesOfRows]
theorem bytes_ne {x y : List Int} (h : x.length ≠ y.length) : ((bytesOfRows x).toList == (bytesOfRows y).toList) = false := by
  rw [bytes_list, bytes_list, beq_eq_false_iff_ne]
  intro e
  have := congrArg List.length e
  simp at this
  exact h this
theorem getB_len (x : List Int) (hx : ∀ y ∈ x, 0 ≤ y ∧ y < 256) (i : Int) (h : (getB x i).2.2 = true) : 0 ≤ i ∧ i < x.length ∧ (getB x i).2.1 = i + ((putB (getB x i).1).length : Int) ∧ 1 ≤ (putB (getB x i).1).length := by
  have b0 := byte_getD hx i
  have b1 := byte_getD hx (i + 1)
  have b2 := byte_getD hx (i + 2)
  unfold getB at h ⊢
  by_cases hl : i < 0 ∨ (x.length : Int) ≤ i
  · rw [if_pos hl] at h; cases h
  · rw [if_neg hl] at h ⊢
    refine ⟨by omega, by omega, ?_⟩
    by_cases h0 : x.getD i.toNat 0 < 128
    · rw [if_pos h0] at h ⊢
      unfold putB
      simp only
      rw [if_neg (by omega), if_pos (by omega)]
      exact ⟨rfl, by simp⟩
    · rw [if_neg h0] at h ⊢
      by_cases hl1 : (x.length : Int) ≤ i + 1
      · rw [if_pos hl1] at h; cases h
      · rw [if_neg hl1] at h ⊢
        by_cases h1 : x.getD (i + 1).toNat 0 < 128
        · rw [if_pos h1] at h ⊢
          by_cases hz : x.getD (i + 1).toNat 0 = 0
          · rw [if_pos hz] at h; cases h
          · rw [if_neg hz]
            unfold putB
            simp only
            rw [if_neg (by omega), if_neg (by omega), if_pos (by omega)]
            exact ⟨rfl, by simp⟩
        · rw [if_neg h1] at h ⊢
          by_cases hl2 : (x.length : Int) ≤ i + 2
          · rw [if_pos hl2] at h; cases h
          · rw [if_neg hl2] at h ⊢
            by_cases h2 : x.getD (i + 2).toNat 0 < 128
            · rw [if_pos h2] at h ⊢
              by_cases hz : x.getD (i + 2).toNat 0 = 0
              · rw [if_pos hz] at h; cases h
              · rw [if_neg hz] at h ⊢
                by_cases hbig : 100000 < x.getD i.toNat 0 % 128 + x.getD (i + 1).toNat 0 % 128 * 128 + x.getD (i + 2).toNat 0 % 128 * 16384
                · rw [if_pos hbig] at h; cases h
                · rw [if_neg hbig]
                  unfold putB
                  simp only
                  rw [if_neg (by omega), if_neg (by omega), if_neg (by omega)]
                  exact ⟨rfl, by simp⟩
            · rw [if_neg h2] at h; cases h
inductive Coll (x : List Int) (s : Option ((Bool × Int × Int × Bool × List Int) ⊕ (List Int × Bool × Int × Int × Bool × List Int × List Int))) (t : Option ((Bool × Int × Int × Bool × List Int) ⊕ (List Int × Bool × Int × Int × Bool × List Int × List Int))) : Prop where
  | bad (hs : s = some (.inl (false, 0, 0, false, []))) (ht : t = some (.inl (false, 0, 0, false, [])))
  | good (v : List Int) (hv : v.length ≤ 7) (hp : v = [] ∨ 0 < x.length) (hs : s = some (.inr (x, false, 0, 0, false, v, []))) (ht : t = some (.inr (x, false, 0, 0, false, v, [])))
  | long (v : List Int) (hv : v.length = 7) (hl : (v.flatMap putB).length < x.length) (h1 : ∀ a ∈ v, 1 ≤ (putB a).length) (hs : s = some (.inl (false, 0, 0, false, [])) ∨ ∃ a, s = some (.inr (x, false, 0, 0, false, v ++ [a], []))) (ht : t = some (.inr (x, false, 0, 0, false, v, [])))
theorem coll_loop (x : List Int) (hn : x.length ≤ 1048576) (hx : ∀ y ∈ x, 0 ≤ y ∧ y < 256) (k : Nat) : ∀ (n m : Nat) (i : Int) (v : List Int), v.length + k = 7 → i = ((v.flatMap putB).length : Int) → (v = [] ∨ 0 < x.length) → (∀ a ∈ v, 1 ≤ (putB a).length) → k + 3 < n → k + 3 < m →
    Coll x (f_spec_MsgOf.l0 n x false i 0 0 false v []) (f_impl_MsgOf.l0 m x false i 0 0 false v []) := by
  induction k with
  | zero =>
    intro n m i v hv hi hp h1 hn' hm'
    obtain ⟨n, rfl⟩ := succ_fuel hn'
    obtain ⟨m, rfl⟩ := succ_fuel hm'
    by_cases hl : i < (x.length : Int)
    · refine .long v hv (by omega) h1 ?_ ?_
      · simp only [f_spec_MsgOf.l0, decide_eq_true hl, decide_eq_true (show (v.length : Int) < 8 by omega), cond_true, specGet x hn hx, Option.bind_some]
        cases hg : (getB x i).2.2 with
        | false => exact .inl rfl
        | true =>
          obtain ⟨n, rfl⟩ : ∃ m, n = m + 1 := ⟨n - 1, by omega⟩
          right
          refine ⟨(getB x i).1, ?_⟩
          simp only [Bool.not_true, cond_false, List.length_cons, List.length_nil, Nat.zero_add, (blt_iff _ _).2 (show v.length + 1 < 17592186044416 by omega), cond_true, f_spec_MsgOf.l0, List.length_append]
          rw [decide_eq_false (show ¬ ((v.length + 1 : Nat) : Int) < 8 by omega)]
          cases decide ((getB x i).2.1 < (x.length : Int)) <;> rfl
      · simp only [f_impl_MsgOf.l0, decide_eq_true hl, decide_eq_false (show ¬ (v.length : Int) < 7 by omega), cond_true, cond_false]
    · refine .good v (by omega) hp ?_ ?_
      · simp only [f_spec_MsgOf.l0, decide_eq_false hl, cond_false]
      · simp only [f_impl_MsgOf.l0, decide_eq_false hl, cond_false]
  | succ k ih =>
    intro n m i v hv hi hp h1 hn' hm'
    obtain ⟨n, rfl⟩ := succ_fuel hn'
    obtain ⟨m, rfl⟩ := succ_fuel hm'
    by_cases hl : i < (x.length : Int)
    · simp only [f_spec_MsgOf.l0, f_impl_MsgOf.l0, decide_eq_true hl, decide_eq_true (show (v.length : Int) < 8 by omega), decide_eq_true (show (v.length : Int) < 7 by omega), cond_true, specGet x hn hx, implGet x hn hx, Option.bind_some, List.length_cons, List.length_nil, Nat.zero_add, (blt_iff _ _).2 (show v.length + 1 < 17592186044416 by omega)]
      cases hg : (getB x i).2.2 with
      | false => exact .bad rfl rfl
      | true =>
        obtain ⟨g1, g2, g3, g4⟩ := getB_len x hx i hg
        simp only [Bool.not_true, cond_false]
        refine ih n m _ (v ++ [(getB x i).1]) (by simp; omega) ?_ (.inr (by omega)) (fun a ha => ?_) (by omega) (by omega)
        · rw [g3, hi]
          simp
        · rcases List.mem_append.1 ha with ha | ha
          · exact h1 a ha
          · simp at ha; rw [ha]; exact g4
    · refine .good v (by omega) hp ?_ ?_
      · simp only [f_spec_MsgOf.l0, decide_eq_false hl, cond_false]
      · simp only [f_impl_MsgOf.l0, decide_eq_false hl, cond_false]
theorem three {v : List Int} (h : 3 ≤ v.length) : ∃ a b c r, v = a :: b :: c :: r := by
  match v, h with
  | a :: b :: c :: r, _ => exact ⟨a, b, c, r, rfl⟩
theorem msgBytes_long (x0 x1 : Int) (x2 : Bool) (x3 : List Int) (hn : x3.length ≤ 1048576) : ∃ r, f_spec_MsgBytes x0 x1 x2 x3 = some r ∧ f_impl_MsgBytes x0 x1 x2 x3 = some r ∧ r.length ≤ 100 ∧ (r = [] ∨ (x3.length ≤ 4 ∧ r = msgB x0 x1 x2 x3)) := by
  obtain ⟨r, h1, h2, h3, h4⟩ := same_msgBytes x0 x1 x2 x3 hn
  refine ⟨r, h1, h2, h3, ?_⟩
  obtain ⟨b, e1, e2⟩ := same_msgOk x0 x1 x2 x3 hn
  cases b with
  | true => exact .inr ⟨msgOk_true x0 x1 x2 x3 hn e1, h4 e1⟩
  | false =>
    unfold f_spec_MsgBytes at h1
    rw [e1] at h1
    exact .inl (Option.some.inj h1).symm
theorem same_msgOf (x : List Int) (hn : x.length ≤ 1048576) (hx : ∀ y ∈ x, 0 ≤ y ∧ y < 256) : ∃ r, f_spec_MsgOf x = some r ∧ f_impl_MsgOf x = some r ∧ r.2.2.2.1.length ≤ 100 := by
  unfold f_spec_MsgOf f_impl_MsgOf
  have hN : 7 + 3 < N := Nat.lt_trans (by omega) big
  have H := coll_loop x hn hx 7 N N 0 [] rfl rfl (.inl rfl) (fun a ha => by cases ha) hN hN
  generalize f_spec_MsgOf.l0 N x false 0 0 0 false [] [] = s at H
  generalize f_impl_MsgOf.l0 N x false 0 0 0 false [] [] = t at H
  cases H with
  | bad hs ht => subst hs ht; exact ⟨_, rfl, rfl, by simp⟩
  | good v hv hp hs ht =>
    subst hs ht
    simp only [Option.bind_some, cs]
    by_cases h3 : (v.length : Int) < 3
    · rw [decide_eq_true h3]; exact ⟨_, rfl, rfl, by simp⟩
    · obtain ⟨a, b, c, r, rfl⟩ := three (v := v) (by omega)
      have hlen : ((a :: b :: c :: r).length : Int) = r.length + 3 := by simp; omega
      have hr : r.length ≤ 4 := by simp at hv; omega
      have ht : List.take (((a :: b :: c :: r).length : Int) - 3).toNat (List.drop 3 (a :: b :: c :: r)) = r := by
        rw [hlen]
        simp
      obtain ⟨y, y1, y2, y3, y4⟩ := msgBytes_long a b (decide (c = 1)) r (by omega)
      rw [ht]
      simp only [decide_eq_false h3, decide_eq_true (show (0 : Int) < ((a :: b :: c :: r).length : Int) by omega), decide_eq_true (show (1 : Int) < ((a :: b :: c :: r).length : Int) by omega), decide_eq_true (show (2 : Int) < ((a :: b :: c :: r).length : Int) by omega), decide_eq_true (show (3 : Int) ≤ ((a :: b :: c :: r).length : Int) by omega), cond_true, cond_false, List.length_nil, Nat.zero_add,
        (blt_iff _ _).2 (show r.length < 17592186044416 by omega), List.nil_append, Option.bind_some, List.getD_cons_zero, List.getD_cons_succ, y1, y2, f_bytes_Equal]
      rcases y4 with rfl | ⟨_, rfl⟩
      · rw [bytes_ne (show ([] : List Int).length ≠ x.length by
          rcases hp with hp | hp
          · cases hp
          · simp; omega)]
        exact ⟨_, rfl, rfl, by simp⟩
      · by_cases h0 : ((msgB a b (decide (c = 1)) r).length : Int) = 0
        · rw [decide_eq_true h0, bytes_ne (show (msgB a b (decide (c = 1)) r).length ≠ x.length by
            rcases hp with hp | hp
            · cases hp
            · omega)]
          exact ⟨_, rfl, rfl, by simp⟩
        · rw [decide_eq_false h0]
          cases (bytesOfRows (msgB a b (decide (c = 1)) r)).toList == (bytesOfRows x).toList with
          | false => exact ⟨_, rfl, rfl, by simp⟩
          | true => exact ⟨_, rfl, rfl, by simp; omega⟩
  | long v hv hl h1 hs ht =>
    refine ⟨(0, 0, false, [], false), ?_, ?_, by simp⟩
    · rcases hs with rfl | ⟨e, rfl⟩
      · rfl
      · simp only [Option.bind_some, cs]
        obtain ⟨a, b, c, r, hr⟩ := three (v := v ++ [e]) (by simp; omega)
        rw [hr]
        have hl8 : (v ++ [e]).length = 8 := by simp; omega
        rw [hr] at hl8
        have hlen : ((a :: b :: c :: r).length : Int) = r.length + 3 := by simp; omega
        have hr5 : r.length = 5 := by simp at hl8; omega
        have ht : List.take (((a :: b :: c :: r).length : Int) - 3).toNat (List.drop 3 (a :: b :: c :: r)) = r := by
          rw [hlen]
          simp
        obtain ⟨y, y1, y2, y3, y4⟩ := msgBytes_long a b (decide (c = 1)) r (by omega)
        have hy : y = [] := by
          rcases y4 with h | ⟨h, _⟩
          · exact h
          · omega
        subst hy
        rw [ht]
        simp only [decide_eq_false (show ¬ ((a :: b :: c :: r).length : Int) < 3 by omega), decide_eq_true (show (0 : Int) < ((a :: b :: c :: r).length : Int) by omega), decide_eq_true (show (1 : Int) < ((a :: b :: c :: r).length : Int) by omega), decide_eq_true (show (2 : Int) < ((a :: b :: c :: r).length : Int) by omega), decide_eq_true (show (3 : Int) ≤ ((a :: b :: c :: r).length : Int) by omega), cond_true, cond_false, List.length_nil, Nat.zero_add,
          (blt_iff _ _).2 (show r.length < 17592186044416 by omega), List.nil_append, Option.bind_some, List.getD_cons_zero, List.getD_cons_succ, y1]
        rw [bytes_ne (show ([] : List Int).length ≠ x.length by simp; omega)]
        rfl
    · subst ht
      simp only [Option.bind_some, cs]
      obtain ⟨a, b, c, r, rfl⟩ := three (v := v) (by omega)
      have hlen : ((a :: b :: c :: r).length : Int) = r.length + 3 := by simp; omega
      have hr4 : r.length = 4 := by simp at hv; omega
      have ht : List.take (((a :: b :: c :: r).length : Int) - 3).toNat (List.drop 3 (a :: b :: c :: r)) = r := by
        rw [hlen]
        simp
      obtain ⟨y, y1, y2, y3, y4⟩ := msgBytes_long a b (decide (c = 1)) r (by omega)
      rw [ht]
      simp only [decide_eq_false (show ¬ ((a :: b :: c :: r).length : Int) < 3 by omega), decide_eq_true (show (0 : Int) < ((a :: b :: c :: r).length : Int) by omega), decide_eq_true (show (1 : Int) < ((a :: b :: c :: r).length : Int) by omega), decide_eq_true (show (2 : Int) < ((a :: b :: c :: r).length : Int) by omega), decide_eq_true (show (3 : Int) ≤ ((a :: b :: c :: r).length : Int) by omega), cond_true, cond_false, Option.bind_some, List.getD_cons_zero, List.getD_cons_succ, y2, f_bytes_Equal]
      rcases y4 with rfl | ⟨_, rfl⟩
      · rfl
      · have hc := h1 c (.tail _ (.tail _ (.head _)))
        have hb : (putB (bif decide (c = 1) then 1 else 0)).length = 1 := by cases decide (c = 1) <;> rfl
        have hlt : (msgB a b (decide (c = 1)) r).length < x.length := by
          unfold msgB
          simp only [List.cons_append, List.nil_append, List.flatMap_cons, List.length_append] at hl ⊢
          omega
        rw [bytes_ne (show (msgB a b (decide (c = 1)) r).length ≠ x.length by omega)]
        cases decide (((msgB a b (decide (c = 1)) r).length : Int) = 0) <;> rfl
theorem eqByteS (x : List Int) (hn : x.length ≤ 1048576) : f_laws_eqByteS x x = some true := by
  unfold f_laws_eqByteS
  simp only [decide_true, Bool.not_true, cond_false]
  rw [eq_gen (d := (0 : Int)) (F := f_laws_eqByteS.l0) (q := fun a b => some (decide (a = b))) (fun n x y b i => rfl) x hn (fun e _ => by simp) false x.length N 0 (by omega) (by omega) (by omega) (lt_N hn)]
  rfl
theorem toByteS (x : List Int) (hn : x.length ≤ 1048576) : f_laws_toByteS x = some x := by
  unfold f_laws_toByteS
  rw [decide_eq_true (by omega), show Nat.ble ((x.length : Int).toNat) 140737488355328 = true from Nat.ble_eq_true_of_le (by omega)]
  simp only [Bool.and_self, cond_true]
  rw [to_gen (d := (0 : Int)) (F := f_laws_toByteS.l0) (g := some) (fun n x i y => rfl) x hn (fun _ _ => rfl) x.length N _ 0 (by omega) (by omega) (by omega) (lt_N hn) (by simp) (by simp)]
  rfl
theorem all_getD {α : Type} {x : List α} {d : α} {Pr : α → Prop} (h : ∀ i, i < x.length → Pr (x.getD i d)) : ∀ e ∈ x, Pr e := by
  intro e he
  obtain ⟨i, hi, rfl⟩ := List.getElem_of_mem he
  have := h i hi
  rw [List.getD_eq_getElem?_getD, List.getElem?_eq_getElem hi] at this
  exact this
theorem byteWf {y : Int} (h : WfR (.one (.int .u8)) y) : 0 ≤ y ∧ y < 256 := by
  have h : (Lit.int .u8 y).wf = true := h
  simp [Lit.wf, IntKind.min, IntKind.max, IntKind.signed, IntKind.bits] at h
  omega
theorem eqMsg_self (a b : Int) (c : Bool) (x : List Int) (hn : x.length ≤ 1048576) : f_laws_eqMsg a b c x a b c x = some true := by
  unfold f_laws_eqMsg
  simp only [decide_true, Bool.not_true, cond_false, beq_self_eq_true, eqIntS x hn, Option.bind_some]
theorem getD_set_self {α : Type} (x : List α) (d e : α) (i : Int) (h0 : 0 ≤ i) (h1 : i < x.length) : (x.set i.toNat e).getD i.toNat d = e := by
  rw [List.getD_eq_getElem?_getD, List.getElem?_set_self (by omega)]; rfl
theorem getD_set_other {α : Type} (x : List α) (d e : α) (i j : Nat) (h : i ≠ j) : (x.set i e).getD j d = x.getD j d := by
  rw [List.getD_eq_getElem?_getD, List.getElem?_set_ne h, List.getD_eq_getElem?_getD]
theorem mh_loop {α : Type} {d : α} {F : Nat → Int → Int → Int → List α → Option (Int × Int × List α)} {H : Nat → List α → Int → Int → Int → Option (Int ⊕ (Int × Int))} {P : α → Prop} {M : Int} (hM : 0 ≤ M)
    (f0 : ∀ n c q i x, ¬ i < (x.length : Int) → F (n + 1) c q i x = some (c, q, x)) (g0 : ∀ n x c q i, ¬ i < (x.length : Int) → H (n + 1) x c q i = some (.inr (c, q)))
    (f1 : ∀ c e, P e → 0 ≤ c → c ≤ 1152921504606846976 → ∃ e' c', c ≤ c' ∧ c' ≤ c + M ∧ (∀ n q i (x : List α), x.length ≤ 1048576 → 0 ≤ i → i < (x.length : Int) → x.getD i.toNat d = e → F (n + 1) c q i x = F n c' q (i + 1) (x.set i.toNat e')) ∧
      ∀ n q i (x : List α), x.length ≤ 1048576 → 0 ≤ i → i < (x.length : Int) → x.getD i.toNat d = e' → H (n + 1) x c q i = H n x c' q (i + 1))
    (k : Nat) : ∀ (n m : Nat) (x : List α) (c q q' i : Int), x.length ≤ 1048576 → (∀ j : Nat, i.toNat ≤ j → j < x.length → P (x.getD j d)) → 0 ≤ c → c + M * k ≤ 1152921504606846976 → 0 ≤ i → i ≤ x.length → (x.length : Int) - i = k → k < n → k < m →
      ∃ y c', F n c q i x = some (c', q, y) ∧ y.length = x.length ∧ c ≤ c' ∧ c' ≤ c + M * k ∧ (∀ j : Nat, j < i.toNat → y.getD j d = x.getD j d) ∧ H m y c q' i = some (.inr (c', q')) := by
  induction k with
  | zero =>
    intro n m x c q q' i hx hp hc0 hc1 h0 h1 hd hn hm
    obtain ⟨n, rfl⟩ := succ_fuel hn
    obtain ⟨m, rfl⟩ := succ_fuel hm
    exact ⟨x, c, f0 n c q i x (by omega), rfl, Int.le_refl _, by omega, fun _ _ => rfl, g0 m x c q' i (by omega)⟩
  | succ k ih =>
    intro n m x c q q' i hx hp hc0 hc1 h0 h1 hd hn hm
    obtain ⟨n, rfl⟩ := succ_fuel hn
    obtain ⟨m, rfl⟩ := succ_fuel hm
    have e1 : M * ((k + 1 : Nat) : Int) = M * (k : Int) + M := by rw [Int.natCast_add, Int.mul_add]; simp
    have e2 : 0 ≤ M * (k : Int) := Int.mul_nonneg hM (by omega)
    rw [e1] at hc1 ⊢
    obtain ⟨e', c1, b1, b2, b3, b4⟩ := f1 c _ (hp i.toNat (Nat.le_refl _) (by omega)) hc0 (by omega)
    obtain ⟨y, c', h2, h3, h4, h5, h6, h7⟩ := ih n m (x.set i.toNat e') c1 q q' (i + 1) (by rw [List.length_set]; exact hx) (fun j h2 h3 => by
      rw [List.length_set] at h3
      rw [getD_set_other x d e' i.toNat j (by omega)]
      exact hp j (by omega) h3) (by omega) (by omega) (by omega) (by rw [List.length_set]; omega) (by rw [List.length_set]; omega) (by omega) (by omega)
    rw [List.length_set] at h3
    refine ⟨y, c', ?_, h3, by omega, by omega, fun j hj => ?_, ?_⟩
    · rw [b3 n q i x hx h0 (by omega) rfl]; exact h2
    · rw [h6 j (by omega)]
      exact getD_set_other x d e' i.toNat j (by omega)
    · rw [b4 m q' i y (by omega) h0 (by omega) (by rw [h6 i.toNat (by omega)]; exact getD_set_self x d e' i h0 (by omega))]
      exact h7
/-- What is marked from c on, holds what was marked. -/
theorem mh_gen {α : Type} {d : α} {F : Nat → Int → Int → Int → List α → Option (Int × Int × List α)} {H : Nat → List α → Int → Int → Int → Option (Int ⊕ (Int × Int))} {P : α → Prop} {M : Int} (hM : 0 ≤ M)
    (f0 : ∀ n c q i x, ¬ i < (x.length : Int) → F (n + 1) c q i x = some (c, q, x)) (g0 : ∀ n x c q i, ¬ i < (x.length : Int) → H (n + 1) x c q i = some (.inr (c, q)))
    (f1 : ∀ c e, P e → 0 ≤ c → c ≤ 1152921504606846976 → ∃ e' c', c ≤ c' ∧ c' ≤ c + M ∧ (∀ n q i (x : List α), x.length ≤ 1048576 → 0 ≤ i → i < (x.length : Int) → x.getD i.toNat d = e → F (n + 1) c q i x = F n c' q (i + 1) (x.set i.toNat e')) ∧
      ∀ n q i (x : List α), x.length ≤ 1048576 → 0 ≤ i → i < (x.length : Int) → x.getD i.toNat d = e' → H (n + 1) x c q i = H n x c' q (i + 1))
    (x : List α) (hx : x.length ≤ 1048576) (hp : ∀ e ∈ x, P e) (c : Int) (h0 : 0 ≤ c) (h1 : c + M * x.length ≤ 1152921504606846976) : ∃ y c', F N c 0 0 x = some (c', 0, y) ∧ y.length = x.length ∧ c ≤ c' ∧ c' ≤ c + M * x.length ∧ H N y c 0 0 = some (.inr (c', 0)) := by
  have hN : x.length < N := Nat.lt_of_le_of_lt hx (Nat.lt_trans (by omega) big)
  obtain ⟨y, c', a1, a2, a3, a4, _, a5⟩ := mh_loop (d := d) hM f0 g0 f1 x.length N N x c 0 0 0 hx (fun j _ hj => hp _ (by
    rw [List.getD_eq_getElem?_getD, List.getElem?_eq_getElem hj]
    exact List.getElem_mem hj)) h0 h1 (by omega) (by omega) (by omega) hN hN
  exact ⟨y, c', a1, a2, a3, a4, a5⟩
theorem markIntS (x : List Int) (hx : x.length ≤ 1048576) (c : Int) (h0 : 0 ≤ c) (h1 : c ≤ 1099511627776) : ∃ y c', f_laws_markIntS x c = some (c', y) ∧ y.length = x.length ∧ c ≤ c' ∧ c' ≤ c + x.length ∧ f_laws_heldIntS y c = some c' := by
  obtain ⟨y, c', a1, a2, a3, a4, a5⟩ := mh_gen (d := (0 : Int)) (F := f_laws_markIntS.l0) (H := f_laws_heldIntS.l0) (P := fun _ => True) (M := 1) (by omega)
    (fun n c q i x h => by simp only [f_laws_markIntS.l0, decide_eq_false h, cond_false]) (fun n x c q i h => by simp only [f_laws_heldIntS.l0, decide_eq_false h, cond_false])
    (fun c e _ h0 h1 => ⟨c, c + 1, by omega, by omega, fun n q i x hx hi0 hi1 _ => by
      simp only [f_laws_markIntS.l0, decide_eq_true hi1, decide_eq_true hi0, cond_true, Bool.and_self, Option.bind_some, w64 (show -9223372036854775808 ≤ c + 1 by omega) (by omega), w64 (show -9223372036854775808 ≤ i + 1 by omega) (by omega)],
      fun n q i x hx hi0 hi1 he => by
      simp only [f_laws_heldIntS.l0, decide_eq_true hi1, decide_eq_true hi0, cond_true, Bool.and_self, he, decide_true, Bool.not_true, cond_false, w64 (show -9223372036854775808 ≤ c + 1 by omega) (by omega), w64 (show -9223372036854775808 ≤ i + 1 by omega) (by omega)]⟩)
    x hx (fun _ _ => trivial) c h0 (by omega)
  refine ⟨y, c', ?_, a2, a3, by omega, ?_⟩
  · unfold f_laws_markIntS; rw [a1]; rfl
  · unfold f_laws_heldIntS; rw [a5]; rfl
def hCnt {α : Type} : Nat → List α → Int → Int → Int → Option (Int ⊕ (Int × Int))
  | 0, _, _, _, _ => none
  | n + 1, x, c, q, i => bif decide (i < (x.length : Int)) then hCnt n x (c + 1) q (i + 1) else some (.inr (c, q))
theorem markByteS (x : List Int) (hx : x.length ≤ 1048576) (c : Int) (h0 : 0 ≤ c) (h1 : c ≤ 1099511627776) : ∃ y c', f_laws_markByteS x c = some (c', y) ∧ y.length = x.length ∧ c ≤ c' ∧ c' ≤ c + x.length := by
  obtain ⟨y, c', a1, a2, a3, a4, a5⟩ := mh_gen (d := (0 : Int)) (F := f_laws_markByteS.l0) (H := hCnt) (P := fun _ => True) (M := 1) (by omega)
    (fun n c q i x h => by simp only [f_laws_markByteS.l0, decide_eq_false h, cond_false]) (fun n x c q i h => by simp only [hCnt, decide_eq_false h, cond_false])
    (fun c e _ h0 h1 => ⟨IntKind.wrap .u8 c, c + 1, by omega, by omega, fun n q i x hx hi0 hi1 _ => by
      simp only [f_laws_markByteS.l0, decide_eq_true hi1, decide_eq_true hi0, cond_true, Bool.and_self, Option.bind_some, w64 (show -9223372036854775808 ≤ c + 1 by omega) (by omega), w64 (show -9223372036854775808 ≤ i + 1 by omega) (by omega)],
      fun n q i x hx hi0 hi1 he => by
      simp only [hCnt, decide_eq_true hi1, cond_true]⟩)
    x hx (fun _ _ => trivial) c h0 (by omega)
  refine ⟨y, c', ?_, a2, a3, by omega⟩
  unfold f_laws_markByteS; rw [a1]; rfl
theorem markMsg (a b : Int) (d : Bool) (x : List Int) (hx : x.length ≤ 1048576) (c : Int) (h0 : 0 ≤ c) (h1 : c ≤ 1099511627776) : ∃ y c', f_laws_markMsg a b d x c = some (c', y) ∧ y.length = x.length ∧ c ≤ c' ∧ c' ≤ c + x.length ∧ f_laws_heldMsg a b d y c = some c' := by
  obtain ⟨y, c', a1, a2, a3, a4, a5⟩ := markIntS x hx c h0 h1
  refine ⟨y, c', ?_, a2, a3, a4, ?_⟩
  · unfold f_laws_markMsg; rw [a1]; rfl
  · unfold f_laws_heldMsg; rw [a5]; simp only [Option.bind_some, decide_eq_false (show ¬ c' < 0 by omega), cond_false]
theorem msgOf (x : List Int) (hx : ∀ y ∈ x, 0 ≤ y ∧ y < 256) : f_laws_FnExactMsgOf x = some true := by
  unfold f_laws_FnExactMsgOf
  by_cases h : (1048576 : Int) < (x.length : Int)
  · rw [decide_eq_true h]; rfl
  · have hn : x.length ≤ 1048576 := by omega
    obtain ⟨r, h3, h4, h5⟩ := same_msgOf x hn hx
    obtain ⟨y, c, m1, m2, m3, m4⟩ := markByteS x hn 1 (by omega) (by omega)
    obtain ⟨y', c', k1, k2, k3, k4, k5⟩ := markMsg r.1 r.2.1 r.2.2.1 r.2.2.2.1 (by omega) 1 (by omega) (by omega)
    simp only [decide_eq_false h, cond_false, Option.bind_some, toByteS x hn, h3, h4, eqByteS x hn, eqMsg_self _ _ _ _ (show r.2.2.2.1.length ≤ 1048576 by omega), beq_self_eq_true, Bool.not_true, decide_true, m1, k1, k5, decide_eq_false (show ¬ c < 0 by omega), decide_eq_false (show ¬ c' < 0 by omega)]
theorem plain : Pure := fun x h => msgOf x (all_getD (d := (0 : Int)) fun i hi => byteWf (h.2 i hi))
end Go.Abs
