/- The law FnNums returns true for all bytes that a draw is made of: a drawn number is read from its bytes as it was, and bytes that are read are those of the number. More than 2^20 bytes are not asked for. -/
import Derived.Test.YtgifligfbjnmfaaMFnNums
import Derived.Laws.BitsLemmas
namespace Go.Abs
open Go.RowKit

theorem w64 {n : Int} (h0 : -9223372036854775808 ≤ n) (h1 : n ≤ 9223372036854775807) : IntKind.wrap .i64 n = n := by
  rw [IntKind.wrap_i64]
  omega
theorem succ_fuel {n d : Nat} (h : d < n) : ∃ m, n = m + 1 := ⟨n - 1, by omega⟩
theorem big : (1048577 : Nat) < N := by decide
theorem mem_getD {α : Type} (x : List α) (d : α) (i : Int) (h0 : 0 ≤ i) (h1 : i < x.length) : x.getD i.toNat d ∈ x := by
  have hlt : i.toNat < x.length := by omega
  rw [List.getD_eq_getElem?_getD, List.getElem?_eq_getElem hlt]
  exact List.getElem_mem hlt
theorem drop_getD {α : Type} (x : List α) (d : α) (i : Int) (h0 : 0 ≤ i) (h1 : i < x.length) : x.drop i.toNat = x.getD i.toNat d :: x.drop (i + 1).toNat := by
  have hlt : i.toNat < x.length := by omega
  have e : (i + 1).toNat = i.toNat + 1 := by omega
  rw [e, List.drop_eq_getElem_cons hlt, List.getD_eq_getElem?_getD, List.getElem?_eq_getElem hlt]
  rfl
theorem to_gen {α : Type} {d : α} {F : Nat → List α → Int → List α → Option (List α)} {g : α → Option α}
    (hs : ∀ n x i y, F (n + 1) x i y = bif decide (i < (x.length : Int)) then (bif (decide ((0 : Int) ≤ i) && decide (i < (x.length : Int))) then (g (x.getD i.toNat d)).bind fun e => (bif (decide ((0 : Int) ≤ i) && decide (i < (y.length : Int))) then F n x (IntKind.wrap .i64 (i + 1)) (y.set i.toNat e) else none) else none) else some y)
    (x : List α) (hn : x.length ≤ 1048576) (hg : ∀ e ∈ x, g e = some e) (k : Nat) : ∀ (n : Nat) (y : List α) (i : Int), 0 ≤ i → i ≤ x.length → (x.length : Int) - i = k → k < n → y.length = x.length → y.take i.toNat = x.take i.toNat → F n x i y = some x := by
  induction k with
  | zero =>
    intro n y i h0 h1 hd hk hl ht
    obtain ⟨n, rfl⟩ := succ_fuel hk
    rw [hs, decide_eq_false (by omega), cond_false]
    rw [List.take_of_length_le (by omega), List.take_of_length_le (by omega)] at ht
    rw [ht]
  | succ k ih =>
    intro n y i h0 h1 hd hk hl ht
    obtain ⟨n, rfl⟩ := succ_fuel hk
    have hw : IntKind.wrap .i64 (i + 1) = i + 1 := w64 (by omega) (by omega)
    have hlt : i.toNat < x.length := by omega
    rw [hs, decide_eq_true (show i < (x.length : Int) by omega), decide_eq_true h0, decide_eq_true (show i < (y.length : Int) by omega), hw, hg _ (mem_getD x d i h0 (by omega))]
    simp only [cond_true, Bool.and_self, Option.bind_some]
    refine ih n _ (i + 1) (by omega) (by omega) (by omega) (by omega) (by rw [List.length_set]; exact hl) ?_
    have e : (i + 1).toNat = i.toNat + 1 := by omega
    rw [e, List.take_add_one, List.take_add_one, List.take_set, List.getElem?_set_self (by omega), List.getElem?_eq_getElem hlt]
    have : x.getD i.toNat d = x[i.toNat] := by rw [List.getD_eq_getElem?_getD, List.getElem?_eq_getElem hlt]; rfl
    rw [this, List.set_eq_of_length_le (by rw [List.length_take]; omega), ht]
theorem eq_gen {α : Type} {d : α} {F : Nat → List α → List α → Bool → Int → Option (Bool ⊕ Bool)} {q : α → α → Option Bool}
    (hs : ∀ n x y b i, F (n + 1) x y b i = bif decide (i < (x.length : Int)) then (bif (decide ((0 : Int) ≤ i) && decide (i < (x.length : Int))) then (bif (decide ((0 : Int) ≤ i) && decide (i < (y.length : Int))) then (q (x.getD i.toNat d) (y.getD i.toNat d)).bind fun r => (bif (!r) then some (.inl false) else F n x y b (IntKind.wrap .i64 (i + 1))) else none) else none) else some (.inr b))
    (x : List α) (hn : x.length ≤ 1048576) (hq : ∀ e ∈ x, q e e = some true) (b : Bool) (k : Nat) : ∀ (n : Nat) (i : Int), 0 ≤ i → i ≤ x.length → (x.length : Int) - i = k → k < n → F n x x b i = some (.inr b) := by
  induction k with
  | zero =>
    intro n i h0 h1 hd hk
    obtain ⟨n, rfl⟩ := succ_fuel hk
    rw [hs, decide_eq_false (by omega), cond_false]
  | succ k ih =>
    intro n i h0 h1 hd hk
    obtain ⟨n, rfl⟩ := succ_fuel hk
    have hw : IntKind.wrap .i64 (i + 1) = i + 1 := w64 (by omega) (by omega)
    rw [hs, decide_eq_true (show i < (x.length : Int) by omega), decide_eq_true h0, hw, hq _ (mem_getD x d i h0 (by omega))]
    simp only [cond_true, Bool.and_self, Option.bind_some, Bool.not_true, cond_false]
    exact ih n (i + 1) (by omega) (by omega) (by omega) (by omega)
theorem sz_gen {α : Type} {d : α} {F : Nat → List α → Int → Int → Int → Option (Int ⊕ (Int × Int))} {s : α → Int → Option Int} {Ok : α → Prop}
    (hs : ∀ n x l q i, F (n + 1) x l q i = bif decide (i < (x.length : Int)) then (bif (decide ((0 : Int) ≤ i) && decide (i < (x.length : Int))) then (s (x.getD i.toNat d) l).bind fun r => (bif decide (r < 0) then some (.inl (-1)) else F n x r q (IntKind.wrap .i64 (i + 1))) else none) else some (.inr (l, q)))
    (x : List α) (hn : x.length ≤ 1048576) (he : ∀ e ∈ x, ∀ l, 0 ≤ l → l ≤ 1048576 → s e l = some (-1) ∨ ∃ l', s e l = some l' ∧ 0 ≤ l' ∧ l' ≤ l ∧ Ok e) (q : Int) (k : Nat) :
    ∀ (n : Nat) (l i : Int), 0 ≤ l → l ≤ 1048576 → 0 ≤ i → i ≤ x.length → (x.length : Int) - i = k → k < n → F n x l q i = some (.inl (-1)) ∨ ∃ l', F n x l q i = some (.inr (l', q)) ∧ 0 ≤ l' ∧ l' ≤ l ∧ ∀ e ∈ x.drop i.toNat, Ok e := by
  induction k with
  | zero =>
    intro n l i hl0 hl1 h0 h1 hd hk
    obtain ⟨n, rfl⟩ := succ_fuel hk
    rw [hs, decide_eq_false (show ¬ i < (x.length : Int) by omega), cond_false, List.drop_eq_nil_of_le (by omega)]
    exact .inr ⟨l, rfl, hl0, Int.le_refl _, fun e h => by cases h⟩
  | succ k ih =>
    intro n l i hl0 hl1 h0 h1 hd hk
    obtain ⟨n, rfl⟩ := succ_fuel hk
    have hw : IntKind.wrap .i64 (i + 1) = i + 1 := w64 (by omega) (by omega)
    rw [hs, decide_eq_true (show i < (x.length : Int) by omega), decide_eq_true h0, hw]
    simp only [cond_true, Bool.and_self]
    rcases he _ (mem_getD x d i h0 (by omega)) l hl0 hl1 with h | ⟨l', h, a0, a1, a2⟩
    · rw [h]; exact .inl rfl
    · rw [h, Option.bind_some, decide_eq_false (show ¬ l' < 0 by omega), cond_false]
      rcases ih n l' (i + 1) a0 (by omega) (by omega) (by omega) (by omega) (by omega) with h2 | ⟨l2, h2, b0, b1, b2⟩
      · exact .inl h2
      · refine .inr ⟨l2, h2, b0, by omega, fun e hm => ?_⟩
        rw [drop_getD x d i h0 (by omega)] at hm
        rcases List.mem_cons.1 hm with rfl | hm
        · exact a2
        · exact b2 e hm
theorem lt_N {x : Nat} (h : x ≤ 1048576) : x < N := Nat.lt_of_le_of_lt h (Nat.lt_trans (by omega) big)
def putB (x : Int) : List Int := if x < 0 ∨ 100000 < x then [] else if x ≤ 127 then [x] else if x ≤ 16383 then [x % 128 + 128, x / 128] else [x % 128 + 128, x / 128 % 128 + 128, x / 16384]
theorem putB_length (x : Int) : (putB x).length ≤ 3 := by
  unfold putB
  split
  · simp
  · split
    · simp
    · split <;> simp
theorem u8 {n : Int} (h0 : 0 ≤ n) (h1 : n ≤ 255) : IntKind.wrap .u8 n = n := by
  rw [IntKind.wrap_u8]
  omega
theorem put_gen {F : Nat → Int → List Int → Option (Int × List Int)}
    (hs : ∀ n x y, F (n + 1) x y = bif decide ((127 : Int) < x) then (bif Nat.blt (y.length + ([(IntKind.wrap .u8 ((IntKind.wrap .i64 ((Int.tmod x (128 : Int)) + (128 : Int)))))] : List Int).length) 140737488355328 then
      (some (y ++ ([(IntKind.wrap .u8 ((IntKind.wrap .i64 ((Int.tmod x (128 : Int)) + (128 : Int)))))] : List Int))).bind fun z => F n (IntKind.wrap .i64 (Int.tdiv x (128 : Int))) z else none) else some (x, y)) (x : Int) (h0 : 0 ≤ x) (h1 : x ≤ 100000) :
    ∃ x' y', F N x [] = some (x', y') ∧ y' ++ [x'] = putB x ∧ 0 ≤ x' ∧ x' ≤ 127 ∧ y'.length ≤ 2 := by
  obtain ⟨m, hm⟩ : ∃ m, N = m + 3 := ⟨N - 3, rfl⟩
  rw [hm]
  have e1 : Int.tmod x 128 = x % 128 := Int.tmod_eq_emod_of_nonneg h0
  have e2 : Int.tdiv x 128 = x / 128 := Int.tdiv_eq_ediv_of_nonneg h0
  have e3 : Int.tmod (x / 128) 128 = x / 128 % 128 := Int.tmod_eq_emod_of_nonneg (by omega)
  have e4 : Int.tdiv (x / 128) 128 = x / 128 / 128 := Int.tdiv_eq_ediv_of_nonneg (by omega)
  unfold putB
  rw [if_neg (by omega)]
  rw [hs]
  by_cases h2 : x ≤ 127
  · rw [decide_eq_false (by omega), if_pos h2]
    exact ⟨x, [], rfl, rfl, h0, h2, by simp⟩
  · rw [decide_eq_true (show (127 : Int) < x by omega), if_neg h2, e1, e2, w64 (show -9223372036854775808 ≤ x % 128 + 128 by omega) (by omega), u8 (show 0 ≤ x % 128 + 128 by omega) (by omega), w64 (show -9223372036854775808 ≤ x / 128 by omega) (by omega)]
    simp only [List.length_nil, List.length_cons, Nat.zero_add, (blt_iff _ _).2 (show 1 < 140737488355328 by omega), cond_true, Option.bind_some, List.nil_append]
    rw [hs]
    by_cases h3 : x ≤ 16383
    · rw [decide_eq_false (by omega), if_pos h3]
      exact ⟨x / 128, [x % 128 + 128], rfl, rfl, by omega, by omega, by simp⟩
    · rw [decide_eq_true (show (127 : Int) < x / 128 by omega), if_neg h3, e3, e4, w64 (show -9223372036854775808 ≤ x / 128 % 128 + 128 by omega) (by omega), u8 (show 0 ≤ x / 128 % 128 + 128 by omega) (by omega), w64 (show -9223372036854775808 ≤ x / 128 / 128 by omega) (by omega)]
      simp only [List.length_nil, List.length_cons, Nat.zero_add, (blt_iff _ _).2 (show 1 + 1 < 140737488355328 by omega), cond_true, Option.bind_some]
      rw [hs, decide_eq_false (by omega)]
      exact ⟨x / 128 / 128, [x % 128 + 128, x / 128 % 128 + 128], rfl, by rw [show x / 16384 = x / 128 / 128 by omega]; rfl, by omega, by omega, by simp⟩
theorem specPut (x : Int) : f_spec_PutNum x = some (putB x) := by
  unfold f_spec_PutNum f_spec_l1In
  by_cases h0 : 0 ≤ x
  · rw [decide_eq_true h0]
    by_cases h1 : x ≤ 100000
    · rw [decide_eq_true h1]
      obtain ⟨x', y', a1, a2, a3, a4, a5⟩ := put_gen (F := f_spec_PutNum.l0) (fun n x y => rfl) x h0 h1
      simp only [cond_true, Option.bind_some, Bool.not_true, cond_false, a1, u8 a3 (show x' ≤ 255 by omega), a2]
      rw [(blt_iff _ _).2 (show y'.length + ([x'] : List Int).length < 140737488355328 by simp; omega)]
      rfl
    · rw [decide_eq_false h1]; unfold putB; rw [if_pos (by omega)]; rfl
  · rw [decide_eq_false h0]; unfold putB; rw [if_pos (by omega)]; rfl
theorem implPut (x : Int) : f_impl_PutNum x = some (putB x) := by
  unfold f_impl_PutNum f_impl_from
  by_cases h0 : 0 ≤ x
  · rw [decide_eq_true h0]
    by_cases h1 : x ≤ 100000
    · rw [decide_eq_true h1]
      obtain ⟨x', y', a1, a2, a3, a4, a5⟩ := put_gen (F := f_impl_PutNum.l0) (fun n x y => rfl) x h0 h1
      simp only [cond_true, Option.bind_some, Bool.not_true, cond_false, a1, u8 a3 (show x' ≤ 255 by omega), a2]
      rw [(blt_iff _ _).2 (show y'.length + ([x'] : List Int).length < 140737488355328 by simp; omega)]
      rfl
    · rw [decide_eq_false h1]; unfold putB; rw [if_pos (by omega)]; rfl
  · rw [decide_eq_false h0]; unfold putB; rw [if_pos (by omega)]; rfl
theorem bits_small (n : Int) (h₀ : 0 ≤ n) (h₁ : n < 2 ^ 30) : IntKind.i64.wrap n = n := by
  have : (2 : Int) ^ 30 = 1073741824 := by decide
  exact w64 (by omega) (by omega)
theorem or_more (v m : Int) (t : Nat) (P : Nat) (hP : P = 2 ^ t) (ht : t ≤ 14) (h0 : 0 ≤ v) (h1 : v < P) (hm0 : 0 ≤ m) (hm : m < 128) : bitI .or .i64 v (m * P) = v + m * P := by
  obtain ⟨a, rfl⟩ := Int.eq_ofNat_of_zero_le h0
  obtain ⟨b, rfl⟩ := Int.eq_ofNat_of_zero_le hm0
  have ha : a < P := by exact_mod_cast h1
  have hp : P ≤ 2 ^ 14 := by rw [hP]; exact Nat.pow_le_pow_right (by omega) ht
  have e14 : 2 ^ 14 = 16384 := by decide
  have e30 : 2 ^ 30 = 1073741824 := by decide
  have hb : b * P ≤ 127 * 2 ^ 14 := Nat.mul_le_mul (by omega) hp
  have hc : ((b : Int) * P) = ((b * P : Nat) : Int) := by simp
  have hbits : bitI .or .i64 (a : Int) ((b * P : Nat) : Int) = Go.bits .or .i64 (a : Int) ((b * P : Nat) : Int) := rfl
  rw [hc, hbits, (bits_nat .i64 30 (by decide) bits_small a (b * P) (by omega) (by omega)).2, Nat.or_comm, Nat.mul_comm, hP, ← Nat.two_pow_add_eq_or_of_lt (by rw [← hP]; exact ha) b]
  omega
theorem shl7 (m : Int) (hm0 : 0 ≤ m) (hm : m < 128) : shlI .i64 m 0 = m * 1 ∧ shlI .i64 m 7 = m * 128 ∧ shlI .i64 m 14 = m * 16384 := by
  unfold shlI
  refine ⟨?_, ?_, ?_⟩
  · show IntKind.i64.wrap (m * 1) = _
    exact w64 (by omega) (by omega)
  · show IntKind.i64.wrap (m * 128) = _
    exact w64 (by omega) (by omega)
  · show IntKind.i64.wrap (m * 16384) = _
    exact w64 (by omega) (by omega)
/-- What stands at a place. -/
def getB (x : List Int) (i : Int) : Int × Int × Bool :=
  if i < 0 ∨ (x.length : Int) ≤ i then (0, 0, false) else
  if x.getD i.toNat 0 < 128 then (x.getD i.toNat 0, i + 1, true) else
  if (x.length : Int) ≤ i + 1 then (0, 0, false) else
  if x.getD (i + 1).toNat 0 < 128 then (if x.getD (i + 1).toNat 0 = 0 then (0, 0, false) else (x.getD i.toNat 0 % 128 + x.getD (i + 1).toNat 0 % 128 * 128, i + 2, true)) else
  if (x.length : Int) ≤ i + 2 then (0, 0, false) else
  if x.getD (i + 2).toNat 0 < 128 then (if x.getD (i + 2).toNat 0 = 0 then (0, 0, false) else
    if 100000 < x.getD i.toNat 0 % 128 + x.getD (i + 1).toNat 0 % 128 * 128 + x.getD (i + 2).toNat 0 % 128 * 16384 then (0, 0, false) else (x.getD i.toNat 0 % 128 + x.getD (i + 1).toNat 0 % 128 * 128 + x.getD (i + 2).toNat 0 % 128 * 16384, i + 3, true)) else (0, 0, false)
theorem byte_getD {x : List Int} (hx : ∀ y ∈ x, 0 ≤ y ∧ y < 256) (i : Int) : 0 ≤ x.getD i.toNat 0 ∧ x.getD i.toNat 0 < 256 := by
  rcases Nat.lt_or_ge i.toNat x.length with h | h
  · rw [List.getD_eq_getElem?_getD, List.getElem?_eq_getElem h]
    exact hx _ (List.getElem_mem h)
  · rw [List.getD_eq_getElem?_getD, List.getElem?_eq_none h]
    exact ⟨by simp, by simp⟩
theorem spec_get_step (x : List Int) (hn : x.length ≤ 1048576) (hx : ∀ y ∈ x, 0 ≤ y ∧ y < 256) (i : Int) (hi : 0 ≤ i) (t v P b : Int) (n : Nat) (ht : t = 0 ∨ t = 1 ∨ t = 2) (_ : 0 ≤ v) (hb : x.getD (i + t).toNat 0 = b)
    (hsl : ∀ m : Int, 0 ≤ m → m < 128 → shlI .i64 m (7 * t) = m * P) (hor : ∀ m : Int, 0 ≤ m → m < 128 → bitI .or .i64 v (m * P) = v + m * P) :
    f_spec_GetNum.l0 (n + 1) x i 0 0 false v t = if (x.length : Int) ≤ i + t then some (.inl (0, 0, false)) else if b < 128 then (if 0 < t ∧ b = 0 then some (.inl (0, 0, false)) else if 100000 < v + b % 128 * P then some (.inl (0, 0, false)) else some (.inl (v + b % 128 * P, i + t + 1, true))) else f_spec_GetNum.l0 n x i 0 0 false (v + b % 128 * P) (t + 1) := by
  have hbb := byte_getD hx (i + t)
  rw [hb] at hbb
  simp only [f_spec_GetNum.l0]
  rw [decide_eq_true (show t < 3 by omega), decide_eq_false (show ¬ i < 0 by omega), w64 (show -9223372036854775808 ≤ (x.length : Int) - t by omega) (by omega)]
  by_cases hl : (x.length : Int) ≤ i + t
  · rw [if_pos hl, decide_eq_true (show (x.length : Int) - t ≤ i by omega)]; rfl
  · rw [if_neg hl, decide_eq_false (show ¬ (x.length : Int) - t ≤ i by omega), w64 (show -9223372036854775808 ≤ i + t by omega) (by omega), decide_eq_true (show 0 ≤ i + t by omega), decide_eq_true (show i + t < (x.length : Int) by omega), w64 (show -9223372036854775808 ≤ 7 * t by omega) (by omega), decide_eq_false (show ¬ 7 * t < 0 by omega), hb,
      w64 (show -9223372036854775808 ≤ b by omega) (by omega), Int.tmod_eq_emod_of_nonneg hbb.1, hsl _ (by omega) (by omega), hor _ (by omega) (by omega), w64 (show -9223372036854775808 ≤ i + t + 1 by omega) (by omega), w64 (show -9223372036854775808 ≤ t + 1 by omega) (by omega)]
    simp only [cond_true, cond_false, Bool.and_self]
    by_cases h1 : b < 128
    · rw [decide_eq_true h1, if_pos h1, cond_true]
      by_cases h2 : 0 < t
      · rw [decide_eq_true h2, cond_true]
        by_cases h3 : b = 0
        · rw [decide_eq_true h3, if_pos ⟨h2, h3⟩]; rfl
        · rw [decide_eq_false h3, if_neg (fun h => h3 h.2), cond_false]
          by_cases h4 : 100000 < v + b % 128 * P
          · rw [decide_eq_true h4, if_pos h4]; rfl
          · rw [decide_eq_false h4, if_neg h4]; rfl
      · rw [decide_eq_false h2, if_neg (fun h => h2 h.1), cond_false]
        by_cases h4 : 100000 < v + b % 128 * P
        · rw [decide_eq_true h4, if_pos h4]; rfl
        · rw [decide_eq_false h4, if_neg h4]; rfl
    · rw [decide_eq_false h1, if_neg h1]; rfl
theorem impl_get_step (x : List Int) (hn : x.length ≤ 1048576) (hx : ∀ y ∈ x, 0 ≤ y ∧ y < 256) (i : Int) (hi : 0 ≤ i) (t v P b : Int) (n : Nat) (ht : t = 0 ∨ t = 1 ∨ t = 2) (hv0 : 0 ≤ v) (hv1 : v < P) (hP : 0 < P ∧ P ≤ 16384) (hb : x.getD (i + t).toNat 0 = b)
    (hsl : ∀ m : Int, 0 ≤ m → m < 128 → shlI .i64 m (7 * t) = m * P) :
    f_impl_GetNum.l0 (n + 1) x i 0 0 false v t = if (x.length : Int) ≤ i + t then some (.inl (0, 0, false)) else if b < 128 then (if 0 < t ∧ b = 0 then some (.inl (0, 0, false)) else if 100000 < v + b % 128 * P then some (.inl (0, 0, false)) else some (.inr (v + b % 128 * P, i + t + 1, true))) else f_impl_GetNum.l0 n x i 0 0 false (v + b % 128 * P) (t + 1) := by
  have hbb := byte_getD hx (i + t)
  rw [hb] at hbb
  have hS0 : 0 ≤ (b % 128) * P := Int.mul_nonneg (by omega) (by omega)
  have hS1 : (b % 128) * P ≤ 127 * P := Int.mul_le_mul_of_nonneg_right (by omega) (by omega)
  simp only [f_impl_GetNum.l0]
  rw [decide_eq_true (show t < 3 by omega), w64 (show -9223372036854775808 ≤ (x.length : Int) - t by omega) (by omega)]
  by_cases hl : (x.length : Int) ≤ i + t
  · rw [if_pos hl, decide_eq_false (show ¬ i < (x.length : Int) - t by omega)]; rfl
  · rw [if_neg hl, decide_eq_true (show i < (x.length : Int) - t by omega), w64 (show -9223372036854775808 ≤ i + t by omega) (by omega), decide_eq_true (show 0 ≤ i + t by omega), decide_eq_true (show i + t < (x.length : Int) by omega), w64 (show -9223372036854775808 ≤ 7 * t by omega) (by omega), decide_eq_false (show ¬ 7 * t < 0 by omega), hb,
      Int.tmod_eq_emod_of_nonneg hbb.1, w64 (show -9223372036854775808 ≤ b % 128 by omega) (by omega), hsl _ (by omega) (by omega), w64 (show -9223372036854775808 ≤ v + b % 128 * P by omega) (by omega), w64 (show -9223372036854775808 ≤ i + t + 1 by omega) (by omega), w64 (show -9223372036854775808 ≤ t + 1 by omega) (by omega)]
    simp only [cond_true, cond_false, Bool.and_self]
    by_cases h1 : b < 128
    · rw [decide_eq_false (show ¬ 128 ≤ b by omega), if_pos h1, cond_false]
      by_cases h4 : 100000 < v + b % 128 * P
      · rw [decide_eq_true h4, if_pos h4, cond_true]
        by_cases h3 : 0 < t ∧ b = 0
        · rw [if_pos h3]
        · rw [if_neg h3]
      · rw [decide_eq_false h4, if_neg h4, cond_false]
        by_cases h3 : b = 0
        · rw [decide_eq_true h3, cond_true]
          by_cases h2 : 0 < t
          · rw [decide_eq_true h2, if_pos ⟨h2, h3⟩]; rfl
          · rw [decide_eq_false h2, if_neg (fun h => h2 h.1)]; rfl
        · rw [decide_eq_false h3, if_neg (fun h => h3 h.2)]; rfl
    · rw [decide_eq_true (show 128 ≤ b by omega), if_neg h1]; rfl
theorem specGet (x : List Int) (hn : x.length ≤ 1048576) (hx : ∀ y ∈ x, 0 ≤ y ∧ y < 256) (i : Int) : f_spec_GetNum x i = some (getB x i) := by
  unfold f_spec_GetNum getB
  obtain ⟨m, hm⟩ : ∃ m, N = m + 4 := ⟨N - 4, rfl⟩
  rw [hm]
  by_cases hi : 0 ≤ i
  · have b0 := byte_getD hx i
    have b1 := byte_getD hx (i + 1)
    have b2 := byte_getD hx (i + 2)
    rw [spec_get_step x hn hx i hi 0 0 1 _ (m + 3) (.inl rfl) (Int.le_refl _) rfl (fun m h0 h1 => (shl7 m h0 h1).1) (fun m h0 h1 => or_more 0 m 0 1 rfl (by omega) (by omega) (by omega) h0 h1), Int.add_zero]
    by_cases hl : (x.length : Int) ≤ i
    · rw [if_pos hl, if_pos (.inr hl)]; rfl
    · rw [if_neg hl, if_neg (show ¬ (i < 0 ∨ (x.length : Int) ≤ i) by omega)]
      by_cases h0 : x.getD i.toNat 0 < 128
      · rw [if_pos h0, if_pos h0, if_neg (by omega), if_neg (by omega), show x.getD i.toNat 0 % 128 = x.getD i.toNat 0 by omega, Int.mul_one, Int.zero_add]; rfl
      · rw [if_neg h0, if_neg h0, Int.mul_one, Int.zero_add, Int.zero_add, spec_get_step x hn hx i hi 1 _ 128 _ (m + 2) (.inr (.inl rfl)) (by omega) rfl (fun m h0 h1 => (shl7 m h0 h1).2.1) (fun m h0 h1 => or_more _ m 7 128 rfl (by omega) (by omega) (by omega) h0 h1)]
        by_cases hl1 : (x.length : Int) ≤ i + 1
        · rw [if_pos hl1, if_pos hl1]; rfl
        · rw [if_neg hl1, if_neg hl1]
          by_cases h1 : x.getD (i + 1).toNat 0 < 128
          · rw [if_pos h1, if_pos h1]
            by_cases hz : x.getD (i + 1).toNat 0 = 0
            · rw [if_pos ⟨by omega, hz⟩, if_pos hz]; rfl
            · rw [if_neg (fun h => hz h.2), if_neg hz, if_neg (by omega), show i + 1 + 1 = i + 2 by omega]; rfl
          · rw [if_neg h1, if_neg h1, show (1 : Int) + 1 = 2 from rfl, spec_get_step x hn hx i hi 2 _ 16384 _ (m + 1) (.inr (.inr rfl)) (by omega) rfl (fun m h0 h1 => (shl7 m h0 h1).2.2) (fun m h0 h1 => or_more _ m 14 16384 rfl (by omega) (by omega) (by omega) h0 h1)]
            by_cases hl2 : (x.length : Int) ≤ i + 2
            · rw [if_pos hl2, if_pos hl2]; rfl
            · rw [if_neg hl2, if_neg hl2]
              by_cases h2 : x.getD (i + 2).toNat 0 < 128
              · rw [if_pos h2, if_pos h2]
                by_cases hz : x.getD (i + 2).toNat 0 = 0
                · rw [if_pos ⟨by omega, hz⟩, if_pos hz]; rfl
                · rw [if_neg (fun h => hz h.2), if_neg hz]
                  by_cases hbig : 100000 < x.getD i.toNat 0 % 128 + x.getD (i + 1).toNat 0 % 128 * 128 + x.getD (i + 2).toNat 0 % 128 * 16384
                  · rw [if_pos hbig, if_pos hbig]; rfl
                  · rw [if_neg hbig, if_neg hbig, show i + 2 + 1 = i + 3 by omega]; rfl
              · rw [if_neg h2, if_neg h2]
                simp only [f_spec_GetNum.l0]
                rfl
  · rw [if_pos (.inl (by omega))]
    simp only [f_spec_GetNum.l0]
    rw [decide_eq_true (show i < 0 by omega)]
    rfl
theorem implGet (x : List Int) (hn : x.length ≤ 1048576) (hx : ∀ y ∈ x, 0 ≤ y ∧ y < 256) (i : Int) : f_impl_GetNum x i = some (getB x i) := by
  unfold f_impl_GetNum getB
  obtain ⟨m, hm⟩ : ∃ m, N = m + 4 := ⟨N - 4, rfl⟩
  rw [hm]
  by_cases hi : 0 ≤ i
  · have b0 := byte_getD hx i
    have b1 := byte_getD hx (i + 1)
    have b2 := byte_getD hx (i + 2)
    rw [decide_eq_false (show ¬ i < 0 by omega), cond_false, impl_get_step x hn hx i hi 0 0 1 _ (m + 3) (.inl rfl) (Int.le_refl _) (by omega) (by omega) rfl (fun m h0 h1 => (shl7 m h0 h1).1), Int.add_zero]
    by_cases hl : (x.length : Int) ≤ i
    · rw [if_pos hl, if_pos (.inr hl)]; rfl
    · rw [if_neg hl, if_neg (show ¬ (i < 0 ∨ (x.length : Int) ≤ i) by omega)]
      by_cases h0 : x.getD i.toNat 0 < 128
      · rw [if_pos h0, if_pos h0, if_neg (by omega), if_neg (by omega), show x.getD i.toNat 0 % 128 = x.getD i.toNat 0 by omega, Int.mul_one, Int.zero_add]; rfl
      · rw [if_neg h0, if_neg h0, Int.mul_one, Int.zero_add, Int.zero_add, impl_get_step x hn hx i hi 1 _ 128 _ (m + 2) (.inr (.inl rfl)) (by omega) (by omega) (by omega) rfl (fun m h0 h1 => (shl7 m h0 h1).2.1)]
        by_cases hl1 : (x.length : Int) ≤ i + 1
        · rw [if_pos hl1, if_pos hl1]; rfl
        · rw [if_neg hl1, if_neg hl1]
          by_cases h1 : x.getD (i + 1).toNat 0 < 128
          · rw [if_pos h1, if_pos h1]
            by_cases hz : x.getD (i + 1).toNat 0 = 0
            · rw [if_pos ⟨by omega, hz⟩, if_pos hz]; rfl
            · rw [if_neg (fun h => hz h.2), if_neg hz, if_neg (by omega), show i + 1 + 1 = i + 2 by omega]; rfl
          · rw [if_neg h1, if_neg h1, show (1 : Int) + 1 = 2 from rfl, impl_get_step x hn hx i hi 2 _ 16384 _ (m + 1) (.inr (.inr rfl)) (by omega) (by omega) (by omega) rfl (fun m h0 h1 => (shl7 m h0 h1).2.2)]
            by_cases hl2 : (x.length : Int) ≤ i + 2
            · rw [if_pos hl2, if_pos hl2]; rfl
            · rw [if_neg hl2, if_neg hl2]
              by_cases h2 : x.getD (i + 2).toNat 0 < 128
              · rw [if_pos h2, if_pos h2]
                by_cases hz : x.getD (i + 2).toNat 0 = 0
                · rw [if_pos ⟨by omega, hz⟩, if_pos hz]; rfl
                · rw [if_neg (fun h => hz h.2), if_neg hz]
                  by_cases hbig : 100000 < x.getD i.toNat 0 % 128 + x.getD (i + 1).toNat 0 % 128 * 128 + x.getD (i + 2).toNat 0 % 128 * 16384
                  · rw [if_pos hbig, if_pos hbig]; rfl
                  · rw [if_neg hbig, if_neg hbig, show i + 2 + 1 = i + 3 by omega]; rfl
              · rw [if_neg h2, if_neg h2]
                simp only [f_impl_GetNum.l0]
                rfl
  · rw [if_pos (.inl (by omega)), decide_eq_true (show i < 0 by omega)]
    rfl
theorem and8 (n : Int) : bitI .and .i64 n 255 = n % 256 := by
  have h : (BitVec.ofInt 64 n &&& BitVec.ofInt 64 255).toNat = (n % 18446744073709551616).toNat % 256 := by
    rw [BitVec.toNat_and, BitVec.toNat_ofInt]
    show (n % 18446744073709551616).toNat &&& (2 ^ 8 - 1) = _
    rw [Nat.and_two_pow_sub_one_eq_mod]
  show IntKind.wrap .i64 ((BitVec.ofInt 64 n &&& BitVec.ofInt 64 255).toNat : Int) = _
  rw [h, w64 (by omega) (by omega)]
  omega
theorem draw_byte (x : List Int) (hn : x.length ≤ 1048576) (p s : Int) (hp : 0 ≤ p) : ∃ b p' s', f_spec_l1Byte x p s = some (b, p', s') ∧ 0 ≤ b ∧ b ≤ 255 ∧ 0 ≤ p' := by
  unfold f_spec_l1Byte
  simp only [and8]
  by_cases h : p < (x.length : Int)
  · rw [decide_eq_true h, decide_eq_true hp, w64 (show -9223372036854775808 ≤ p + 1 by omega) (by omega)]
    exact ⟨_, _, _, rfl, by omega, by omega, by omega⟩
  · rw [decide_eq_false h]
    exact ⟨_, _, _, rfl, by omega, by omega, hp⟩
theorem draw_below (x : List Int) (hn : x.length ≤ 1048576) (p s n : Int) (hp : 0 ≤ p) : ∃ r p' s', f_spec_l1Below x p s n = some (r, p', s') ∧ 0 ≤ p' ∧ 0 ≤ r ∧ (0 < n → r < n) ∧ (n ≤ 0 → r = 0) := by
  unfold f_spec_l1Below
  by_cases h0 : n ≤ 0
  · rw [decide_eq_true h0]
    exact ⟨_, _, _, rfl, hp, Int.le_refl _, fun h => by omega, fun _ => rfl⟩
  · rw [decide_eq_false h0, cond_false, decide_eq_false (show ¬ n = 0 by omega)]
    have hm : ∀ b, 0 ≤ b → 0 ≤ Int.tmod b n ∧ Int.tmod b n < n := fun b hb => by
      rw [Int.tmod_eq_emod_of_nonneg hb]
      exact ⟨Int.emod_nonneg _ (by omega), Int.emod_lt_of_pos _ (by omega)⟩
    by_cases h1 : n ≤ 256
    · obtain ⟨b, p', s', e, b0, b1, q⟩ := draw_byte x hn p s hp
      rw [decide_eq_true h1, e]
      exact ⟨_, _, _, rfl, q, (hm b b0).1, fun _ => (hm b b0).2, fun h => absurd h h0⟩
    · obtain ⟨b, p1, s1, e1, b0, b1, q1⟩ := draw_byte x hn p s hp
      obtain ⟨c, p2, s2, e2, c0, c1, q2⟩ := draw_byte x hn p1 s1 q1
      obtain ⟨d, p3, s3, e3, d0, d1, q3⟩ := draw_byte x hn p2 s2 q2
      obtain ⟨e, p4, s4, e4, f0, f1, q4⟩ := draw_byte x hn p3 s3 q3
      rw [decide_eq_false h1, cond_false, e1, Option.bind_some]
      simp only [e2, e3, e4, Option.bind_some, cond_false]
      rw [w64 (show -9223372036854775808 ≤ b * 16777216 by omega) (by omega), w64 (show -9223372036854775808 ≤ c * 65536 by omega) (by omega), w64 (show -9223372036854775808 ≤ d * 256 by omega) (by omega), w64 (show -9223372036854775808 ≤ b * 16777216 + c * 65536 by omega) (by omega), w64 (show -9223372036854775808 ≤ b * 16777216 + c * 65536 + d * 256 by omega) (by omega), w64 (show -9223372036854775808 ≤ b * 16777216 + c * 65536 + d * 256 + e by omega) (by omega)]
      have := hm (b * 16777216 + c * 65536 + d * 256 + e) (by omega)
      exact ⟨_, _, _, rfl, q4, this.1, fun _ => this.2, fun h => absurd h h0⟩
/-- The head of a draw: the bytes that it was handed, and a number out of them. -/
theorem draw_new {τ : Type} {F : Nat → List Int → Int → Int → Option τ} {G : List Int → Int → τ}
    (hs : ∀ n x s i, F (n + 1) x s i = bif (decide (i < (x.length : Int))) then bif (decide (i < (4000 : Int))) then bif ((decide ((0 : Int) ≤ i)) && (decide (i < (x.length : Int)))) then
      F n x (bitI .and .i64 (IntKind.wrap .i64 ((IntKind.wrap .i64 ((IntKind.wrap .i64 (s * (131 : Int))) + (IntKind.wrap .i64 ((x.getD i.toNat 0))))) + (7 : Int))) (1073741823 : Int)) (IntKind.wrap .i64 (i + (1 : Int))) else none else some (G x s) else some (G x s))
    (x : List Int) (hn : x.length ≤ 1048576) : ∀ s, ∃ s', F N x s 0 = some (G x s') := by
  have key : ∀ (k n : Nat) (s i : Int), 0 ≤ i → (x.length : Int) - i ≤ k → k < n → ∃ s', F n x s i = some (G x s') := by
    intro k
    induction k with
    | zero =>
      intro n s i h0 h1 hk
      obtain ⟨n, rfl⟩ := succ_fuel hk
      rw [hs, decide_eq_false (by omega)]
      exact ⟨_, rfl⟩
    | succ k ih =>
      intro n s i h0 h1 hk
      obtain ⟨n, rfl⟩ := succ_fuel hk
      rw [hs]
      by_cases h : i < (x.length : Int)
      · rw [decide_eq_true h, decide_eq_true h0, w64 (show -9223372036854775808 ≤ i + 1 by omega) (by omega)]
        cases decide (i < 4000)
        · exact ⟨_, rfl⟩
        · exact ih n _ (i + 1) (by omega) (by omega) (by omega)
      · rw [decide_eq_false h]; exact ⟨_, rfl⟩
  intro s
  exact key x.length N s 0 (Int.le_refl _) (by omega) (Nat.lt_of_le_of_lt hn (Nat.lt_trans (by omega) big))
theorem draw_pick (x : List Int) (hn : x.length ≤ 1048576) (p s : Int) (hp : 0 ≤ p) (l : List Int) (hl : 0 < (l.length : Int)) : ∃ e p' s', f_spec_l1PickInt x p s l = some (e, p', s') ∧ e ∈ l ∧ 0 ≤ p' := by
  unfold f_spec_l1PickInt
  obtain ⟨r, p', s', e, q, r0, r1, -⟩ := draw_below x hn p s (l.length : Int) hp
  rw [e, Option.bind_some]
  have r2 := r1 hl
  have hlt : r.toNat < l.length := by omega
  simp only [decide_eq_true r0, decide_eq_true r2, Bool.and_self, cond_true]
  refine ⟨_, _, _, rfl, ?_, q⟩
  rw [List.getD_eq_getElem?_getD, List.getElem?_eq_getElem hlt]
  exact List.getElem_mem hlt
theorem draw_once (x : List Int) (hn : x.length ≤ 1048576) (p s n : Int) (hp : 0 ≤ p) : ∃ b p' s', f_spec_l1Once x p s n = some (b, p', s') ∧ 0 ≤ p' := by
  unfold f_spec_l1Once
  obtain ⟨r, p', s', e, q, -⟩ := draw_below x hn p s n hp
  rw [e]
  exact ⟨_, _, _, rfl, q⟩
theorem putB_bytes (v : Int) : ∀ b ∈ putB v, 0 ≤ b ∧ b < 256 := by
  unfold putB
  split
  · simp
  · split
    · simp; omega
    · split
      · simp; omega
      · simp; omega
theorem drop_get {α : Type} (x : List α) (d : α) (i : Int) (k : Nat) (h : 0 ≤ i) : x.getD (i + k).toNat d = (x.drop i.toNat).getD k d := by
  rw [List.getD_eq_getElem?_getD, List.getD_eq_getElem?_getD, List.getElem?_drop]
  congr 2
  omega
theorem putB1 (v : Int) (h0 : 0 ≤ v) (h1 : v ≤ 127) : putB v = [v] := by unfold putB; rw [if_neg (by omega), if_pos h1]
theorem putB2 (v : Int) (h0 : ¬ v ≤ 127) (h1 : v ≤ 16383) : putB v = [v % 128 + 128, v / 128] := by unfold putB; rw [if_neg (by omega), if_neg h0, if_pos h1]
theorem putB3 (v : Int) (h0 : ¬ v ≤ 16383) (h1 : v ≤ 100000) : putB v = [v % 128 + 128, v / 128 % 128 + 128, v / 16384] := by unfold putB; rw [if_neg (by omega), if_neg (by omega), if_neg h0]
/-- What was put is read as it was. -/
theorem get_put (x rest : List Int) (i v : Int) (hi : 0 ≤ i) (hv0 : 0 ≤ v) (hv1 : v ≤ 100000) (hx : x.drop i.toNat = putB v ++ rest) : getB x i = (v, i + ((putB v).length : Int), true) := by
  have hl := congrArg List.length hx
  rw [List.length_drop, List.length_append] at hl
  have g0 := drop_get x 0 i 0 hi
  have g1 := drop_get x 0 i 1 hi
  have g2 := drop_get x 0 i 2 hi
  rw [hx] at g0 g1 g2
  have e0 : i + ((0 : Nat) : Int) = i := by omega
  have e1 : i + ((1 : Nat) : Int) = i + 1 := by omega
  have e2 : i + ((2 : Nat) : Int) = i + 2 := by omega
  rw [e0] at g0; rw [e1] at g1; rw [e2] at g2
  unfold getB
  clear e0 e1 e2 hx
  by_cases h1 : v ≤ 127
  · rw [putB1 v hv0 h1] at hl g0 ⊢
    simp only [List.cons_append, List.getD_cons_zero, List.length_singleton] at hl g0 ⊢
    rw [g0, if_neg (by omega), if_pos (by omega)]
    rfl
  · by_cases h2 : v ≤ 16383
    · rw [putB2 v h1 h2] at hl g0 g1 ⊢
      simp only [List.cons_append, List.getD_cons_zero, List.getD_cons_succ, List.length_cons, List.length_nil] at hl g0 g1 ⊢
      rw [g0, g1, if_neg (by omega), if_neg (by omega), if_neg (by omega), if_pos (by omega), if_neg (by omega)]
      refine Prod.ext ?_ (Prod.ext ?_ rfl)
      · show (v % 128 + 128) % 128 + v / 128 % 128 * 128 = v
        omega
      · show i + 2 = i + ((0 + 1 + 1 : Nat) : Int)
        omega
    · rw [putB3 v h2 hv1] at hl g0 g1 g2 ⊢
      simp only [List.cons_append, List.getD_cons_zero, List.getD_cons_succ, List.length_cons, List.length_nil] at hl g0 g1 g2 ⊢
      rw [g0, g1, g2, if_neg (by omega), if_neg (by omega), if_neg (by omega), if_neg (by omega), if_neg (by omega), if_pos (by omega), if_neg (by omega), if_neg (by omega)]
      refine Prod.ext ?_ (Prod.ext ?_ rfl)
      · show (v % 128 + 128) % 128 + (v / 128 % 128 + 128) % 128 * 128 + v / 16384 % 128 * 16384 = v
        omega
      · show i + 3 = i + ((0 + 1 + 1 + 1 : Nat) : Int)
        omega
theorem take_1 (x : List Int) (i : Int) (h0 : 0 ≤ i) (h1 : i < x.length) : (x.drop i.toNat).take 1 = [x.getD i.toNat 0] := by
  rw [drop_getD x 0 i h0 h1]; rfl
theorem take_2 (x : List Int) (i : Int) (h0 : 0 ≤ i) (h1 : i + 1 < x.length) : (x.drop i.toNat).take 2 = [x.getD i.toNat 0, x.getD (i + 1).toNat 0] := by
  rw [drop_getD x 0 i h0 (by omega), drop_getD x 0 (i + 1) (by omega) (by omega)]; rfl
theorem take_3 (x : List Int) (i : Int) (h0 : 0 ≤ i) (h1 : i + 2 < x.length) : (x.drop i.toNat).take 3 = [x.getD i.toNat 0, x.getD (i + 1).toNat 0, x.getD (i + 2).toNat 0] := by
  rw [drop_getD x 0 i h0 (by omega), drop_getD x 0 (i + 1) (by omega) (by omega), drop_getD x 0 (i + 1 + 1) (by omega) (by omega), show i + 1 + 1 = i + 2 by omega]; rfl
/-- What is read stands there as it is put. -/
theorem get_canon (x : List Int) (hx : ∀ y ∈ x, 0 ≤ y ∧ y < 256) (i : Int) : getB x i = (0, 0, false) ∨ ∃ v j, getB x i = (v, j, true) ∧ 0 ≤ i ∧ i < j ∧ j ≤ x.length ∧ 0 ≤ v ∧ v ≤ 100000 ∧ j = i + ((putB v).length : Int) ∧ (x.drop i.toNat).take (j - i).toNat = putB v := by
  have b0 := byte_getD hx i
  have b1 := byte_getD hx (i + 1)
  have b2 := byte_getD hx (i + 2)
  unfold getB
  by_cases h : i < 0 ∨ (x.length : Int) ≤ i
  · rw [if_pos h]; exact .inl rfl
  rw [if_neg h]
  by_cases h0 : x.getD i.toNat 0 < 128
  · rw [if_pos h0]
    refine .inr ⟨_, _, rfl, by omega, by omega, by omega, by omega, by omega, ?_, ?_⟩
    · unfold putB; rw [if_neg (by omega), if_pos (by omega)]; rfl
    · rw [show (i + 1 - i).toNat = 1 by omega, take_1 x i (by omega) (by omega)]
      unfold putB; rw [if_neg (by omega), if_pos (by omega)]
  rw [if_neg h0]
  by_cases hl1 : (x.length : Int) ≤ i + 1
  · rw [if_pos hl1]; exact .inl rfl
  rw [if_neg hl1]
  by_cases h1 : x.getD (i + 1).toNat 0 < 128
  · rw [if_pos h1]
    by_cases hz : x.getD (i + 1).toNat 0 = 0
    · rw [if_pos hz]; exact .inl rfl
    rw [if_neg hz]
    refine .inr ⟨_, _, rfl, by omega, by omega, by omega, by omega, by omega, ?_, ?_⟩
    · unfold putB; rw [if_neg (by omega), if_neg (by omega), if_pos (by omega)]; rfl
    · rw [show (i + 2 - i).toNat = 2 by omega, take_2 x i (by omega) (by omega)]
      unfold putB; rw [if_neg (by omega), if_neg (by omega), if_pos (by omega)]
      congr 1
      · omega
      · congr 1
        omega
  rw [if_neg h1]
  by_cases hl2 : (x.length : Int) ≤ i + 2
  · rw [if_pos hl2]; exact .inl rfl
  rw [if_neg hl2]
  by_cases h2 : x.getD (i + 2).toNat 0 < 128
  · rw [if_pos h2]
    by_cases hz : x.getD (i + 2).toNat 0 = 0
    · rw [if_pos hz]; exact .inl rfl
    rw [if_neg hz]
    by_cases hbig : 100000 < x.getD i.toNat 0 % 128 + x.getD (i + 1).toNat 0 % 128 * 128 + x.getD (i + 2).toNat 0 % 128 * 16384
    · rw [if_pos hbig]; exact .inl rfl
    rw [if_neg hbig]
    refine .inr ⟨_, _, rfl, by omega, by omega, by omega, by omega, by omega, ?_, ?_⟩
    · unfold putB; rw [if_neg (by omega), if_neg (by omega), if_neg (by omega)]; rfl
    · rw [show (i + 3 - i).toNat = 3 by omega, take_3 x i (by omega) (by omega)]
      unfold putB; rw [if_neg (by omega), if_neg (by omega), if_neg (by omega)]
      congr 1
      · omega
      · congr 1
        · omega
        · congr 1
          omega
  · rw [if_neg h2]; exact .inl rfl
theorem at_some (x : List Int) (i : Int) (hi : 0 ≤ i) : ∃ a, f_laws_at x i = some a := by
  unfold f_laws_at
  by_cases h : i < (x.length : Int)
  · rw [decide_eq_true h, decide_eq_true hi]; exact ⟨_, rfl⟩
  · rw [decide_eq_false h]; exact ⟨_, rfl⟩
theorem drawPutNum (x : List Int) (hn : x.length ≤ 1048576) : ∃ v, f_spec_DrawPutNum x = some v := by
  unfold f_spec_DrawPutNum
  obtain ⟨s', e⟩ := draw_new (F := f_spec_DrawPutNum.l0) (G := fun x s => (x, s)) (fun _ _ _ _ => rfl) x hn (IntKind.wrap .i64 ((20404 : Int) + (x.length : Int)))
  obtain ⟨v, p', s2, e2, -, -⟩ := draw_pick x hn 0 s' (Int.le_refl _) ([0, 1, 127, 128, 16383, 16384, 100000, 100001, -1] : List Int) (by simp)
  rw [e, Option.bind_some]
  simp only [e2, Option.bind_some]
  exact ⟨_, rfl⟩
theorem drawGetNum_loop (x : List Int) (hn : x.length ≤ 1048576) (q : Int) : ∀ (k n : Nat) (c p s : Int) (acc : List Int), 0 ≤ c → 3 - c = k → k < n → 0 ≤ p → (∀ y ∈ acc, 0 ≤ y ∧ y < 256) → (acc.length : Int) ≤ 3 * c →
    ∃ p' s' acc', f_spec_DrawGetNum.l1 n q c x p s acc = some (q, x, p', s', acc') ∧ 0 ≤ p' ∧ (∀ y ∈ acc', 0 ≤ y ∧ y < 256) ∧ acc'.length ≤ 9 := by
  intro k
  induction k with
  | zero =>
    intro n c p s acc h0 hk hn' hp ha hl
    obtain ⟨n, rfl⟩ := succ_fuel hn'
    obtain ⟨r, p', s', e, q1, r0, r1, -⟩ := draw_below x hn p s 4 hp
    simp only [f_spec_DrawGetNum.l1, e, Option.bind_some, decide_eq_false (show ¬ c < r by have := r1 (by omega); omega), cond_false]
    exact ⟨_, _, _, rfl, q1, ha, by omega⟩
  | succ k ih =>
    intro n c p s acc h0 hk hn' hp ha hl
    obtain ⟨n, rfl⟩ := succ_fuel hn'
    obtain ⟨r, p', s', e, q1, r0, r1, -⟩ := draw_below x hn p s 4 hp
    simp only [f_spec_DrawGetNum.l1, e, Option.bind_some]
    by_cases hr : c < r
    · obtain ⟨v, p2, s2, e2, -, q2⟩ := draw_pick x hn p' s' q1 ([0, 127, 128, 16384, 100000] : List Int) (by simp)
      have hpl := putB_length v
      rw [decide_eq_true hr]
      simp only [cond_true, e2, Option.bind_some, specPut, (blt_iff _ _).2 (show acc.length + (putB v).length < 140737488355328 by omega), w64 (show -9223372036854775808 ≤ c + 1 by omega) (by omega)]
      exact ih n (c + 1) p2 s2 _ (by omega) (by omega) (by omega) q2 (fun y hy => (List.mem_append.1 hy).elim (ha y) (putB_bytes v y)) (by rw [List.length_append]; omega)
    · rw [decide_eq_false hr]
      exact ⟨_, _, _, rfl, q1, ha, by omega⟩
theorem u8_rng (n : Int) : 0 ≤ IntKind.wrap .u8 n ∧ IntKind.wrap .u8 n < 256 := by
  rw [IntKind.wrap_u8]; omega
theorem drawGetNum (x : List Int) (hn : x.length ≤ 1048576) : ∃ y i, f_spec_DrawGetNum x = some (y, i) ∧ (∀ b ∈ y, 0 ≤ b ∧ b < 256) ∧ y.length ≤ 11 := by
  unfold f_spec_DrawGetNum
  obtain ⟨s', e⟩ := draw_new (F := f_spec_DrawGetNum.l0) (G := fun x s => (x, s)) (fun _ _ _ _ => rfl) x hn (IntKind.wrap .i64 ((20404 : Int) + (x.length : Int)))
  rw [e, Option.bind_some]
  obtain ⟨p1, s1, acc, e1, q1, ha, hl⟩ := drawGetNum_loop x hn 0 3 N 0 0 s' [] (Int.le_refl _) rfl (Nat.lt_of_lt_of_le (by omega) (Nat.le_of_lt big)) (Int.le_refl _) (fun y hy => by cases hy) (by simp)
  obtain ⟨b, p2, s2, e2, q2⟩ := draw_once x hn p1 s1 3 q1
  simp only [e1, e2, Option.bind_some]
  cases b with
  | false =>
    obtain ⟨v, p3, s3, e3, -, -⟩ := draw_pick x hn p2 s2 q2 ([0, 0, 1, (acc.length : Int), -1, 9223372036854775807] : List Int) (by simp)
    simp only [cond_false, e3, Option.bind_some]
    exact ⟨_, _, rfl, ha, by omega⟩
  | true =>
    obtain ⟨v, p3, s3, e3, -, q3⟩ := draw_pick x hn p2 s2 q2 ([0, 128, 255] : List Int) (by simp)
    obtain ⟨w, p4, s4, e4, q4, -⟩ := draw_below x hn p3 s3 3 q3
    obtain ⟨u, p5, s5, e5, -, q5⟩ := draw_pick x hn p4 s4 q4 ([0, 0, 1, ((acc ++ [IntKind.wrap .u8 v, IntKind.wrap .u8 w] : List Int).length : Int), -1, 9223372036854775807] : List Int) (by simp)
    simp only [cond_true, e3, e4, Option.bind_some, (blt_iff _ _).2 (show acc.length + ([IntKind.wrap .u8 v, IntKind.wrap .u8 w] : List Int).length < 140737488355328 by simp; omega), e5]
    refine ⟨_, _, rfl, fun y hy => ?_, by rw [List.length_append]; simp; omega⟩
    rcases List.mem_append.1 hy with hy | hy
    · exact ha y hy
    · rcases List.mem_cons.1 hy with rfl | hy
      · exact u8_rng v
      · rw [List.mem_singleton.1 hy]; exact u8_rng w
theorem putB_pos (v : Int) (h0 : 0 ≤ v) (h1 : v ≤ 100000) : 0 < ((putB v).length : Int) := by
  by_cases h2 : v ≤ 127
  · rw [putB1 v h0 h2]; simp
  · by_cases h3 : v ≤ 16383
    · rw [putB2 v h2 h3]; simp
    · rw [putB3 v h3 h1]; simp
theorem nums (x0 : List Int) : f_laws_FnNums x0 = some true := by
  unfold f_laws_FnNums f_laws_big
  by_cases hb : (1048576 : Int) < (x0.length : Int)
  · rw [decide_eq_true hb]; rfl
  rw [decide_eq_false hb]
  have hn : x0.length ≤ 1048576 := by omega
  obtain ⟨v, e1⟩ := drawPutNum x0 hn
  obtain ⟨y, i, e2, hy, hyl⟩ := drawGetNum x0 hn
  obtain ⟨a, ea⟩ := at_some x0 1 (by omega)
  have hp := putB_length v
  have c1 : Nat.blt (putB v).length 140737488355328 = true := (blt_iff _ _).2 (by omega)
  have c2 : Nat.blt ((putB v).length + ([IntKind.wrap .u8 a] : List Int).length) 140737488355328 = true := (blt_iff _ _).2 (by simp; omega)
  have g1 := implGet (putB v ++ [IntKind.wrap .u8 a]) (by rw [List.length_append]; simp; omega) (fun b hb => (List.mem_append.1 hb).elim (putB_bytes v b) (fun h => by rw [List.mem_singleton.1 h]; exact u8_rng a)) 0
  have g2 := implGet y (by omega) hy i
  have g3 := specGet y (by omega) hy i
  simp only [Option.bind_some, cond_false, e1, e2, implPut, specPut, beq_self_eq_true, Bool.not_true, ea, List.length_nil, Nat.zero_add, List.nil_append, c1, c2, cond_true, g1, g2, g3, decide_true]
  have tail : ∀ z, z = getB y i → (bif !z.2.2 then bif decide (z.1 = 0) then some true else bif z.2.2 then
      bif (decide ((0 : Int) ≤ i)) && ((decide (i ≤ z.2.1)) && (decide (z.2.1 ≤ (y.length : Int)))) then some ((bytesOfRows (putB z.1)).toList == (bytesOfRows ((y.drop i.toNat).take (z.2.1 - i).toNat)).toList) else none else some false
      else bif z.2.2 then bif (decide ((0 : Int) ≤ i)) && ((decide (i ≤ z.2.1)) && (decide (z.2.1 ≤ (y.length : Int)))) then some ((bytesOfRows (putB z.1)).toList == (bytesOfRows ((y.drop i.toNat).take (z.2.1 - i).toNat)).toList) else none else some false) = some true := by
    intro z hz
    rcases get_canon y hy i with h | ⟨w, j, h, h1, h2, h3, h4, h5, h6, h7⟩
    · rw [hz, h]; rfl
    · rw [hz, h]
      simp only [Bool.not_true, cond_false, cond_true, decide_eq_true h1, decide_eq_true (show i ≤ j by omega), decide_eq_true h3, Bool.and_self, h7, beq_self_eq_true]
  rw [tail _ rfl]
  by_cases hv : 0 ≤ v ∧ v ≤ 100000
  · rw [decide_eq_true (putB_pos v hv.1 hv.2), get_put _ [IntKind.wrap .u8 a] 0 v (Int.le_refl _) hv.1 hv.2 rfl]
    simp only [cond_true, Bool.not_true, cond_false, decide_true, Int.zero_add]
  · rw [show putB v = [] by unfold putB; rw [if_pos (by omega)]]
    rfl
theorem plain : Pure := fun x _ => nums x
end Go.Abs
