/- The law FnExactFrameWrite returns true for every frame, place and word: the program's FrameWrite gives what the reference's gives, in a row of its own, and turns nothing that it was handed. A frame of more than 2^20 words is not asked for. -/
import Derived.Test.YtbecooalhanmeaaMFnExactFrameWrite
import Derived.Laws.BitsLemmas
namespace Go.Abs
open Go.RowKit

theorem w64 {n : Int} (h0 : -9223372036854775808 ≤ n) (h1 : n ≤ 9223372036854775807) : IntKind.wrap .i64 n = n := by
  rw [IntKind.wrap_i64]
  omega
theorem succ_fuel {n d : Nat} (h : d < n) : ∃ m, n = m + 1 := ⟨n - 1, by omega⟩
theorem big : (1048577 : Nat) < N := by decide
def rng (x m : Int) : Bool := decide ((0 : Int) ≤ x) && decide (x ≤ m)
theorem in_rng (x m : Int) : f_spec_l1In x 0 m = some (rng x m) := by
  unfold f_spec_l1In rng
  cases decide ((0 : Int) ≤ x) <;> rfl
theorem from_rng (x m : Int) : f_impl_from x 0 m = some (rng x m) := by
  unfold f_impl_from rng
  cases decide ((0 : Int) ≤ x) <;> rfl
theorem szIntS (x : List Int) (left : Int) (h0 : 0 ≤ left) (h1 : left ≤ 1048576) (hx : x.length ≤ 9223372036854775807) :
    (f_laws_szIntS x left = some (-1)) ∨ (f_laws_szIntS x left = some (left - x.length) ∧ (x.length : Int) ≤ left) := by
  unfold f_laws_szIntS
  rw [w64 (by omega) (by omega)]
  by_cases h : left - (x.length : Int) < 0
  · rw [decide_eq_true h]; exact .inl rfl
  · rw [decide_eq_false h]; exact .inr ⟨rfl, by omega⟩
theorem toIntS_loop (x : List Int) (hn : x.length ≤ 1048576) (d : Nat) : ∀ (n : Nat) (y : List Int) (i : Int), 0 ≤ i → i ≤ x.length → (x.length : Int) - i = d → d < n → y.length = x.length → y.take i.toNat = x.take i.toNat → f_laws_toIntS.l0 n x i y = some x := by
  induction d with
  | zero =>
    intro n y i h0 h1 hd hk hl ht
    obtain ⟨n, rfl⟩ := succ_fuel hk
    simp only [f_laws_toIntS.l0]
    rw [decide_eq_false (by omega), cond_false]
    rw [List.take_of_length_le (by omega), List.take_of_length_le (by omega)] at ht
    rw [ht]
  | succ d ih =>
    intro n y i h0 h1 hd hk hl ht
    obtain ⟨n, rfl⟩ := succ_fuel hk
    have hw : IntKind.wrap .i64 (i + 1) = i + 1 := w64 (by omega) (by omega)
    have hlt : i.toNat < x.length := by omega
    simp only [f_laws_toIntS.l0]
    rw [decide_eq_true (show i < (x.length : Int) by omega), decide_eq_true h0, decide_eq_true (show i < (y.length : Int) by omega), hw]
    simp only [cond_true, Bool.and_self, Option.bind_some]
    refine ih n _ (i + 1) (by omega) (by omega) (by omega) (by omega) (by rw [List.length_set]; exact hl) ?_
    have e : (i + 1).toNat = i.toNat + 1 := by omega
    rw [e, List.take_add_one, List.take_add_one, List.take_set, List.getElem?_set_self (by omega), List.getElem?_eq_getElem hlt]
    have : x.getD i.toNat 0 = x[i.toNat] := by rw [List.getD_eq_getElem?_getD, List.getElem?_eq_getElem hlt]; rfl
    rw [this, List.set_eq_of_length_le (by rw [List.length_take]; omega), ht]
theorem toIntS (x : List Int) (hn : x.length ≤ 1048576) : f_laws_toIntS x = some x := by
  unfold f_laws_toIntS
  rw [decide_eq_true (by omega), show Nat.ble ((x.length : Int).toNat) 17592186044416 = true from Nat.ble_eq_true_of_le (by omega)]
  simp only [Bool.and_self, cond_true]
  rw [toIntS_loop x hn x.length N _ 0 (by omega) (by omega) (by omega) (Nat.lt_of_le_of_lt (by omega) big) (by simp) (by simp)]
  rfl
theorem eqIntS_loop (x : List Int) (hn : x.length ≤ 1048576) (b : Bool) (d : Nat) : ∀ (n : Nat) (i : Int), 0 ≤ i → i ≤ x.length → (x.length : Int) - i = d → d < n → f_laws_eqIntS.l0 n x x b i = some (.inr b) := by
  induction d with
  | zero =>
    intro n i h0 h1 hd hk
    obtain ⟨n, rfl⟩ := succ_fuel hk
    simp only [f_laws_eqIntS.l0]
    rw [decide_eq_false (by omega), cond_false]
  | succ d ih =>
    intro n i h0 h1 hd hk
    obtain ⟨n, rfl⟩ := succ_fuel hk
    have hw : IntKind.wrap .i64 (i + 1) = i + 1 := w64 (by omega) (by omega)
    simp only [f_laws_eqIntS.l0]
    rw [decide_eq_true (show i < (x.length : Int) by omega), decide_eq_true h0, hw]
    simp only [cond_true, Bool.and_self, decide_true, Bool.not_true, cond_false]
    exact ih n (i + 1) (by omega) (by omega) (by omega) (by omega)
theorem eqIntS (x : List Int) (hn : x.length ≤ 1048576) : f_laws_eqIntS x x = some true := by
  unfold f_laws_eqIntS
  simp only [decide_true, Bool.not_true, cond_false]
  rw [eqIntS_loop x hn false x.length N 0 (by omega) (by omega) (by omega) (Nat.lt_of_le_of_lt (by omega) big)]
  rfl
def allW (x : List Int) : Bool := x.all fun w => rng w 65535
theorem drop_step (x : List Int) (i : Int) (h0 : 0 ≤ i) (h1 : i < x.length) : x.drop i.toNat = x.getD i.toNat 0 :: x.drop (i + 1).toNat := by
  have hlt : i.toNat < x.length := by omega
  have e : (i + 1).toNat = i.toNat + 1 := by omega
  rw [e, List.drop_eq_getElem_cons hlt, List.getD_eq_getElem?_getD, List.getElem?_eq_getElem hlt]
  rfl
theorem specWords_loop (x : List Int) (hn : x.length ≤ 1048576) (k : Int) (b : Bool) (d : Nat) : ∀ (n : Nat) (i : Int), 0 ≤ i → i ≤ x.length → (x.length : Int) - i = d → d < n →
    f_spec_l1Words.l0 n x k b i = some (bif allW (x.drop i.toNat) then .inr (x, k, b) else .inl false) := by
  induction d with
  | zero =>
    intro n i h0 h1 hd hk
    obtain ⟨n, rfl⟩ := succ_fuel hk
    simp only [f_spec_l1Words.l0]
    rw [decide_eq_false (by omega), cond_false, List.drop_eq_nil_of_le (by omega)]
    rfl
  | succ d ih =>
    intro n i h0 h1 hd hk
    obtain ⟨n, rfl⟩ := succ_fuel hk
    have hw : IntKind.wrap .i64 (i + 1) = i + 1 := w64 (by omega) (by omega)
    simp only [f_spec_l1Words.l0]
    rw [decide_eq_true (show i < (x.length : Int) by omega), decide_eq_true h0, hw, in_rng, drop_step x i h0 (by omega)]
    simp only [cond_true, Bool.and_self, Option.bind_some]
    unfold allW
    rw [List.all_cons]
    cases hr : rng (x.getD i.toNat 0) 65535 with
    | false => rfl
    | true =>
      simp only [Bool.not_true, cond_false, Bool.true_and]
      exact ih n (i + 1) (by omega) (by omega) (by omega) (by omega)
theorem specWords (x : List Int) (hn : x.length ≤ 1048576) (k : Int) : f_spec_l1Words x k = some (allW x && decide ((x.length : Int) = k)) := by
  unfold f_spec_l1Words
  rw [specWords_loop x hn k false x.length N 0 (by omega) (by omega) (by omega) (Nat.lt_of_le_of_lt (by omega) big)]
  simp only [Int.toNat_zero, List.drop_zero, Option.bind_some]
  cases allW x <;> rfl
theorem implWords_loop (x : List Int) (hn : x.length ≤ 1048576) (q : Int) (d : Nat) : ∀ (n : Nat) (i : Int), 0 ≤ i → i ≤ x.length → (x.length : Int) - i = d → d < n →
    (allW (x.drop i.toNat) = true ∧ f_impl_wordsOk.l0 n x q (x.length : Int) i = some (.inr q)) ∨ (allW (x.drop i.toNat) = false ∧ ∃ j : Int, 0 ≤ j ∧ f_impl_wordsOk.l0 n x q (x.length : Int) i = some (.inl j)) := by
  induction d with
  | zero =>
    intro n i h0 h1 hd hk
    obtain ⟨n, rfl⟩ := succ_fuel hk
    simp only [f_impl_wordsOk.l0]
    rw [decide_eq_false (show ¬ i < (x.length : Int) by omega), cond_false, List.drop_eq_nil_of_le (by omega)]
    exact .inl ⟨rfl, rfl⟩
  | succ d ih =>
    intro n i h0 h1 hd hk
    obtain ⟨n, rfl⟩ := succ_fuel hk
    have hw : IntKind.wrap .i64 (i + 1) = i + 1 := w64 (by omega) (by omega)
    have ih2 := ih n (i + 1) (by omega) (by omega) (by omega) (by omega)
    simp only [f_impl_wordsOk.l0]
    rw [decide_eq_true (show i < (x.length : Int) by omega), decide_eq_true h0, hw, drop_step x i h0 (by omega)]
    unfold f_impl_wordsOk_1 f_impl_isWord
    simp only [cond_true, Bool.and_self, from_rng, Option.bind_some]
    unfold allW at ih2 ⊢
    rw [List.all_cons]
    cases hr : rng (x.getD i.toNat 0) 65535 with
    | false => exact .inr ⟨rfl, i, h0, rfl⟩
    | true =>
      simp only [Bool.not_true, cond_false, Bool.true_and]
      exact ih2
theorem implWords (x : List Int) (hn : x.length ≤ 1048576) (k : Int) : f_impl_wordsOk x k = some (allW x && decide ((x.length : Int) = k)) := by
  unfold f_impl_wordsOk
  have h := implWords_loop x hn 0 x.length N 0 (by omega) (by omega) (by omega) (Nat.lt_of_le_of_lt (by omega) big)
  simp only [Int.toNat_zero, List.drop_zero] at h
  cases decide ((x.length : Int) = k) with
  | false => simp
  | true =>
    rcases h with ⟨h1, h2⟩ | ⟨h1, j, h3, h2⟩
    · simp only [cond_true, h2, Option.bind_some, h1, Bool.and_true]; rfl
    · simp only [cond_true, h2, Option.bind_some, h1, Bool.and_true]
      show some (!(decide ((0 : Int) ≤ j))) = some false
      rw [decide_eq_true h3]; rfl
theorem same_frameOk (x0 : Int) (x1 : List Int) (x2 : Bool) (hn : x1.length ≤ 1048576) : ∃ b, f_spec_FrameOk x0 x1 x2 = some b ∧ f_impl_FrameOk x0 x1 x2 = some b := by
  unfold f_spec_FrameOk f_impl_FrameOk
  simp only [specWords x1 hn, implWords x1 hn, in_rng, Option.bind_some]
  by_cases h0 : x0 = 0
  · rw [decide_eq_true h0]; exact ⟨_, rfl, rfl⟩
  · rw [decide_eq_false h0]
    by_cases h1 : x0 = 1
    · subst h1; exact ⟨_, rfl, rfl⟩
    · by_cases h2 : x0 = 2
      · subst h2; exact ⟨_, rfl, rfl⟩
      · have hr : rng x0 2 = false := by
          unfold rng
          by_cases h3 : 0 ≤ x0
          · rw [decide_eq_true h3, decide_eq_false (by omega)]; rfl
          · rw [decide_eq_false h3]; rfl
        rw [hr, decide_eq_false h1, decide_eq_false h2]
        exact ⟨_, rfl, rfl⟩
theorem toFrame_self (a : Int) (x : List Int) (c : Bool) (hn : x.length ≤ 1048576) : f_laws_toFrame a x c = some (a, x, c) := by
  unfold f_laws_toFrame
  simp only [toIntS x hn, Option.bind_some]
theorem eqFrame_self (a : Int) (x : List Int) (c : Bool) (hn : x.length ≤ 1048576) : f_laws_eqFrame a x c a x c = some true := by
  unfold f_laws_eqFrame
  simp only [decide_true, Bool.not_true, cond_false, beq_self_eq_true, eqIntS x hn, Option.bind_some]
theorem getD_set_self {α : Type} (x : List α) (d e : α) (i : Int) (h0 : 0 ≤ i) (h1 : i < x.length) : (x.set i.toNat e).getD i.toNat d = e := by
  rw [List.getD_eq_getElem?_getD, List.getElem?_set_self (by omega)]; rfl
theorem getD_set_other {α : Type} (x : List α) (d e : α) (i j : Nat) (h : i ≠ j) : (x.set i e).getD j d = x.getD j d := by
  rw [List.getD_eq_getElem?_getD, List.getElem?_set_ne h, List.getD_eq_getElem?_getD]
theorem mh_loop {α : Type} {d : α} {F : Nat → Int → Int → Int → List α → Option (Int × Int × List α)} {H : Nat → List α → Int → Int → Int → Option (Int ⊕ (Int × Int))} {P : α → Prop} {M : Int} (hM : 0 ≤ M)
    (f0 : ∀ n c q i x, ¬ i < (x.length : Int) → F (n + 1) c q i x = some (c, q, x)) (g0 : ∀ n x c q i, ¬ i < (x.length : Int) → H (n + 1) x c q i = some (.inr (c, q)))
    (f1 : ∀ c e, P e → 0 ≤ c → c ≤ 1152921504606846976 → ∃ e' c', c ≤ c' ∧ c' ≤ c + M ∧ (∀ n q i (x : List α), x.length ≤ 1048576 → 0 ≤ i → i < (x.length : Int) → x.getD i.toNat d = e → F (n + 1) c q i x = F n c' q (i + 1) (x.set i.toNat e')) ∧
      ∀ n q i (x : List α), x.length ≤ 1048576 → 0 ≤ i → i < (x.length : Int) → x.getD i.toNat d = e' → H (n + 1) x c q i = H n x c' q (i + 1))
    (k : Nat) : ∀ (n m : Nat) (x : List α) (c q q' i : Int), x.length ≤ 1048576 → (∀ j : Nat, i.toNat ≤ j → j < x.length → P (x.getD j d)) → 0 ≤ c → c + M * k ≤ 1152921504606846976 → 0 ≤ i → i ≤ x.length → (x.length : Int) - i = k → k < n → k < m →
      ∃ y c', F n c q i x = some (c', q, y) ∧ y.length = x.length ∧ c ≤ c' ∧ c' ≤ c + M * k ∧ (∀ j : Nat, j < i.toNat → y.getD j d = x.getD j d) ∧ H m y c q' i = some (.inr (c', q')) := by
  induction k with
  | zero =>
    intro n m x c q q' i hx hp hc0 hc1 h0 h1 hd hn hm
    obtain ⟨n, rfl⟩ := succ_fuel hn
    obtain ⟨m, rfl⟩ := succ_fuel hm
    exact ⟨x, c, f0 n c q i x (by omega), rfl, Int.le_refl _, by omega, fun _ _ => rfl, g0 m x c q' i (by omega)⟩
  | succ k ih =>
    intro n m x c q q' i hx hp hc0 hc1 h0 h1 hd hn hm
    obtain ⟨n, rfl⟩ := succ_fuel hn
    obtain ⟨m, rfl⟩ := succ_fuel hm
    have e1 : M * ((k + 1 : Nat) : Int) = M * (k : Int) + M := by rw [Int.natCast_add, Int.mul_add]; simp
    have e2 : 0 ≤ M * (k : Int) := Int.mul_nonneg hM (by omega)
    rw [e1] at hc1 ⊢
    obtain ⟨e', c1, b1, b2, b3, b4⟩ := f1 c _ (hp i.toNat (Nat.le_refl _) (by omega)) hc0 (by omega)
    obtain ⟨y, c', h2, h3, h4, h5, h6, h7⟩ := ih n m (x.set i.toNat e') c1 q q' (i + 1) (by rw [List.length_set]; exact hx) (fun j h2 h3 => by
      rw [List.length_set] at h3
      rw [getD_set_other x d e' i.toNat j (by omega)]
      exact hp j (by omega) h3) (by omega) (by omega) (by omega) (by rw [List.length_set]; omega) (by rw [List.length_set]; omega) (by omega) (by omega)
    rw [List.length_set] at h3
    refine ⟨y, c', ?_, h3, by omega, by omega, fun j hj => ?_, ?_⟩
    · rw [b3 n q i x hx h0 (by omega) rfl]; exact h2
    · rw [h6 j (by omega)]
      exact getD_set_other x d e' i.toNat j (by omega)
    · rw [b4 m q' i y (by omega) h0 (by omega) (by rw [h6 i.toNat (by omega)]; exact getD_set_self x d e' i h0 (by omega))]
      exact h7
/-- What is marked from c on, holds what was marked. -/
theorem mh_gen {α : Type} {d : α} {F : Nat → Int → Int → Int → List α → Option (Int × Int × List α)} {H : Nat → List α → Int → Int → Int → Option (Int ⊕ (Int × Int))} {P : α → Prop} {M : Int} (hM : 0 ≤ M)
    (f0 : ∀ n c q i x, ¬ i < (x.length : Int) → F (n + 1) c q i x = some (c, q, x)) (g0 : ∀ n x c q i, ¬ i < (x.length : Int) → H (n + 1) x c q i = some (.inr (c, q)))
    (f1 : ∀ c e, P e → 0 ≤ c → c ≤ 1152921504606846976 → ∃ e' c', c ≤ c' ∧ c' ≤ c + M ∧ (∀ n q i (x : List α), x.length ≤ 1048576 → 0 ≤ i → i < (x.length : Int) → x.getD i.toNat d = e → F (n + 1) c q i x = F n c' q (i + 1) (x.set i.toNat e')) ∧
      ∀ n q i (x : List α), x.length ≤ 1048576 → 0 ≤ i → i < (x.length : Int) → x.getD i.toNat d = e' → H (n + 1) x c q i = H n x c' q (i + 1))
    (x : List α) (hx : x.length ≤ 1048576) (hp : ∀ e ∈ x, P e) (c : Int) (h0 : 0 ≤ c) (h1 : c + M * x.length ≤ 1152921504606846976) : ∃ y c', F N c 0 0 x = some (c', 0, y) ∧ y.length = x.length ∧ c ≤ c' ∧ c' ≤ c + M * x.length ∧ H N y c 0 0 = some (.inr (c', 0)) := by
  have hN : x.length < N := Nat.lt_of_le_of_lt hx (Nat.lt_trans (by omega) big)
  obtain ⟨y, c', a1, a2, a3, a4, _, a5⟩ := mh_loop (d := d) hM f0 g0 f1 x.length N N x c 0 0 0 hx (fun j _ hj => hp _ (by
    rw [List.getD_eq_getElem?_getD, List.getElem?_eq_getElem hj]
    exact List.getElem_mem hj)) h0 h1 (by omega) (by omega) (by omega) hN hN
  exact ⟨y, c', a1, a2, a3, a4, a5⟩
theorem markIntS (x : List Int) (hx : x.length ≤ 1048576) (c : Int) (h0 : 0 ≤ c) (h1 : c ≤ 1099511627776) : ∃ y c', f_laws_markIntS x c = some (c', y) ∧ y.length = x.length ∧ c ≤ c' ∧ c' ≤ c + x.length ∧ f_laws_heldIntS y c = some c' := by
  obtain ⟨y, c', a1, a2, a3, a4, a5⟩ := mh_gen (d := (0 : Int)) (F := f_laws_markIntS.l0) (H := f_laws_heldIntS.l0) (P := fun _ => True) (M := 1) (by omega)
    (fun n c q i x h => by simp only [f_laws_markIntS.l0, decide_eq_false h, cond_false]) (fun n x c q i h => by simp only [f_laws_heldIntS.l0, decide_eq_false h, cond_false])
    (fun c e _ h0 h1 => ⟨c, c + 1, by omega, by omega, fun n q i x hx hi0 hi1 _ => by
      simp only [f_laws_markIntS.l0, decide_eq_true hi1, decide_eq_true hi0, cond_true, Bool.and_self, Option.bind_some, w64 (show -9223372036854775808 ≤ c + 1 by omega) (by omega), w64 (show -9223372036854775808 ≤ i + 1 by omega) (by omega)],
      fun n q i x hx hi0 hi1 he => by
      simp only [f_laws_heldIntS.l0, decide_eq_true hi1, decide_eq_true hi0, cond_true, Bool.and_self, he, decide_true, Bool.not_true, cond_false, w64 (show -9223372036854775808 ≤ c + 1 by omega) (by omega), w64 (show -9223372036854775808 ≤ i + 1 by omega) (by omega)]⟩)
    x hx (fun _ _ => trivial) c h0 (by omega)
  refine ⟨y, c', ?_, a2, a3, by omega, ?_⟩
  · unfold f_laws_markIntS; rw [a1]; rfl
  · unfold f_laws_heldIntS; rw [a5]; rfl
theorem markFrame (a : Int) (x : List Int) (b : Bool) (hx : x.length ≤ 1048576) (c : Int) (h0 : 0 ≤ c) (h1 : c ≤ 1099511627776) : ∃ y c', f_laws_markFrame a x b c = some (c', y) ∧ y.length = x.length ∧ c ≤ c' ∧ c' ≤ c + x.length ∧ f_laws_heldFrame a y b c = some c' := by
  obtain ⟨y, c', a1, a2, a3, a4, a5⟩ := markIntS x hx c h0 h1
  refine ⟨y, c', ?_, a2, a3, a4, ?_⟩
  · unfold f_laws_markFrame; rw [a1]; rfl
  · unfold f_laws_heldFrame; rw [a5]; simp only [Option.bind_some, decide_eq_false (show ¬ c' < 0 by omega), cond_false]
theorem frameWrite (x0 : Int) (x1 : List Int) (x2 : Bool) (x3 x4 : Int) (hx : x1.length ≤ 9223372036854775807) : f_laws_FnExactFrameWrite x0 x1 x2 x3 x4 = some true := by
  unfold f_laws_FnExactFrameWrite f_laws_szFrame
  rcases szIntS x1 1048576 (by omega) (by omega) hx with h | ⟨h, hl⟩
  · simp only [h, Option.bind_some]; rfl
  · have hn : x1.length ≤ 1048576 := by omega
    obtain ⟨b, h1, h2⟩ := same_frameOk x0 x1 x2 hn
    have h4 : b = true → x0 = 2 → (x1.length : Int) = 4 := by
      rintro rfl rfl
      unfold f_spec_FrameOk at h1
      simp [specWords x1 hn, in_rng, rng] at h1
      omega
    have hs : ∃ r, f_spec_FrameWrite x0 x1 x2 x3 x4 = some r ∧ f_impl_FrameWrite x0 x1 x2 x3 x4 = some r ∧ r.2.1.length ≤ 1048576 := by
      unfold f_spec_FrameWrite f_impl_FrameWrite f_spec_l3Copy f_impl_copyFrame f_slices_Clone_int_int f_impl_isWord
      simp only [List.length_nil, Nat.zero_add, (blt_iff _ _).2 (show x1.length < 17592186044416 by omega), cond_true, List.nil_append, Option.bind_some, h1, h2, in_rng, from_rng]
      cases b with
      | false => exact ⟨_, rfl, rfl, hn⟩
      | true =>
        simp only [Bool.not_true, cond_false]
        by_cases h2 : x0 = 2
        · have hl4 := h4 rfl h2
          rw [decide_eq_true h2]
          cases hr : rng x3 3 with
          | false => exact ⟨_, rfl, rfl, hn⟩
          | true =>
            cases hr2 : rng x4 65535 with
            | false => exact ⟨_, rfl, rfl, hn⟩
            | true =>
              unfold rng at hr
              simp only [Bool.and_eq_true, decide_eq_true_eq] at hr
              rw [decide_eq_true hr.1, decide_eq_true (show x3 < (x1.length : Int) by omega)]
              exact ⟨_, rfl, rfl, by rw [List.length_set]; exact hn⟩
        · rw [decide_eq_false h2]; exact ⟨_, rfl, rfl, hn⟩
    obtain ⟨r, h3, h4, h5⟩ := hs
    obtain ⟨y, c, m1, m2, m3, m4, m5⟩ := markFrame x0 x1 x2 hn 1 (by omega) (by omega)
    obtain ⟨y', c', k1, k2, k3, k4, k5⟩ := markFrame r.1 r.2.1 r.2.2.1 h5 1 (by omega) (by omega)
    simp only [h, cond_false, Option.bind_some, decide_eq_false (show ¬ (1048576 : Int) - (x1.length : Int) < 0 by omega), toFrame_self _ _ _ hn, h3, h4, eqFrame_self _ _ _ hn, eqFrame_self _ _ _ h5, beq_self_eq_true, Bool.not_true, decide_true, m1, k1, k5, decide_eq_false (show ¬ c < 0 by omega), decide_eq_false (show ¬ c' < 0 by omega)]
theorem plain : Pure := fun x h => frameWrite x.1 x.2.1 x.2.2.1 x.2.2.2.1 x.2.2.2.2 h.2.1.1
end Go.Abs
