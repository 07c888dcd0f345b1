/- The law FnExactHomeNew returns true for every number of frames: the program's HomeNew gives the home that the reference's gives, in rows of its own. The number is one of an int. -/
import Derived.Test.YtbecooalhanmeaaMFnExactHomeNew
import Derived.Laws.BitsLemmas
namespace Go.Abs
open Go.RowKit

theorem w64 {n : Int} (h0 : -9223372036854775808 ≤ n) (h1 : n ≤ 9223372036854775807) : IntKind.wrap .i64 n = n := by
  rw [IntKind.wrap_i64]
  omega
theorem succ_fuel {n d : Nat} (h : d < n) : ∃ m, n = m + 1 := ⟨n - 1, by omega⟩
theorem big : (1048577 : Nat) < N := by decide
def rng (x m : Int) : Bool := decide ((0 : Int) ≤ x) && decide (x ≤ m)
theorem in_rng (x m : Int) : f_spec_l1In x 0 m = some (rng x m) := by
  unfold f_spec_l1In rng
  cases decide ((0 : Int) ≤ x) <;> rfl
theorem from_rng (x m : Int) : f_impl_from x 0 m = some (rng x m) := by
  unfold f_impl_from rng
  cases decide ((0 : Int) ≤ x) <;> rfl
theorem mem_getD {α : Type} (x : List α) (d : α) (i : Int) (h0 : 0 ≤ i) (h1 : i < x.length) : x.getD i.toNat d ∈ x := by
  have hlt : i.toNat < x.length := by omega
  rw [List.getD_eq_getElem?_getD, List.getElem?_eq_getElem hlt]
  exact List.getElem_mem hlt
theorem drop_getD {α : Type} (x : List α) (d : α) (i : Int) (h0 : 0 ≤ i) (h1 : i < x.length) : x.drop i.toNat = x.getD i.toNat d :: x.drop (i + 1).toNat := by
  have hlt : i.toNat < x.length := by omega
  have e : (i + 1).toNat = i.toNat + 1 := by omega
  rw [e, List.drop_eq_getElem_cons hlt, List.getD_eq_getElem?_getD, List.getElem?_eq_getElem hlt]
  rfl
theorem to_gen {α : Type} {d : α} {F : Nat → List α → Int → List α → Option (List α)} {g : α → Option α}
    (hs : ∀ n x i y, F (n + 1) x i y = bif decide (i < (x.length : Int)) then (bif (decide ((0 : Int) ≤ i) && decide (i < (x.length : Int))) then (g (x.getD i.toNat d)).bind fun e => (bif (decide ((0 : Int) ≤ i) && decide (i < (y.length : Int))) then F n x (IntKind.wrap .i64 (i + 1)) (y.set i.toNat e) else none) else none) else some y)
    (x : List α) (hn : x.length ≤ 1048576) (hg : ∀ e ∈ x, g e = some e) (k : Nat) : ∀ (n : Nat) (y : List α) (i : Int), 0 ≤ i → i ≤ x.length → (x.length : Int) - i = k → k < n → y.length = x.length → y.take i.toNat = x.take i.toNat → F n x i y = some x := by
  induction k with
  | zero =>
    intro n y i h0 h1 hd hk hl ht
    obtain ⟨n, rfl⟩ := succ_fuel hk
    rw [hs, decide_eq_false (by omega), cond_false]
    rw [List.take_of_length_le (by omega), List.take_of_length_le (by omega)] at ht
    rw [ht]
  | succ k ih =>
    intro n y i h0 h1 hd hk hl ht
    obtain ⟨n, rfl⟩ := succ_fuel hk
    have hw : IntKind.wrap .i64 (i + 1) = i + 1 := w64 (by omega) (by omega)
    have hlt : i.toNat < x.length := by omega
    rw [hs, decide_eq_true (show i < (x.length : Int) by omega), decide_eq_true h0, decide_eq_true (show i < (y.length : Int) by omega), hw, hg _ (mem_getD x d i h0 (by omega))]
    simp only [cond_true, Bool.and_self, Option.bind_some]
    refine ih n _ (i + 1) (by omega) (by omega) (by omega) (by omega) (by rw [List.length_set]; exact hl) ?_
    have e : (i + 1).toNat = i.toNat + 1 := by omega
    rw [e, List.take_add_one, List.take_add_one, List.take_set, List.getElem?_set_self (by omega), List.getElem?_eq_getElem hlt]
    have : x.getD i.toNat d = x[i.toNat] := by rw [List.getD_eq_getElem?_getD, List.getElem?_eq_getElem hlt]; rfl
    rw [this, List.set_eq_of_length_le (by rw [List.length_take]; omega), ht]
theorem eq_gen {α : Type} {d : α} {F : Nat → List α → List α → Bool → Int → Option (Bool ⊕ Bool)} {q : α → α → Option Bool}
    (hs : ∀ n x y b i, F (n + 1) x y b i = bif decide (i < (x.length : Int)) then (bif (decide ((0 : Int) ≤ i) && decide (i < (x.length : Int))) then (bif (decide ((0 : Int) ≤ i) && decide (i < (y.length : Int))) then (q (x.getD i.toNat d) (y.getD i.toNat d)).bind fun r => (bif (!r) then some (.inl false) else F n x y b (IntKind.wrap .i64 (i + 1))) else none) else none) else some (.inr b))
    (x : List α) (hn : x.length ≤ 1048576) (hq : ∀ e ∈ x, q e e = some true) (b : Bool) (k : Nat) : ∀ (n : Nat) (i : Int), 0 ≤ i → i ≤ x.length → (x.length : Int) - i = k → k < n → F n x x b i = some (.inr b) := by
  induction k with
  | zero =>
    intro n i h0 h1 hd hk
    obtain ⟨n, rfl⟩ := succ_fuel hk
    rw [hs, decide_eq_false (by omega), cond_false]
  | succ k ih =>
    intro n i h0 h1 hd hk
    obtain ⟨n, rfl⟩ := succ_fuel hk
    have hw : IntKind.wrap .i64 (i + 1) = i + 1 := w64 (by omega) (by omega)
    rw [hs, decide_eq_true (show i < (x.length : Int) by omega), decide_eq_true h0, hw, hq _ (mem_getD x d i h0 (by omega))]
    simp only [cond_true, Bool.and_self, Option.bind_some, Bool.not_true, cond_false]
    exact ih n (i + 1) (by omega) (by omega) (by omega) (by omega)
theorem sz_gen {α : Type} {d : α} {F : Nat → List α → Int → Int → Int → Option (Int ⊕ (Int × Int))} {s : α → Int → Option Int} {Ok : α → Prop}
    (hs : ∀ n x l q i, F (n + 1) x l q i = bif decide (i < (x.length : Int)) then (bif (decide ((0 : Int) ≤ i) && decide (i < (x.length : Int))) then (s (x.getD i.toNat d) l).bind fun r => (bif decide (r < 0) then some (.inl (-1)) else F n x r q (IntKind.wrap .i64 (i + 1))) else none) else some (.inr (l, q)))
    (x : List α) (hn : x.length ≤ 1048576) (he : ∀ e ∈ x, ∀ l, 0 ≤ l → l ≤ 1048576 → s e l = some (-1) ∨ ∃ l', s e l = some l' ∧ 0 ≤ l' ∧ l' ≤ l ∧ Ok e) (q : Int) (k : Nat) :
    ∀ (n : Nat) (l i : Int), 0 ≤ l → l ≤ 1048576 → 0 ≤ i → i ≤ x.length → (x.length : Int) - i = k → k < n → F n x l q i = some (.inl (-1)) ∨ ∃ l', F n x l q i = some (.inr (l', q)) ∧ 0 ≤ l' ∧ l' ≤ l ∧ ∀ e ∈ x.drop i.toNat, Ok e := by
  induction k with
  | zero =>
    intro n l i hl0 hl1 h0 h1 hd hk
    obtain ⟨n, rfl⟩ := succ_fuel hk
    rw [hs, decide_eq_false (show ¬ i < (x.length : Int) by omega), cond_false, List.drop_eq_nil_of_le (by omega)]
    exact .inr ⟨l, rfl, hl0, Int.le_refl _, fun e h => by cases h⟩
  | succ k ih =>
    intro n l i hl0 hl1 h0 h1 hd hk
    obtain ⟨n, rfl⟩ := succ_fuel hk
    have hw : IntKind.wrap .i64 (i + 1) = i + 1 := w64 (by omega) (by omega)
    rw [hs, decide_eq_true (show i < (x.length : Int) by omega), decide_eq_true h0, hw]
    simp only [cond_true, Bool.and_self]
    rcases he _ (mem_getD x d i h0 (by omega)) l hl0 hl1 with h | ⟨l', h, a0, a1, a2⟩
    · rw [h]; exact .inl rfl
    · rw [h, Option.bind_some, decide_eq_false (show ¬ l' < 0 by omega), cond_false]
      rcases ih n l' (i + 1) a0 (by omega) (by omega) (by omega) (by omega) (by omega) with h2 | ⟨l2, h2, b0, b1, b2⟩
      · exact .inl h2
      · refine .inr ⟨l2, h2, b0, by omega, fun e hm => ?_⟩
        rw [drop_getD x d i h0 (by omega)] at hm
        rcases List.mem_cons.1 hm with rfl | hm
        · exact a2
        · exact b2 e hm
theorem lt_N {x : Nat} (h : x ≤ 1048576) : x < N := Nat.lt_of_le_of_lt h (Nat.lt_trans (by omega) big)
theorem eqIntS_loop (x : List Int) (hn : x.length ≤ 1048576) (b : Bool) (d : Nat) : ∀ (n : Nat) (i : Int), 0 ≤ i → i ≤ x.length → (x.length : Int) - i = d → d < n → f_laws_eqIntS.l0 n x x b i = some (.inr b) := by
  induction d with
  | zero =>
    intro n i h0 h1 hd hk
    obtain ⟨n, rfl⟩ := succ_fuel hk
    simp only [f_laws_eqIntS.l0]
    rw [decide_eq_false (by omega), cond_false]
  | succ d ih =>
    intro n i h0 h1 hd hk
    obtain ⟨n, rfl⟩ := succ_fuel hk
    have hw : IntKind.wrap .i64 (i + 1) = i + 1 := w64 (by omega) (by omega)
    simp only [f_laws_eqIntS.l0]
    rw [decide_eq_true (show i < (x.length : Int) by omega), decide_eq_true h0, hw]
    simp only [cond_true, Bool.and_self, decide_true, Bool.not_true, cond_false]
    exact ih n (i + 1) (by omega) (by omega) (by omega) (by omega)
theorem eqIntS (x : List Int) (hn : x.length ≤ 1048576) : f_laws_eqIntS x x = some true := by
  unfold f_laws_eqIntS
  simp only [decide_true, Bool.not_true, cond_false]
  rw [eqIntS_loop x hn false x.length N 0 (by omega) (by omega) (by omega) (Nat.lt_of_le_of_lt (by omega) big)]
  rfl
theorem eqBoolS (x : List Bool) (hn : x.length ≤ 1048576) : f_laws_eqBoolS x x = some true := by
  unfold f_laws_eqBoolS
  simp only [decide_true, Bool.not_true, cond_false]
  rw [eq_gen (d := false) (F := f_laws_eqBoolS.l0) (q := fun a b => some (a == b)) (fun n x y b i => rfl) x hn (fun e _ => by simp) false x.length N 0 (by omega) (by omega) (by omega) (lt_N hn)]
  rfl
theorem eqWait_self (a : Int) (b : Bool) : f_laws_eqWait a b a b = some true := by
  unfold f_laws_eqWait
  simp
theorem eqWaitS (x : List (Int × Bool)) (hn : x.length ≤ 1048576) : f_laws_eqWaitS x x = some true := by
  unfold f_laws_eqWaitS
  simp only [decide_true, Bool.not_true, cond_false]
  rw [eq_gen (d := ((0 : Int), false)) (F := f_laws_eqWaitS.l0) (q := fun a b => f_laws_eqWait a.1 a.2 b.1 b.2) (fun n x y b i => rfl) x hn (fun e _ => eqWait_self _ _) false x.length N 0 (by omega) (by omega) (by omega) (lt_N hn)]
  rfl
theorem eqHome_self (x0 : List Int) (x1 : Int) (x2 : List Bool) (x3 : Bool) (x4 : Int) (x5 : Bool) (x6 : Int) (x7 : List (Int × Bool)) (g0 : x0.length ≤ 1048576) (g2 : x2.length ≤ 1048576) (g7 : x7.length ≤ 1048576) : f_laws_eqHome x0 x1 x2 x3 x4 x5 x6 x7 x0 x1 x2 x3 x4 x5 x6 x7 = some true := by
  unfold f_laws_eqHome
  simp only [eqIntS x0 g0, eqBoolS x2 g2, eqWaitS x7 g7, eqWait_self, decide_true, beq_self_eq_true, Bool.not_true, cond_false, Option.bind_some]
theorem getD_set_self {α : Type} (x : List α) (d e : α) (i : Int) (h0 : 0 ≤ i) (h1 : i < x.length) : (x.set i.toNat e).getD i.toNat d = e := by
  rw [List.getD_eq_getElem?_getD, List.getElem?_set_self (by omega)]; rfl
theorem getD_set_other {α : Type} (x : List α) (d e : α) (i j : Nat) (h : i ≠ j) : (x.set i e).getD j d = x.getD j d := by
  rw [List.getD_eq_getElem?_getD, List.getElem?_set_ne h, List.getD_eq_getElem?_getD]
theorem mh_loop {α : Type} {d : α} {F : Nat → Int → Int → Int → List α → Option (Int × Int × List α)} {H : Nat → List α → Int → Int → Int → Option (Int ⊕ (Int × Int))} {P : α → Prop} {M : Int} (hM : 0 ≤ M)
    (f0 : ∀ n c q i x, ¬ i < (x.length : Int) → F (n + 1) c q i x = some (c, q, x)) (g0 : ∀ n x c q i, ¬ i < (x.length : Int) → H (n + 1) x c q i = some (.inr (c, q)))
    (f1 : ∀ c e, P e → 0 ≤ c → c ≤ 1152921504606846976 → ∃ e' c', c ≤ c' ∧ c' ≤ c + M ∧ (∀ n q i (x : List α), x.length ≤ 1048576 → 0 ≤ i → i < (x.length : Int) → x.getD i.toNat d = e → F (n + 1) c q i x = F n c' q (i + 1) (x.set i.toNat e')) ∧
      ∀ n q i (x : List α), x.length ≤ 1048576 → 0 ≤ i → i < (x.length : Int) → x.getD i.toNat d = e' → H (n + 1) x c q i = H n x c' q (i + 1))
    (k : Nat) : ∀ (n m : Nat) (x : List α) (c q q' i : Int), x.length ≤ 1048576 → (∀ j : Nat, i.toNat ≤ j → j < x.length → P (x.getD j d)) → 0 ≤ c → c + M * k ≤ 1152921504606846976 → 0 ≤ i → i ≤ x.length → (x.length : Int) - i = k → k < n → k < m →
      ∃ y c', F n c q i x = some (c', q, y) ∧ y.length = x.length ∧ c ≤ c' ∧ c' ≤ c + M * k ∧ (∀ j : Nat, j < i.toNat → y.getD j d = x.getD j d) ∧ H m y c q' i = some (.inr (c', q')) := by
  induction k with
  | zero =>
    intro n m x c q q' i hx hp hc0 hc1 h0 h1 hd hn hm
    obtain ⟨n, rfl⟩ := succ_fuel hn
    obtain ⟨m, rfl⟩ := succ_fuel hm
    exact ⟨x, c, f0 n c q i x (by omega), rfl, Int.le_refl _, by omega, fun _ _ => rfl, g0 m x c q' i (by omega)⟩
  | succ k ih =>
    intro n m x c q q' i hx hp hc0 hc1 h0 h1 hd hn hm
    obtain ⟨n, rfl⟩ := succ_fuel hn
    obtain ⟨m, rfl⟩ := succ_fuel hm
    have e1 : M * ((k + 1 : Nat) : Int) = M * (k : Int) + M := by rw [Int.natCast_add, Int.mul_add]; simp
    have e2 : 0 ≤ M * (k : Int) := Int.mul_nonneg hM (by omega)
    rw [e1] at hc1 ⊢
    obtain ⟨e', c1, b1, b2, b3, b4⟩ := f1 c _ (hp i.toNat (Nat.le_refl _) (by omega)) hc0 (by omega)
    obtain ⟨y, c', h2, h3, h4, h5, h6, h7⟩ := ih n m (x.set i.toNat e') c1 q q' (i + 1) (by rw [List.length_set]; exact hx) (fun j h2 h3 => by
      rw [List.length_set] at h3
      rw [getD_set_other x d e' i.toNat j (by omega)]
      exact hp j (by omega) h3) (by omega) (by omega) (by omega) (by rw [List.length_set]; omega) (by rw [List.length_set]; omega) (by omega) (by omega)
    rw [List.length_set] at h3
    refine ⟨y, c', ?_, h3, by omega, by omega, fun j hj => ?_, ?_⟩
    · rw [b3 n q i x hx h0 (by omega) rfl]; exact h2
    · rw [h6 j (by omega)]
      exact getD_set_other x d e' i.toNat j (by omega)
    · rw [b4 m q' i y (by omega) h0 (by omega) (by rw [h6 i.toNat (by omega)]; exact getD_set_self x d e' i h0 (by omega))]
      exact h7
/-- What is marked from c on, holds what was marked. -/
theorem mh_gen {α : Type} {d : α} {F : Nat → Int → Int → Int → List α → Option (Int × Int × List α)} {H : Nat → List α → Int → Int → Int → Option (Int ⊕ (Int × Int))} {P : α → Prop} {M : Int} (hM : 0 ≤ M)
    (f0 : ∀ n c q i x, ¬ i < (x.length : Int) → F (n + 1) c q i x = some (c, q, x)) (g0 : ∀ n x c q i, ¬ i < (x.length : Int) → H (n + 1) x c q i = some (.inr (c, q)))
    (f1 : ∀ c e, P e → 0 ≤ c → c ≤ 1152921504606846976 → ∃ e' c', c ≤ c' ∧ c' ≤ c + M ∧ (∀ n q i (x : List α), x.length ≤ 1048576 → 0 ≤ i → i < (x.length : Int) → x.getD i.toNat d = e → F (n + 1) c q i x = F n c' q (i + 1) (x.set i.toNat e')) ∧
      ∀ n q i (x : List α), x.length ≤ 1048576 → 0 ≤ i → i < (x.length : Int) → x.getD i.toNat d = e' → H (n + 1) x c q i = H n x c' q (i + 1))
    (x : List α) (hx : x.length ≤ 1048576) (hp : ∀ e ∈ x, P e) (c : Int) (h0 : 0 ≤ c) (h1 : c + M * x.length ≤ 1152921504606846976) : ∃ y c', F N c 0 0 x = some (c', 0, y) ∧ y.length = x.length ∧ c ≤ c' ∧ c' ≤ c + M * x.length ∧ H N y c 0 0 = some (.inr (c', 0)) := by
  have hN : x.length < N := Nat.lt_of_le_of_lt hx (Nat.lt_trans (by omega) big)
  obtain ⟨y, c', a1, a2, a3, a4, _, a5⟩ := mh_loop (d := d) hM f0 g0 f1 x.length N N x c 0 0 0 hx (fun j _ hj => hp _ (by
    rw [List.getD_eq_getElem?_getD, List.getElem?_eq_getElem hj]
    exact List.getElem_mem hj)) h0 h1 (by omega) (by omega) (by omega) hN hN
  exact ⟨y, c', a1, a2, a3, a4, a5⟩
theorem markIntS (x : List Int) (hx : x.length ≤ 1048576) (c : Int) (h0 : 0 ≤ c) (h1 : c ≤ 1099511627776) : ∃ y c', f_laws_markIntS x c = some (c', y) ∧ y.length = x.length ∧ c ≤ c' ∧ c' ≤ c + x.length ∧ f_laws_heldIntS y c = some c' := by
  obtain ⟨y, c', a1, a2, a3, a4, a5⟩ := mh_gen (d := (0 : Int)) (F := f_laws_markIntS.l0) (H := f_laws_heldIntS.l0) (P := fun _ => True) (M := 1) (by omega)
    (fun n c q i x h => by simp only [f_laws_markIntS.l0, decide_eq_false h, cond_false]) (fun n x c q i h => by simp only [f_laws_heldIntS.l0, decide_eq_false h, cond_false])
    (fun c e _ h0 h1 => ⟨c, c + 1, by omega, by omega, fun n q i x hx hi0 hi1 _ => by
      simp only [f_laws_markIntS.l0, decide_eq_true hi1, decide_eq_true hi0, cond_true, Bool.and_self, Option.bind_some, w64 (show -9223372036854775808 ≤ c + 1 by omega) (by omega), w64 (show -9223372036854775808 ≤ i + 1 by omega) (by omega)],
      fun n q i x hx hi0 hi1 he => by
      simp only [f_laws_heldIntS.l0, decide_eq_true hi1, decide_eq_true hi0, cond_true, Bool.and_self, he, decide_true, Bool.not_true, cond_false, w64 (show -9223372036854775808 ≤ c + 1 by omega) (by omega), w64 (show -9223372036854775808 ≤ i + 1 by omega) (by omega)]⟩)
    x hx (fun _ _ => trivial) c h0 (by omega)
  refine ⟨y, c', ?_, a2, a3, by omega, ?_⟩
  · unfold f_laws_markIntS; rw [a1]; rfl
  · unfold f_laws_heldIntS; rw [a5]; rfl
theorem markBoolS (x : List Bool) (hx : x.length ≤ 1048576) (c : Int) (h0 : 0 ≤ c) (h1 : c ≤ 1099511627776) : ∃ y c', f_laws_markBoolS x c = some (c', y) ∧ y.length = x.length ∧ c ≤ c' ∧ c' ≤ c + x.length ∧ f_laws_heldBoolS y c = some c' := by
  obtain ⟨y, c', a1, a2, a3, a4, a5⟩ := mh_gen (d := false) (F := f_laws_markBoolS.l0) (H := f_laws_heldBoolS.l0) (P := fun _ => True) (M := 1) (by omega)
    (fun n c q i x h => by simp only [f_laws_markBoolS.l0, decide_eq_false h, cond_false]) (fun n x c q i h => by simp only [f_laws_heldBoolS.l0, decide_eq_false h, cond_false])
    (fun c e _ h0 h1 => ⟨decide (Int.tmod c 3 = 0), c + 1, by omega, by omega, fun n q i x hx hi0 hi1 _ => by
      simp only [f_laws_markBoolS.l0, decide_eq_true hi1, decide_eq_true hi0, cond_true, Bool.and_self, Option.bind_some, w64 (show -9223372036854775808 ≤ c + 1 by omega) (by omega), w64 (show -9223372036854775808 ≤ i + 1 by omega) (by omega)],
      fun n q i x hx hi0 hi1 he => by
      simp only [f_laws_heldBoolS.l0, decide_eq_true hi1, decide_eq_true hi0, cond_true, Bool.and_self, he, beq_self_eq_true, Bool.not_true, cond_false, w64 (show -9223372036854775808 ≤ c + 1 by omega) (by omega), w64 (show -9223372036854775808 ≤ i + 1 by omega) (by omega)]⟩)
    x hx (fun _ _ => trivial) c h0 (by omega)
  refine ⟨y, c', ?_, a2, a3, by omega, ?_⟩
  · unfold f_laws_markBoolS; rw [a1]; rfl
  · unfold f_laws_heldBoolS; rw [a5]; rfl
theorem markWaitS (x : List (Int × Bool)) (hx : x.length ≤ 1048576) (c : Int) (h0 : 0 ≤ c) (h1 : c ≤ 1099511627776) : ∃ y c', f_laws_markWaitS x c = some (c', y) ∧ y.length = x.length ∧ c ≤ c' ∧ c' ≤ c + 2 * x.length ∧ f_laws_heldWaitS y c = some c' := by
  obtain ⟨y, c', a1, a2, a3, a4, a5⟩ := mh_gen (d := ((0 : Int), false)) (F := f_laws_markWaitS.l0) (H := f_laws_heldWaitS.l0) (P := fun _ => True) (M := 2) (by omega)
    (fun n c q i x h => by simp only [f_laws_markWaitS.l0, decide_eq_false h, cond_false]) (fun n x c q i h => by simp only [f_laws_heldWaitS.l0, decide_eq_false h, cond_false])
    (fun c e _ h0 h1 => ⟨(c, decide (Int.tmod (c + 1) 3 = 0)), c + 1 + 1, by omega, by omega, fun n q i x hx hi0 hi1 _ => by
      simp only [f_laws_markWaitS.l0, decide_eq_true hi1, decide_eq_true hi0, cond_true, Bool.and_self, Option.bind_some, w64 (show -9223372036854775808 ≤ c + 1 by omega) (by omega), w64 (show -9223372036854775808 ≤ c + 1 + 1 by omega) (by omega), w64 (show -9223372036854775808 ≤ i + 1 by omega) (by omega), List.length_set, List.set_set, getD_set_self _ _ _ i hi0 hi1],
      fun n q i x hx hi0 hi1 he => by
      simp only [f_laws_heldWaitS.l0, decide_eq_true hi1, decide_eq_true hi0, cond_true, Bool.and_self, he, beq_self_eq_true, decide_true, Bool.not_true, cond_false, w64 (show -9223372036854775808 ≤ c + 1 by omega) (by omega), w64 (show -9223372036854775808 ≤ c + 1 + 1 by omega) (by omega), w64 (show -9223372036854775808 ≤ i + 1 by omega) (by omega)]⟩)
    x hx (fun _ _ => trivial) c h0 (by omega)
  refine ⟨y, c', ?_, a2, a3, by omega, ?_⟩
  · unfold f_laws_markWaitS; rw [a1]; rfl
  · unfold f_laws_heldWaitS; rw [a5]; rfl
theorem markHome (x0 : List Int) (x1 : Int) (x2 : List Bool) (x3 : Bool) (x4 : Int) (x5 : Bool) (x6 : Int) (x7 : List (Int × Bool)) (g0 : x0.length ≤ 1048576) (g2 : x2.length ≤ 1048576) (g7 : x7.length ≤ 1048576) (c : Int) (h0 : 0 ≤ c) (h1 : c ≤ 549755813888) :
    ∃ z0 z2 z7 c', f_laws_markHome x0 x1 x2 x3 x4 x5 x6 x7 c = some (c', z0, z2, z7) ∧ z0.length = x0.length ∧ z2.length = x2.length ∧ z7.length = x7.length ∧ c ≤ c' ∧ c' ≤ c + 4194304 ∧ f_laws_heldHome z0 x1 z2 x3 x4 x5 x6 z7 c = some c' := by
  obtain ⟨z0, c0, a1, a2, a3, a4, a5⟩ := markIntS x0 g0 c h0 (by omega)
  obtain ⟨z2, c2, b1, b2, b3, b4, b5⟩ := markBoolS x2 g2 c0 (by omega) (by omega)
  obtain ⟨z7, c7, d1, d2, d3, d4, d5⟩ := markWaitS x7 g7 c2 (by omega) (by omega)
  refine ⟨z0, z2, z7, c7, ?_, a2, b2, d2, by omega, by omega, ?_⟩
  · unfold f_laws_markHome
    simp only [a1, b1, d1, Option.bind_some]
  · unfold f_laws_heldHome
    simp only [a5, b5, d5, Option.bind_some, decide_eq_false (show ¬ c0 < 0 by omega), decide_eq_false (show ¬ c2 < 0 by omega), decide_eq_false (show ¬ c7 < 0 by omega), cond_false]
theorem homeNew (x0 : Int) : f_laws_FnExactHomeNew x0 = some true := by
  have hs : ∃ r, f_spec_HomeNew x0 = some r ∧ f_impl_HomeNew x0 = some r ∧ r.1.length ≤ 1048576 ∧ r.2.2.1.length ≤ 1048576 ∧ r.2.2.2.2.2.2.2.length ≤ 1048576 := by
    unfold f_spec_HomeNew f_impl_HomeNew f_spec_l1In f_impl_from
    by_cases h0 : 1 ≤ x0
    · rw [decide_eq_true h0]
      by_cases h1 : x0 ≤ 4
      · simp only [decide_eq_true h1, cond_true, Option.bind_some, Bool.not_true, cond_false, decide_eq_true (show (0 : Int) ≤ x0 by omega), show Nat.ble x0.toNat 140737488355328 = true from Nat.ble_eq_true_of_le (by omega), Bool.and_self]
        exact ⟨_, rfl, rfl, by simp, by rw [List.length_replicate]; omega, by simp⟩
      · rw [decide_eq_false h1]; exact ⟨_, rfl, rfl, by simp, by simp, by simp⟩
    · rw [decide_eq_false h0]; exact ⟨_, rfl, rfl, by simp, by simp, by simp⟩
  obtain ⟨r, h3, h4, h5, h6, h7⟩ := hs
  obtain ⟨z0, z2, z7, c, m1, m2, m3, m4, m5, m6, m7⟩ := markHome r.1 r.2.1 r.2.2.1 r.2.2.2.1 r.2.2.2.2.1 r.2.2.2.2.2.1 r.2.2.2.2.2.2.1 r.2.2.2.2.2.2.2 h5 h6 h7 1 (by omega) (by omega)
  unfold f_laws_FnExactHomeNew
  simp only [Option.bind_some, h3, h4, eqHome_self _ _ _ _ _ _ _ _ h5 h6 h7, Bool.not_true, cond_false, m1, m7, decide_eq_false (show ¬ c < 0 by omega), decide_true]
theorem plain : Pure := fun x _ => homeNew x
end Go.Abs
