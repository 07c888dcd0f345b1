/- The law FnExactFlatRun returns true for every memory, row of harts and order: the program's FlatRun gives what the reference's gives, in rows of their own, and turns nothing that it was handed. More than 2^20 words are not asked for. -/
import Derived.Test.YtimpkielhcgfdaaMFnExactFlatRun
import Derived.Laws.BitsLemmas
namespace Go.Abs
open Go.RowKit
set_option linter.unusedVariables false
set_option linter.unusedSimpArgs false

theorem w64 {n : Int} (h0 : -9223372036854775808 ≤ n) (h1 : n ≤ 9223372036854775807) : IntKind.wrap .i64 n = n := by
  rw [IntKind.wrap_i64]
  omega
theorem succ_fuel {n d : Nat} (h : d < n) : ∃ m, n = m + 1 := ⟨n - 1, by omega⟩
theorem big : (1048577 : Nat) < N := by decide
theorem mem_getD {α : Type} (x : List α) (d : α) (i : Int) (h0 : 0 ≤ i) (h1 : i < x.length) : x.getD i.toNat d ∈ x := by
  have hlt : i.toNat < x.length := by omega
  rw [List.getD_eq_getElem?_getD, List.getElem?_eq_getElem hlt]
  exact List.getElem_mem hlt
theorem drop_getD {α : Type} (x : List α) (d : α) (i : Int) (h0 : 0 ≤ i) (h1 : i < x.length) : x.drop i.toNat = x.getD i.toNat d :: x.drop (i + 1).toNat := by
  have hlt : i.toNat < x.length := by omega
  have e : (i + 1).toNat = i.toNat + 1 := by omega
  rw [e, List.drop_eq_getElem_cons hlt, List.getD_eq_getElem?_getD, List.getElem?_eq_getElem hlt]
  rfl
theorem to_gen {α : Type} {d : α} {F : Nat → List α → Int → List α → Option (List α)} {g : α → Option α}
    (hs : ∀ n x i y, F (n + 1) x i y = bif decide (i < (x.length : Int)) then (bif (decide ((0 : Int) ≤ i) && decide (i < (x.length : Int))) then (g (x.getD i.toNat d)).bind fun e => (bif (decide ((0 : Int) ≤ i) && decide (i < (y.length : Int))) then F n x (IntKind.wrap .i64 (i + 1)) (y.set i.toNat e) else none) else none) else some y)
    (x : List α) (hn : x.length ≤ 1048576) (hg : ∀ e ∈ x, g e = some e) (k : Nat) : ∀ (n : Nat) (y : List α) (i : Int), 0 ≤ i → i ≤ x.length → (x.length : Int) - i = k → k < n → y.length = x.length → y.take i.toNat = x.take i.toNat → F n x i y = some x := by
  induction k with
  | zero =>
    intro n y i h0 h1 hd hk hl ht
    obtain ⟨n, rfl⟩ := succ_fuel hk
    rw [hs, decide_eq_false (by omega), cond_false]
    rw [List.take_of_length_le (by omega), List.take_of_length_le (by omega)] at ht
    rw [ht]
  | succ k ih =>
    intro n y i h0 h1 hd hk hl ht
    obtain ⟨n, rfl⟩ := succ_fuel hk
    have hw : IntKind.wrap .i64 (i + 1) = i + 1 := w64 (by omega) (by omega)
    have hlt : i.toNat < x.length := by omega
    rw [hs, decide_eq_true (show i < (x.length : Int) by omega), decide_eq_true h0, decide_eq_true (show i < (y.length : Int) by omega), hw, hg _ (mem_getD x d i h0 (by omega))]
    simp only [cond_true, Bool.and_self, Option.bind_some]
    refine ih n _ (i + 1) (by omega) (by omega) (by omega) (by omega) (by rw [List.length_set]; exact hl) ?_
    have e : (i + 1).toNat = i.toNat + 1 := by omega
    rw [e, List.take_add_one, List.take_add_one, List.take_set, List.getElem?_set_self (by omega), List.getElem?_eq_getElem hlt]
    have : x.getD i.toNat d = x[i.toNat] := by rw [List.getD_eq_getElem?_getD, List.getElem?_eq_getElem hlt]; rfl
    rw [this, List.set_eq_of_length_le (by rw [List.length_take]; omega), ht]
theorem eq_gen {α : Type} {d : α} {F : Nat → List α → List α → Bool → Int → Option (Bool ⊕ Bool)} {q : α → α → Option Bool}
    (hs : ∀ n x y b i, F (n + 1) x y b i = bif decide (i < (x.length : Int)) then (bif (decide ((0 : Int) ≤ i) && decide (i < (x.length : Int))) then (bif (decide ((0 : Int) ≤ i) && decide (i < (y.length : Int))) then (q (x.getD i.toNat d) (y.getD i.toNat d)).bind fun r => (bif (!r) then some (.inl false) else F n x y b (IntKind.wrap .i64 (i + 1))) else none) else none) else some (.inr b))
    (x : List α) (hn : x.length ≤ 1048576) (hq : ∀ e ∈ x, q e e = some true) (b : Bool) (k : Nat) : ∀ (n : Nat) (i : Int), 0 ≤ i → i ≤ x.length → (x.length : Int) - i = k → k < n → F n x x b i = some (.inr b) := by
  induction k with
  | zero =>
    intro n i h0 h1 hd hk
    obtain ⟨n, rfl⟩ := succ_fuel hk
    rw [hs, decide_eq_false (by omega), cond_false]
  | succ k ih =>
    intro n i h0 h1 hd hk
    obtain ⟨n, rfl⟩ := succ_fuel hk
    have hw : IntKind.wrap .i64 (i + 1) = i + 1 := w64 (by omega) (by omega)
    rw [hs, decide_eq_true (show i < (x.length : Int) by omega), decide_eq_true h0, hw, hq _ (mem_getD x d i h0 (by omega))]
    simp only [cond_true, Bool.and_self, Option.bind_some, Bool.not_true, cond_false]
    exact ih n (i + 1) (by omega) (by omega) (by omega) (by omega)
theorem sz_gen {α : Type} {d : α} {F : Nat → List α → Int → Int → Int → Option (Int ⊕ (Int × Int))} {s : α → Int → Option Int} {Ok : α → Prop}
    (hs : ∀ n x l q i, F (n + 1) x l q i = bif decide (i < (x.length : Int)) then (bif (decide ((0 : Int) ≤ i) && decide (i < (x.length : Int))) then (s (x.getD i.toNat d) l).bind fun r => (bif decide (r < 0) then some (.inl (-1)) else F n x r q (IntKind.wrap .i64 (i + 1))) else none) else some (.inr (l, q)))
    (x : List α) (hn : x.length ≤ 1048576) (he : ∀ e ∈ x, ∀ l, 0 ≤ l → l ≤ 1048576 → s e l = some (-1) ∨ ∃ l', s e l = some l' ∧ 0 ≤ l' ∧ l' ≤ l ∧ Ok e) (q : Int) (k : Nat) :
    ∀ (n : Nat) (l i : Int), 0 ≤ l → l ≤ 1048576 → 0 ≤ i → i ≤ x.length → (x.length : Int) - i = k → k < n → F n x l q i = some (.inl (-1)) ∨ ∃ l', F n x l q i = some (.inr (l', q)) ∧ 0 ≤ l' ∧ l' ≤ l ∧ ∀ e ∈ x.drop i.toNat, Ok e := by
  induction k with
  | zero =>
    intro n l i hl0 hl1 h0 h1 hd hk
    obtain ⟨n, rfl⟩ := succ_fuel hk
    rw [hs, decide_eq_false (show ¬ i < (x.length : Int) by omega), cond_false, List.drop_eq_nil_of_le (by omega)]
    exact .inr ⟨l, rfl, hl0, Int.le_refl _, fun e h => by cases h⟩
  | succ k ih =>
    intro n l i hl0 hl1 h0 h1 hd hk
    obtain ⟨n, rfl⟩ := succ_fuel hk
    have hw : IntKind.wrap .i64 (i + 1) = i + 1 := w64 (by omega) (by omega)
    rw [hs, decide_eq_true (show i < (x.length : Int) by omega), decide_eq_true h0, hw]
    simp only [cond_true, Bool.and_self]
    rcases he _ (mem_getD x d i h0 (by omega)) l hl0 hl1 with h | ⟨l', h, a0, a1, a2⟩
    · rw [h]; exact .inl rfl
    · rw [h, Option.bind_some, decide_eq_false (show ¬ l' < 0 by omega), cond_false]
      rcases ih n l' (i + 1) a0 (by omega) (by omega) (by omega) (by omega) (by omega) with h2 | ⟨l2, h2, b0, b1, b2⟩
      · exact .inl h2
      · refine .inr ⟨l2, h2, b0, by omega, fun e hm => ?_⟩
        rw [drop_getD x d i h0 (by omega)] at hm
        rcases List.mem_cons.1 hm with rfl | hm
        · exact a2
        · exact b2 e hm
theorem lt_N {x : Nat} (h : x ≤ 1048576) : x < N := Nat.lt_of_le_of_lt h (Nat.lt_trans (by omega) big)
theorem all_getD {α : Type} {x : List α} {d : α} {Pr : α → Prop} (h : ∀ i, i < x.length → Pr (x.getD i d)) : ∀ e ∈ x, Pr e := by
  intro e he
  obtain ⟨i, hi, rfl⟩ := List.getElem_of_mem he
  have := h i hi
  rw [List.getD_eq_getElem?_getD, List.getElem?_eq_getElem hi] at this
  exact this
def rng (x m : Int) : Bool := decide ((0 : Int) ≤ x) && decide (x ≤ m)
theorem in_rng (x m : Int) : f_spec_l1In x 0 m = some (rng x m) := by
  unfold f_spec_l1In rng
  cases decide ((0 : Int) ≤ x) <;> rfl
theorem from_rng (x m : Int) : f_impl_from x 0 m = some (rng x m) := by
  unfold f_impl_from rng
  cases decide ((0 : Int) ≤ x) <;> rfl
theorem field_eq (x m : Int) (h : Bool) : f_spec_l8Field x m h = some (rng x m && (h || decide (x = 0))) := by
  unfold f_spec_l8Field
  rw [in_rng]
  simp only [Option.bind_some]
  cases rng x m <;> cases h <;> rfl
theorem chain (a b c d : Bool) : (bif a then (bif b then (bif c then some d else some false) else some false) else some false) = some (a && (b && (c && d))) := by
  cases a <;> cases b <;> cases c <;> rfl
/-- What the reference says of an instruction with these letters. -/
theorem spec_ins (x0 x1 x2 x3 x4 m : Int) (h1 h2 h3 h4 : Bool) (hm : f_spec_l8Has x0 = some m) (hin : f_spec_l1In x0 1 10 = some true)
    (b1 : (!(decide (bitI .and .i64 m (1 : Int) = (0 : Int)))) = h1) (b2 : (!(decide (bitI .and .i64 m (2 : Int) = (0 : Int)))) = h2) (b3 : (!(decide (bitI .and .i64 m (4 : Int) = (0 : Int)))) = h3) (b4 : (!(decide (bitI .and .i64 m (8 : Int) = (0 : Int)))) = h4) :
    f_spec_InsOk x0 x1 x2 x3 x4 = some ((rng x1 3 && (h1 || decide (x1 = 0))) && ((rng x2 3 && (h2 || decide (x2 = 0))) && ((rng x3 3 && (h3 || decide (x3 = 0))) && (rng x4 63 && (h4 || decide (x4 = 0)))))) := by
  unfold f_spec_InsOk
  simp only [hm, hin, Option.bind_some, b1, b2, b3, b4, field_eq, cond_true]
  rw [← chain]
theorem impl_ins (x0 x1 x2 x3 x4 r a b n : Int) (s : ByteArray) (hf : f_impl_form x0 = some (s, true))
    (hl : f_impl_InsOk.l0 N false s true (s.size : Int) 0 x0 x1 x2 x3 x4 x0 0 0 0 0 = some (false, true, x0, x1, x2, x3, x4, x0, r, a, b, n)) :
    f_impl_InsOk x0 x1 x2 x3 x4 = some ((decide (r = x1) && (decide (a = x2) && (decide (b = x3) && decide (n = x4)))) && (rng x1 3 && (rng x2 3 && (rng x3 3 && rng x4 63)))) := by
  unfold f_impl_InsOk
  simp only [hf, Option.bind_some, hl, cond_true, decide_true, Bool.true_and, from_rng]
  rw [chain]
  cases (decide (r = x1) && (decide (a = x2) && (decide (b = x3) && decide (n = x4)))) <;> rfl
theorem sym (x : Int) : decide ((0 : Int) = x) = decide (x = 0) := by
  by_cases h : x = 0
  · subst h; rfl
  · rw [decide_eq_false h, decide_eq_false (fun e => h e.symm)]
theorem alg : ∀ a b c d e f g h : Bool, ((a && (true || e)) && ((b && (true || f)) && ((c && (true || g)) && (d && (true || h))))) = ((true && (true && (true && true))) && (a && (b && (c && d)))) := by decide

theorem same_ins (x0 x1 x2 x3 x4 : Int) : ∃ b, f_spec_InsOk x0 x1 x2 x3 x4 = some b ∧ f_impl_InsOk x0 x1 x2 x3 x4 = some b := by
  obtain ⟨k, hk⟩ : ∃ k : Nat, N = k + 6 := ⟨1152921504606846970, rfl⟩
  by_cases hin : (1 : Int) ≤ x0 ∧ x0 ≤ 10
  · have hi : f_spec_l1In x0 1 10 = some true := by unfold f_spec_l1In; rw [decide_eq_true hin.1, decide_eq_true hin.2]; rfl
    have : x0 = 1 ∨ x0 = 2 ∨ x0 = 3 ∨ x0 = 4 ∨ x0 = 5 ∨ x0 = 6 ∨ x0 = 7 ∨ x0 = 8 ∨ x0 = 9 ∨ x0 = 10 := by omega
    rcases this with rfl | rfl | rfl | rfl | rfl | rfl | rfl | rfl | rfl | rfl
    · refine ⟨_, spec_ins 1 x1 x2 x3 x4 9 true false false true rfl hi (by decide) (by decide) (by decide) (by decide), ?_⟩
      rw [impl_ins 1 x1 x2 x3 x4 x1 0 0 x4 ⟨#[82, 78]⟩ rfl (by rw [hk]; rfl)]
      simp only [decide_true, sym]
      cases rng x1 3 <;> cases rng x2 3 <;> cases rng x3 3 <;> cases rng x4 63 <;> cases decide (x2 = 0) <;> cases decide (x3 = 0) <;> simp
    · refine ⟨_, spec_ins 2 x1 x2 x3 x4 7 true true true false rfl hi (by decide) (by decide) (by decide) (by decide), ?_⟩
      rw [impl_ins 2 x1 x2 x3 x4 x1 x2 x3 0 ⟨#[82, 65, 66]⟩ rfl (by rw [hk]; rfl)]
      simp only [decide_true, sym]
      cases rng x1 3 <;> cases rng x2 3 <;> cases rng x3 3 <;> cases rng x4 63 <;> cases decide (x4 = 0) <;> simp
    · refine ⟨_, spec_ins 3 x1 x2 x3 x4 11 true true false true rfl hi (by decide) (by decide) (by decide) (by decide), ?_⟩
      rw [impl_ins 3 x1 x2 x3 x4 x1 x2 0 x4 ⟨#[82, 65, 78]⟩ rfl (by rw [hk]; rfl)]
      simp only [decide_true, sym]
      cases rng x1 3 <;> cases rng x2 3 <;> cases rng x3 3 <;> cases rng x4 63 <;> cases decide (x3 = 0) <;> simp
    · refine ⟨_, spec_ins 4 x1 x2 x3 x4 11 true true false true rfl hi (by decide) (by decide) (by decide) (by decide), ?_⟩
      rw [impl_ins 4 x1 x2 x3 x4 x1 x2 0 x4 ⟨#[82, 65, 78]⟩ rfl (by rw [hk]; rfl)]
      simp only [decide_true, sym]
      cases rng x1 3 <;> cases rng x2 3 <;> cases rng x3 3 <;> cases rng x4 63 <;> cases decide (x3 = 0) <;> simp
    · refine ⟨_, spec_ins 5 x1 x2 x3 x4 14 false true true true rfl hi (by decide) (by decide) (by decide) (by decide), ?_⟩
      rw [impl_ins 5 x1 x2 x3 x4 0 x2 x3 x4 ⟨#[65, 66, 78]⟩ rfl (by rw [hk]; rfl)]
      simp only [decide_true, sym]
      cases rng x1 3 <;> cases rng x2 3 <;> cases rng x3 3 <;> cases rng x4 63 <;> cases decide (x1 = 0) <;> simp
    · refine ⟨_, spec_ins 6 x1 x2 x3 x4 15 true true true true rfl hi (by decide) (by decide) (by decide) (by decide), ?_⟩
      rw [impl_ins 6 x1 x2 x3 x4 x1 x2 x3 x4 ⟨#[82, 65, 66, 78]⟩ rfl (by rw [hk]; rfl)]
      simp only [decide_true]
      cases rng x1 3 <;> cases rng x2 3 <;> cases rng x3 3 <;> cases rng x4 63 <;> simp
    · refine ⟨_, spec_ins 7 x1 x2 x3 x4 10 false true false true rfl hi (by decide) (by decide) (by decide) (by decide), ?_⟩
      rw [impl_ins 7 x1 x2 x3 x4 0 x2 0 x4 ⟨#[65, 78]⟩ rfl (by rw [hk]; rfl)]
      simp only [decide_true, sym]
      cases rng x1 3 <;> cases rng x2 3 <;> cases rng x3 3 <;> cases rng x4 63 <;> cases decide (x1 = 0) <;> cases decide (x3 = 0) <;> simp
    · refine ⟨_, spec_ins 8 x1 x2 x3 x4 8 false false false true rfl hi (by decide) (by decide) (by decide) (by decide), ?_⟩
      rw [impl_ins 8 x1 x2 x3 x4 0 0 0 x4 ⟨#[78]⟩ rfl (by rw [hk]; rfl)]
      simp only [decide_true, sym]
      cases rng x1 3 <;> cases rng x2 3 <;> cases rng x3 3 <;> cases rng x4 63 <;> cases decide (x1 = 0) <;> cases decide (x2 = 0) <;> cases decide (x3 = 0) <;> simp
    · refine ⟨_, spec_ins 9 x1 x2 x3 x4 0 false false false false rfl hi (by decide) (by decide) (by decide) (by decide), ?_⟩
      rw [impl_ins 9 x1 x2 x3 x4 0 0 0 0 ⟨#[]⟩ rfl (by rw [hk]; rfl)]
      simp only [sym]
      cases rng x1 3 <;> cases rng x2 3 <;> cases rng x3 3 <;> cases rng x4 63 <;> cases decide (x1 = 0) <;> cases decide (x2 = 0) <;> cases decide (x3 = 0) <;> cases decide (x4 = 0) <;> simp
    · refine ⟨_, spec_ins 10 x1 x2 x3 x4 7 true true true false rfl hi (by decide) (by decide) (by decide) (by decide), ?_⟩
      rw [impl_ins 10 x1 x2 x3 x4 x1 x2 x3 0 ⟨#[82, 65, 66]⟩ rfl (by rw [hk]; rfl)]
      simp only [decide_true, sym]
      cases rng x1 3 <;> cases rng x2 3 <;> cases rng x3 3 <;> cases rng x4 63 <;> cases decide (x4 = 0) <;> simp
  · refine ⟨false, ?_, ?_⟩
    · have hi : f_spec_l1In x0 1 10 = some false := by
        unfold f_spec_l1In
        by_cases h1 : (1 : Int) ≤ x0
        · rw [decide_eq_true h1, decide_eq_false (fun h => hin ⟨h1, h⟩)]; rfl
        · rw [decide_eq_false h1]; rfl
      unfold f_spec_InsOk f_spec_l8Has
      simp only [hi, Option.bind_some, Bool.not_false, cond_true, cond_false]
    · have hf : f_impl_form x0 = some (⟨#[]⟩, false) := by
        unfold f_impl_form
        rw [decide_eq_false (by omega), decide_eq_false (by omega), decide_eq_false (by omega), decide_eq_false (by omega), decide_eq_false (by omega), decide_eq_false (by omega), decide_eq_false (by omega), decide_eq_false (by omega), decide_eq_false (by omega), decide_eq_false (by omega)]
        rfl
      have hl : f_impl_InsOk.l0 N false ⟨#[]⟩ false ((⟨#[]⟩ : ByteArray).size : Int) 0 x0 x1 x2 x3 x4 x0 0 0 0 0 = some (false, false, x0, x1, x2, x3, x4, x0, 0, 0, 0, 0) := by rw [hk]; rfl
      unfold f_impl_InsOk
      simp only [hf, Option.bind_some, hl, cond_false]

theorem szIntS (x : List Int) (left : Int) (h0 : 0 ≤ left) (h1 : left ≤ 1048576) (hx : x.length ≤ 9223372036854775807) :
    (f_laws_szIntS x left = some (-1)) ∨ (f_laws_szIntS x left = some (left - x.length) ∧ (x.length : Int) ≤ left) := by
  unfold f_laws_szIntS
  rw [w64 (by omega) (by omega)]
  by_cases h : left - (x.length : Int) < 0
  · rw [decide_eq_true h]; exact .inl rfl
  · rw [decide_eq_false h]; exact .inr ⟨rfl, by omega⟩
theorem toIntS_loop (x : List Int) (hn : x.length ≤ 1048576) (d : Nat) : ∀ (n : Nat) (y : List Int) (i : Int), 0 ≤ i → i ≤ x.length → (x.length : Int) - i = d → d < n → y.length = x.length → y.take i.toNat = x.take i.toNat → f_laws_toIntS.l0 n x i y = some x := by
  induction d with
  | zero =>
    intro n y i h0 h1 hd hk hl ht
    obtain ⟨n, rfl⟩ := succ_fuel hk
    simp only [f_laws_toIntS.l0]
    rw [decide_eq_false (by omega), cond_false]
    rw [List.take_of_length_le (by omega), List.take_of_length_le (by omega)] at ht
    rw [ht]
  | succ d ih =>
    intro n y i h0 h1 hd hk hl ht
    obtain ⟨n, rfl⟩ := succ_fuel hk
    have hw : IntKind.wrap .i64 (i + 1) = i + 1 := w64 (by omega) (by omega)
    have hlt : i.toNat < x.length := by omega
    simp only [f_laws_toIntS.l0]
    rw [decide_eq_true (show i < (x.length : Int) by omega), decide_eq_true h0, decide_eq_true (show i < (y.length : Int) by omega), hw]
    simp only [cond_true, Bool.and_self, Option.bind_some]
    refine ih n _ (i + 1) (by omega) (by omega) (by omega) (by omega) (by rw [List.length_set]; exact hl) ?_
    have e : (i + 1).toNat = i.toNat + 1 := by omega
    rw [e, List.take_add_one, List.take_add_one, List.take_set, List.getElem?_set_self (by omega), List.getElem?_eq_getElem hlt]
    have : x.getD i.toNat 0 = x[i.toNat] := by rw [List.getD_eq_getElem?_getD, List.getElem?_eq_getElem hlt]; rfl
    rw [this, List.set_eq_of_length_le (by rw [List.length_take]; omega), ht]
theorem toIntS (x : List Int) (hn : x.length ≤ 1048576) : f_laws_toIntS x = some x := by
  unfold f_laws_toIntS
  rw [decide_eq_true (by omega), show Nat.ble ((x.length : Int).toNat) 17592186044416 = true from Nat.ble_eq_true_of_le (by omega)]
  simp only [Bool.and_self, cond_true]
  rw [toIntS_loop x hn x.length N _ 0 (by omega) (by omega) (by omega) (Nat.lt_of_le_of_lt (by omega) big) (by simp) (by simp)]
  rfl
theorem eqIntS_loop (x : List Int) (hn : x.length ≤ 1048576) (b : Bool) (d : Nat) : ∀ (n : Nat) (i : Int), 0 ≤ i → i ≤ x.length → (x.length : Int) - i = d → d < n → f_laws_eqIntS.l0 n x x b i = some (.inr b) := by
  induction d with
  | zero =>
    intro n i h0 h1 hd hk
    obtain ⟨n, rfl⟩ := succ_fuel hk
    simp only [f_laws_eqIntS.l0]
    rw [decide_eq_false (by omega), cond_false]
  | succ d ih =>
    intro n i h0 h1 hd hk
    obtain ⟨n, rfl⟩ := succ_fuel hk
    have hw : IntKind.wrap .i64 (i + 1) = i + 1 := w64 (by omega) (by omega)
    simp only [f_laws_eqIntS.l0]
    rw [decide_eq_true (show i < (x.length : Int) by omega), decide_eq_true h0, hw]
    simp only [cond_true, Bool.and_self, decide_true, Bool.not_true, cond_false]
    exact ih n (i + 1) (by omega) (by omega) (by omega) (by omega)
theorem eqIntS (x : List Int) (hn : x.length ≤ 1048576) : f_laws_eqIntS x x = some true := by
  unfold f_laws_eqIntS
  simp only [decide_true, Bool.not_true, cond_false]
  rw [eqIntS_loop x hn false x.length N 0 (by omega) (by omega) (by omega) (Nat.lt_of_le_of_lt (by omega) big)]
  rfl
def allW (x : List Int) : Bool := x.all fun w => rng w 65535
theorem drop_step (x : List Int) (i : Int) (h0 : 0 ≤ i) (h1 : i < x.length) : x.drop i.toNat = x.getD i.toNat 0 :: x.drop (i + 1).toNat := by
  have hlt : i.toNat < x.length := by omega
  have e : (i + 1).toNat = i.toNat + 1 := by omega
  rw [e, List.drop_eq_getElem_cons hlt, List.getD_eq_getElem?_getD, List.getElem?_eq_getElem hlt]
  rfl
theorem specWords_loop (x : List Int) (hn : x.length ≤ 1048576) (k : Int) (b : Bool) (d : Nat) : ∀ (n : Nat) (i : Int), 0 ≤ i → i ≤ x.length → (x.length : Int) - i = d → d < n →
    f_spec_l1Words.l0 n x k b i = some (bif allW (x.drop i.toNat) then .inr (x, k, b) else .inl false) := by
  induction d with
  | zero =>
    intro n i h0 h1 hd hk
    obtain ⟨n, rfl⟩ := succ_fuel hk
    simp only [f_spec_l1Words.l0]
    rw [decide_eq_false (by omega), cond_false, List.drop_eq_nil_of_le (by omega)]
    rfl
  | succ d ih =>
    intro n i h0 h1 hd hk
    obtain ⟨n, rfl⟩ := succ_fuel hk
    have hw : IntKind.wrap .i64 (i + 1) = i + 1 := w64 (by omega) (by omega)
    simp only [f_spec_l1Words.l0]
    rw [decide_eq_true (show i < (x.length : Int) by omega), decide_eq_true h0, hw, in_rng, drop_step x i h0 (by omega)]
    simp only [cond_true, Bool.and_self, Option.bind_some]
    unfold allW
    rw [List.all_cons]
    cases hr : rng (x.getD i.toNat 0) 65535 with
    | false => rfl
    | true =>
      simp only [Bool.not_true, cond_false, Bool.true_and]
      exact ih n (i + 1) (by omega) (by omega) (by omega) (by omega)
theorem specWords (x : List Int) (hn : x.length ≤ 1048576) (k : Int) : f_spec_l1Words x k = some (allW x && decide ((x.length : Int) = k)) := by
  unfold f_spec_l1Words
  rw [specWords_loop x hn k false x.length N 0 (by omega) (by omega) (by omega) (Nat.lt_of_le_of_lt (by omega) big)]
  simp only [Int.toNat_zero, List.drop_zero, Option.bind_some]
  cases allW x <;> rfl
theorem implWords_loop (x : List Int) (hn : x.length ≤ 1048576) (q : Int) (d : Nat) : ∀ (n : Nat) (i : Int), 0 ≤ i → i ≤ x.length → (x.length : Int) - i = d → d < n →
    (allW (x.drop i.toNat) = true ∧ f_impl_wordsOk.l0 n x q (x.length : Int) i = some (.inr q)) ∨ (allW (x.drop i.toNat) = false ∧ ∃ j : Int, 0 ≤ j ∧ f_impl_wordsOk.l0 n x q (x.length : Int) i = some (.inl j)) := by
  induction d with
  | zero =>
    intro n i h0 h1 hd hk
    obtain ⟨n, rfl⟩ := succ_fuel hk
    simp only [f_impl_wordsOk.l0]
    rw [decide_eq_false (show ¬ i < (x.length : Int) by omega), cond_false, List.drop_eq_nil_of_le (by omega)]
    exact .inl ⟨rfl, rfl⟩
  | succ d ih =>
    intro n i h0 h1 hd hk
    obtain ⟨n, rfl⟩ := succ_fuel hk
    have hw : IntKind.wrap .i64 (i + 1) = i + 1 := w64 (by omega) (by omega)
    have ih2 := ih n (i + 1) (by omega) (by omega) (by omega) (by omega)
    simp only [f_impl_wordsOk.l0]
    rw [decide_eq_true (show i < (x.length : Int) by omega), decide_eq_true h0, hw, drop_step x i h0 (by omega)]
    unfold f_impl_wordsOk_1 f_impl_isWord
    simp only [cond_true, Bool.and_self, from_rng, Option.bind_some]
    unfold allW at ih2 ⊢
    rw [List.all_cons]
    cases hr : rng (x.getD i.toNat 0) 65535 with
    | false => exact .inr ⟨rfl, i, h0, rfl⟩
    | true =>
      simp only [Bool.not_true, cond_false, Bool.true_and]
      exact ih2
theorem implWords (x : List Int) (hn : x.length ≤ 1048576) (k : Int) : f_impl_wordsOk x k = some (allW x && decide ((x.length : Int) = k)) := by
  unfold f_impl_wordsOk
  have h := implWords_loop x hn 0 x.length N 0 (by omega) (by omega) (by omega) (Nat.lt_of_le_of_lt (by omega) big)
  simp only [Int.toNat_zero, List.drop_zero] at h
  cases decide ((x.length : Int) = k) with
  | false => simp
  | true =>
    rcases h with ⟨h1, h2⟩ | ⟨h1, j, h3, h2⟩
    · simp only [cond_true, h2, Option.bind_some, h1, Bool.and_true]; rfl
    · simp only [cond_true, h2, Option.bind_some, h1, Bool.and_true]
      show some (!(decide ((0 : Int) ≤ j))) = some false
      rw [decide_eq_true h3]; rfl
theorem same_addr (a0 : Int) : f_impl_address a0 = f_spec_l9Address a0 := by
  unfold f_impl_address f_spec_l9Address
  have h1 : -24 < Int.tmod a0 24 := by
    have := Int.tmod_lt_of_pos (-a0) (b := 24) (by omega)
    rw [Int.neg_tmod] at this
    omega
  have h2 : Int.tmod a0 24 < 24 := Int.tmod_lt_of_pos a0 (by omega)
  generalize Int.tmod a0 24 = m at *
  rw [w64 (by omega) (by omega), Int.tmod_eq_emod_of_nonneg (by omega)]
  by_cases hm : m < 0
  · rw [decide_eq_true hm, cond_true]
    congr 1
    omega
  · rw [decide_eq_false hm, cond_false]
    congr 1
    omega
theorem addr_some (a0 : Int) : ∃ r, f_spec_l9Address a0 = some r := by
  unfold f_spec_l9Address
  cases decide (Int.tmod a0 24 < 0) <;> exact ⟨_, rfl⟩
theorem same_decode (x0 : Int) : ∃ r, f_spec_Decode x0 = some r ∧ f_impl_Decode x0 = some r := by
  obtain ⟨b, h1, h2⟩ := same_ins (Int.tmod x0 (16 : Int)) (Int.tmod (IntKind.wrap .i64 (Int.tdiv x0 (16 : Int))) (4 : Int)) (Int.tmod (IntKind.wrap .i64 (Int.tdiv x0 (64 : Int))) (4 : Int)) (Int.tmod (IntKind.wrap .i64 (Int.tdiv x0 (256 : Int))) (4 : Int)) (IntKind.wrap .i64 (Int.tdiv x0 (1024 : Int)))
  unfold f_spec_Decode f_impl_Decode f_impl_isWord
  simp only [in_rng, from_rng, Option.bind_some, h1, h2]
  cases rng x0 65535 <;> cases b <;> exact ⟨_, rfl, rfl⟩
theorem and16 (n : Int) : bitI .and .i64 n 65535 = n % 65536 := by
  have h : (BitVec.ofInt 64 n &&& BitVec.ofInt 64 65535).toNat = (n % 18446744073709551616).toNat % 65536 := by
    rw [BitVec.toNat_and, BitVec.toNat_ofInt]
    show (n % 18446744073709551616).toNat &&& (2 ^ 16 - 1) = _
    rw [Nat.and_two_pow_sub_one_eq_mod]
  show IntKind.wrap .i64 ((BitVec.ofInt 64 n &&& BitVec.ofInt 64 65535).toNat : Int) = _
  rw [h, w64 (by omega) (by omega)]
  omega
theorem same_wrapped (n : Int) : f_impl_wrapped n = f_spec_l9Word n := by
  unfold f_impl_wrapped f_spec_l9Word
  rw [and16]
  have h1 : -65536 < Int.tmod n 65536 := by
    have := Int.tmod_lt_of_pos (-n) (b := 65536) (by omega)
    rw [Int.neg_tmod] at this
    omega
  have h2 : Int.tmod n 65536 < 65536 := Int.tmod_lt_of_pos n (by omega)
  have h3 : Int.tmod n 65536 % 65536 = n % 65536 := by
    have := Int.mul_tdiv_add_tmod n 65536
    omega
  generalize Int.tmod n 65536 = m at *
  rw [w64 (show -9223372036854775808 ≤ m + 65535 by omega) (by omega), w64 (by omega) (by omega), Int.tmod_eq_emod_of_nonneg (by omega)]
  congr 1
  omega
theorem word_some (n : Int) : ∃ r, f_spec_l9Word n = some r := ⟨_, rfl⟩
theorem hartSize (x0 : List Int) (x1 x2 : Int) (left : Int) (h0 : 0 ≤ left) (h1 : left ≤ 1048576) (hx : x0.length ≤ 9223372036854775807) :
    (f_laws_szHart x0 x1 x2 left = some (-1)) ∨ (f_laws_szHart x0 x1 x2 left = some (left - x0.length) ∧ (x0.length : Int) ≤ left) := by
  unfold f_laws_szHart
  rcases szIntS x0 left h0 h1 hx with h | ⟨h, hl⟩
  · simp only [h, Option.bind_some]; exact .inl rfl
  · simp only [h, Option.bind_some]
    rw [decide_eq_false (by omega)]
    exact .inr ⟨rfl, hl⟩
theorem toHart_self (x0 : List Int) (x1 x2 : Int) (hn : x0.length ≤ 1048576) : f_laws_toHart x0 x1 x2 = some (x0, x1, x2) := by
  unfold f_laws_toHart
  simp only [toIntS x0 hn, Option.bind_some]
theorem eqHart_self (x0 : List Int) (x1 x2 : Int) (hn : x0.length ≤ 1048576) : f_laws_eqHart x0 x1 x2 x0 x1 x2 = some true := by
  unfold f_laws_eqHart
  simp only [eqIntS x0 hn, Option.bind_some, Bool.not_true, cond_false, decide_true]
theorem same_hartOk (x0 : List Int) (x1 x2 : Int) (hn : x0.length ≤ 1048576) : ∃ b, f_spec_HartOk x0 x1 x2 = some b ∧ f_impl_HartOk x0 x1 x2 = some b ∧ (b = true → x0.length = 4 ∧ 0 ≤ x1 ∧ x1 ≤ 23 ∧ allW x0 = true) := by
  unfold f_spec_HartOk f_impl_HartOk f_impl_isCell
  simp only [specWords x0 hn, implWords x0 hn, in_rng, from_rng, Option.bind_some]
  by_cases h4 : (x0.length : Int) = 4
  · rw [decide_eq_true h4]
    cases hw : allW x0 with
    | false => exact ⟨_, rfl, rfl, fun h => by cases h⟩
    | true =>
      cases h1 : rng x1 23 with
      | false => exact ⟨_, rfl, rfl, fun h => by cases h⟩
      | true =>
        refine ⟨_, rfl, rfl, fun _ => ⟨by omega, ?_⟩⟩
        unfold rng at h1
        simp only [Bool.and_eq_true, decide_eq_true_eq] at h1
        exact ⟨h1.1, h1.2, rfl⟩
  · rw [decide_eq_false h4, Bool.and_false]
    exact ⟨_, rfl, rfl, fun h => by cases h⟩
theorem has_some (x0 : Int) : ∃ m c, f_spec_l8Has x0 = some m ∧ f_spec_l1In x0 1 10 = some c := by
  unfold f_spec_l8Has
  by_cases h1 : (1 : Int) ≤ x0 ∧ x0 ≤ 10
  · have : f_spec_l1In x0 1 10 = some true := by unfold f_spec_l1In; rw [decide_eq_true h1.1, decide_eq_true h1.2]; rfl
    simp only [this, Option.bind_some, Bool.not_true, cond_false]
    rw [decide_eq_true (show (0 : Int) ≤ x0 by omega), decide_eq_true (show x0 < (([0, 9, 7, 11, 11, 14, 15, 10, 8, 0, 7] : List Int).length : Int) by show x0 < 11; omega)]
    exact ⟨_, _, rfl, rfl⟩
  · have : f_spec_l1In x0 1 10 = some false := by
      unfold f_spec_l1In
      by_cases h2 : (1 : Int) ≤ x0
      · rw [decide_eq_true h2, decide_eq_false (fun h => h1 ⟨h2, h⟩)]; rfl
      · rw [decide_eq_false h2]; rfl
    simp only [this, Option.bind_some, Bool.not_false, cond_true]
    exact ⟨_, _, rfl, rfl⟩
/-- An instruction that is right has its places in range. -/
theorem ins_all (x0 x1 x2 x3 x4 : Int) (h : f_spec_InsOk x0 x1 x2 x3 x4 = some true) : (0 ≤ x1 ∧ x1 ≤ 3) ∧ (0 ≤ x2 ∧ x2 ≤ 3) ∧ (0 ≤ x3 ∧ x3 ≤ 3) ∧ (0 ≤ x4 ∧ x4 ≤ 63) := by
  have key : rng x1 3 = true ∧ rng x2 3 = true ∧ rng x3 3 = true ∧ rng x4 63 = true := by
    unfold f_spec_InsOk at h
    obtain ⟨m, c, hm, hc⟩ := has_some x0
    simp only [hm, hc, Option.bind_some, field_eq] at h
    cases c with
    | false => simp at h
    | true =>
      simp only [cond_true] at h
      cases a1 : rng x1 3 <;> cases a2 : rng x2 3 <;> cases a3 : rng x3 3 <;> cases a4 : rng x4 63 <;> simp [a1, a2, a3, a4] at h ⊢
  unfold rng at key
  simpa using key
theorem at3 (x : List Int) (i : Int) (hl : x.length = 4) (h : 0 ≤ i ∧ i ≤ 3) : (decide ((0 : Int) ≤ i) && decide (i < (x.length : Int))) = true := by
  rw [decide_eq_true h.1, decide_eq_true (by omega)]; rfl
theorem allW_mem (x : List Int) : allW x = true ↔ ∀ w ∈ x, 0 ≤ w ∧ w ≤ 65535 := by
  unfold allW rng
  rw [List.all_eq_true]
  constructor
  · intro h w hw; have := h w hw; simpa using this
  · intro h w hw; have := h w hw; simpa using this
theorem word_le (x : List Int) (h : allW x = true) (i : Int) : x.getD i.toNat 0 ≤ 65535 := by
  rcases Nat.lt_or_ge i.toNat x.length with hl | hl
  · rw [List.getD_eq_getElem?_getD, List.getElem?_eq_getElem hl]
    exact ((allW_mem x).1 h _ (List.getElem_mem hl)).2
  · rw [List.getD_eq_getElem?_getD, List.getElem?_eq_none hl]
    show (0 : Int) ≤ 65535
    omega
theorem same_work (x0 : List Int) (x1 x2 x3 x4 x5 x6 x7 x8 : Int) (hn : x0.length ≤ 1048576) :
    ∃ r, f_spec_Work x0 x1 x2 x3 x4 x5 x6 x7 x8 = some r ∧ f_impl_Work x0 x1 x2 x3 x4 x5 x6 x7 x8 = some r ∧ r.1.length ≤ 1048576 ∧ r.2.2.2 ≤ 65535 ∧ (r.2.2.2 < 0 ∨ (f_spec_InsOk x3 x4 x5 x6 x7 = some true ∧ x0.length = 4 ∧ (x3 = 5 ∨ x3 = 6))) := by
  obtain ⟨b, h1, h2, h3⟩ := same_hartOk x0 x1 x2 hn
  obtain ⟨b', k1, k2⟩ := same_ins x3 x4 x5 x6 x7
  obtain ⟨a, ha⟩ := addr_some (IntKind.wrap .i64 (x1 + 1))
  obtain ⟨a7, ha7⟩ := addr_some x7
  have hs : ∀ i v, (x0.set i v).length ≤ 1048576 := fun i v => by rw [List.length_set]; exact hn
  unfold f_spec_Work f_impl_Work f_spec_l9Copy f_impl_copyHart f_slices_Clone_int_int f_impl_isWord
  simp only [List.length_nil, Nat.zero_add, (blt_iff _ _).2 (show x0.length < 17592186044416 by omega), cond_true, List.nil_append, Option.bind_some, h1, h2, in_rng, from_rng, k1, k2, same_addr, ha, ha7, same_wrapped]
  cases b with
  | false => exact ⟨_, rfl, rfl, hn, by show (-1 : Int) ≤ 65535; omega, .inl (by show (-1 : Int) < 0; omega)⟩
  | true =>
    obtain ⟨hl, -, -, hw⟩ := h3 rfl
    cases b' with
    | false =>
      cases decide (x2 = 0) <;> cases rng x8 65535 <;> exact ⟨_, rfl, rfl, hn, by show (-1 : Int) ≤ 65535; omega, .inl (by show (-1 : Int) < 0; omega)⟩
    | true =>
      obtain ⟨r1, r2, r3, r4⟩ := ins_all x3 x4 x5 x6 x7 k1
      simp only [Bool.not_true, cond_false, at3 x0 x4 hl r1, at3 x0 x5 hl r2, at3 x0 x6 hl r3, cond_true, Option.bind_some, f_spec_l9Word]
      cases decide (x2 = 0) <;> cases rng x8 65535 <;> first | exact ⟨_, rfl, rfl, hn, by show (-1 : Int) ≤ 65535; omega, .inl (by show (-1 : Int) < 0; omega)⟩ | skip
      cases decide (x3 = 1) <;> first | exact ⟨_, rfl, rfl, hs _ _, by show (-1 : Int) ≤ 65535; omega, .inl (by show (-1 : Int) < 0; omega)⟩ | skip
      cases decide (x3 = 2) <;> first | exact ⟨_, rfl, rfl, hs _ _, by show (-1 : Int) ≤ 65535; omega, .inl (by show (-1 : Int) < 0; omega)⟩ | skip
      cases decide (x3 = 10) <;> first | exact ⟨_, rfl, rfl, hs _ _, by show (-1 : Int) ≤ 65535; omega, .inl (by show (-1 : Int) < 0; omega)⟩ | skip
      cases decide (x3 = 3) <;> first | exact ⟨_, rfl, rfl, hs _ _, by show (-1 : Int) ≤ 65535; omega, .inl (by show (-1 : Int) < 0; omega)⟩ | skip
      cases decide (x3 = 4) <;> first | exact ⟨_, rfl, rfl, hs _ _, by show (-1 : Int) ≤ 65535; omega, .inl (by show (-1 : Int) < 0; omega)⟩ | skip
      by_cases e5 : x3 = 5
      · rw [decide_eq_true e5]; exact ⟨_, rfl, rfl, hn, word_le x0 hw x6, .inr ⟨trivial, hl, .inl e5⟩⟩
      rw [decide_eq_false e5]
      by_cases e6 : x3 = 6
      · rw [decide_eq_true e6]; exact ⟨_, rfl, rfl, hs _ _, by show bitI .and .i64 _ 65535 ≤ 65535; rw [and16]; omega, .inr ⟨trivial, hl, .inr e6⟩⟩
      rw [decide_eq_false e6]
      cases decide (x3 = 7) <;> cases decide (x0.getD x5.toNat 0 = 0) <;> cases decide (x3 = 8) <;> cases decide (x3 = 9) <;> exact ⟨_, rfl, rfl, hn, by show (-1 : Int) ≤ 65535; omega, .inl (by show (-1 : Int) < 0; omega)⟩
theorem addr_rng (n r : Int) (h : f_spec_l9Address n = some r) : 0 ≤ r ∧ r < 24 := by
  unfold f_spec_l9Address at h
  have h1 : -24 < Int.tmod n 24 := by
    have := Int.tmod_lt_of_pos (-n) (b := 24) (by omega)
    rw [Int.neg_tmod] at this
    omega
  have h2 : Int.tmod n 24 < 24 := Int.tmod_lt_of_pos n (by omega)
  generalize Int.tmod n 24 = m at *
  by_cases hm : m < 0
  · rw [decide_eq_true hm, cond_true, w64 (by omega) (by omega)] at h
    cases h; omega
  · rw [decide_eq_false hm, cond_false] at h
    cases h; omega
theorem same_target (x0 x1 x2 x3 x4 : Int) (x5 : List Int) : ∃ r, f_spec_Target x0 x1 x2 x3 x4 x5 = some r ∧ f_impl_Target x0 x1 x2 x3 x4 x5 = some r ∧ r < 24 ∧ (f_spec_InsOk x0 x1 x2 x3 x4 = some true → x5.length = 4 → x0 = 5 ∨ x0 = 6 → 0 ≤ r) ∧ -1 ≤ r ∧ (¬ (x0 = 4 ∨ x0 = 5 ∨ x0 = 6) → r = -1) := by
  obtain ⟨b, h1, h2⟩ := same_ins x0 x1 x2 x3 x4
  unfold f_spec_Target f_impl_Target f_impl_aims
  simp only [h1, h2, Option.bind_some, same_addr]
  cases b with
  | false => exact ⟨_, rfl, rfl, by omega, (fun h => by cases h), Int.le_refl _, fun _ => rfl⟩
  | true =>
    obtain ⟨-, hr, -, -⟩ := ins_all x0 x1 x2 x3 x4 h1
    by_cases h4 : (x5.length : Int) = 4
    · rw [decide_eq_true h4, decide_eq_true hr.1, decide_eq_true (show x2 < (x5.length : Int) by omega)]
      obtain ⟨r, hr2⟩ := addr_some (IntKind.wrap .i64 (x5.getD x2.toNat 0 + x4))
      have hr3 := addr_rng _ _ hr2
      simp only [hr2, Bool.not_true, cond_false, Bool.and_self, cond_true, Option.bind_some]
      by_cases e4 : x0 = 4
      · rw [decide_eq_true e4]; exact ⟨_, rfl, rfl, hr3.2, (fun _ _ _ => hr3.1), by omega, fun h => absurd (.inl e4) h⟩
      · rw [decide_eq_false e4]
        by_cases e5 : x0 = 5
        · rw [decide_eq_true e5]; exact ⟨_, rfl, rfl, hr3.2, (fun _ _ _ => hr3.1), by omega, fun h => absurd (.inr (.inl e5)) h⟩
        · rw [decide_eq_false e5]
          by_cases e6 : x0 = 6
          · rw [decide_eq_true e6]; exact ⟨_, rfl, rfl, hr3.2, (fun _ _ _ => hr3.1), by omega, fun h => absurd (.inr (.inr e6)) h⟩
          · rw [decide_eq_false e6]; exact ⟨_, rfl, rfl, by omega, (fun _ _ h => (h.elim e5 e6).elim), Int.le_refl _, fun _ => rfl⟩
    · rw [decide_eq_false h4]
      cases decide (x0 = 4) <;> cases decide (x0 = 5) <;> cases decide (x0 = 6) <;> exact ⟨_, rfl, rfl, by omega, (fun _ h => absurd h (by omega)), Int.le_refl _, fun _ => rfl⟩
/-- What one step makes: memory and hart. -/
noncomputable def stepS (x0 x1 : List Int) (x2 x3 : Int) : Option (List Int × List Int × Int × Int) :=
  (f_spec_Decode (x0.getD x2.toNat 0)).bind fun r => (f_spec_Target r.1 r.2.1 r.2.2.1 r.2.2.2.1 r.2.2.2.2.1 x1).bind fun t =>
    bif (decide ((0 : Int) ≤ t)) then
      bif ((decide ((0 : Int) ≤ t)) && (decide (t < (x0.length : Int)))) then
      (f_spec_Work x1 x2 x3 r.1 r.2.1 r.2.2.1 r.2.2.2.1 r.2.2.2.2.1 (x0.getD t.toNat 0)).bind fun y59 =>
      bif (decide ((0 : Int) ≤ y59.2.2.2)) then
        bif ((decide ((0 : Int) ≤ t)) && (decide (t < (x0.length : Int)))) then
        (some ((x0.set t.toNat y59.2.2.2) : List Int)).bind fun z60 =>
        some (z60, y59.1, y59.2.1, y59.2.2.1)
        else none
      else
        some (x0, y59.1, y59.2.1, y59.2.2.1)
      else none
    else
      (f_spec_Work x1 x2 x3 r.1 r.2.1 r.2.2.1 r.2.2.2.1 r.2.2.2.2.1 0).bind fun y61 =>
      bif (decide ((0 : Int) ≤ y61.2.2.2)) then
        bif ((decide ((0 : Int) ≤ t)) && (decide (t < (x0.length : Int)))) then
        (some ((x0.set t.toNat y61.2.2.2) : List Int)).bind fun z62 =>
        some (z62, y61.1, y61.2.1, y61.2.2.1)
        else none
      else
        some (x0, y61.1, y61.2.1, y61.2.2.1)
/-- One step of the program is one of the reference. -/
theorem same_step (x0 x1 : List Int) (x2 x3 : Int) (h0 : (x0.length : Int) = 24) (hw : allW x0 = true) (h1 : x1.length ≤ 1048576) (h2 : 0 ≤ x2 ∧ x2 ≤ 23) :
    ∃ m : List Int × Int × Int × List Int, f_impl_step x0 x1 x2 x3 = some m ∧ stepS x0 x1 x2 x3 = some (m.2.2.2, m.1, m.2.1, m.2.2.1) ∧ m.1.length ≤ 1048576 ∧ (m.2.2.2.length : Int) = 24 ∧ allW m.2.2.2 = true := by
  obtain ⟨r, d1, d2⟩ := same_decode (x0.getD x2.toNat 0)
  obtain ⟨t, t1, t2, t3, t4, -⟩ := same_target r.1 r.2.1 r.2.2.1 r.2.2.2.1 r.2.2.2.2.1 x1
  have hs : ∀ i v, ((x0.set i v).length : Int) = 24 := fun i v => by rw [List.length_set]; omega
  have hsw : ∀ i v, 0 ≤ v → v ≤ 65535 → allW (x0.set i v) = true := fun i v v0 v1 => (allW_mem _).2 fun z hz => (List.mem_or_eq_of_mem_set hz).elim (fun h => (allW_mem x0).1 hw z h) (fun h => by rw [h]; exact ⟨v0, v1⟩)
  unfold f_impl_step stepS
  rw [decide_eq_true h2.1, decide_eq_true (show x2 < (x0.length : Int) by omega), Bool.and_self, cond_true, d1, d2, Option.bind_some, Option.bind_some, t1, t2, Option.bind_some, Option.bind_some, decide_eq_true (show t < (x0.length : Int) by omega)]
  by_cases ht : 0 ≤ t
  · obtain ⟨w, w1, w2, w3, w5, w4⟩ := same_work x1 x2 x3 r.1 r.2.1 r.2.2.1 r.2.2.2.1 r.2.2.2.2.1 (x0.getD t.toNat 0) h1
    rw [decide_eq_true ht, w1, w2]
    simp only [Bool.and_self, cond_true, Option.bind_some]
    by_cases hp : 0 ≤ w.2.2.2
    · rw [decide_eq_true hp]; exact ⟨_, rfl, rfl, w3, hs _ _, hsw _ _ hp w5⟩
    · rw [decide_eq_false hp]; exact ⟨_, rfl, rfl, w3, h0, hw⟩
  · obtain ⟨w, w1, w2, w3, w5, w4⟩ := same_work x1 x2 x3 r.1 r.2.1 r.2.2.1 r.2.2.2.1 r.2.2.2.2.1 0 h1
    have hneg : w.2.2.2 < 0 := w4.elim id fun h => absurd (t4 h.1 h.2.1 h.2.2) ht
    rw [decide_eq_false ht, w1, w2]
    simp only [cond_false, Option.bind_some, decide_eq_false (show ¬ 0 ≤ w.2.2.2 by omega)]
    exact ⟨_, rfl, rfl, w3, h0, hw⟩
/-- What the reference's step is. -/
theorem flatStep_eq (x0 x1 : List Int) (x2 x3 : Int) (h0 : x0.length ≤ 1048576) (h1 : x1.length ≤ 1048576) (b : Bool) (k1 : f_spec_HartOk x1 x2 x3 = some b) :
    f_spec_FlatStep x0 x1 x2 x3 = bif (!(allW x0 && decide ((x0.length : Int) = 24))) then some (x0, x1, x2, x3) else bif (!b) then some (x0, x1, x2, x3) else bif (!(decide (x3 = 0))) then some (x0, x1, x2, x3) else bif ((decide ((0 : Int) ≤ x2)) && (decide (x2 < (x0.length : Int)))) then stepS x0 x1 x2 x3 else none := by
  unfold f_spec_FlatStep f_spec_l9Copy
  simp only [List.length_nil, Nat.zero_add, (blt_iff _ _).2 (show x0.length < 17592186044416 by omega), (blt_iff _ _).2 (show x1.length < 17592186044416 by omega), cond_true, List.nil_append, Option.bind_some, specWords x0 h0, k1]
  rfl
abbrev HartT := List Int × Int × Int
def bigHart (e : HartT) : Prop := e.1.length ≤ 9223372036854775807
def okHart (e : HartT) : Prop := e.1.length ≤ 1048576
theorem szHartS (x : List HartT) (left : Int) (h0 : 0 ≤ left) (h1 : left ≤ 1048576) (hx : x.length ≤ 9223372036854775807) (he : ∀ e ∈ x, bigHart e) :
    f_laws_szHartS x left = some (-1) ∨ ∃ l, f_laws_szHartS x left = some l ∧ 0 ≤ l ∧ l ≤ left ∧ x.length ≤ 1048576 ∧ ∀ e ∈ x, okHart e := by
  unfold f_laws_szHartS
  rw [w64 (by omega) (by omega)]
  by_cases h : left - (x.length : Int) < 0
  · rw [decide_eq_true h]; exact .inl rfl
  · rw [decide_eq_false h, cond_false]
    have hn : x.length ≤ 1048576 := by omega
    rcases sz_gen (F := f_laws_szHartS.l0) (s := fun e l => f_laws_szHart e.1 e.2.1 e.2.2 l) (Ok := okHart) (d := ([], 0, 0)) (fun n x l q i => rfl) x hn (fun e hm l a0 a1 => by
        rcases hartSize e.1 e.2.1 e.2.2 l a0 a1 (he e hm) with h2 | ⟨h2, h3⟩
        · exact .inl h2
        · exact .inr ⟨_, h2, by omega, by omega, show e.1.length ≤ 1048576 by omega⟩) 0 x.length N (left - (x.length : Int)) 0 (by omega) (by omega) (by omega) (by omega) (by omega) (lt_N hn) with h2 | ⟨l, h2, b0, b1, b2⟩
    · rw [h2]; exact .inl rfl
    · rw [h2]
      exact .inr ⟨l, rfl, b0, by omega, hn, fun e hm => b2 e (by simpa using hm)⟩
theorem toHartS (x : List HartT) (hn : x.length ≤ 1048576) (he : ∀ e ∈ x, okHart e) : f_laws_toHartS x = some x := by
  unfold f_laws_toHartS
  rw [decide_eq_true (by omega), show Nat.ble ((x.length : Int).toNat) 3518437208883 = true from Nat.ble_eq_true_of_le (by omega)]
  simp only [Bool.and_self, cond_true]
  rw [to_gen (F := f_laws_toHartS.l0) (g := fun e => f_laws_toHart e.1 e.2.1 e.2.2) (d := ([], 0, 0)) (fun n x i y => rfl) x hn (fun e hm => toHart_self _ _ _ (he e hm)) x.length N _ 0 (by omega) (by omega) (by omega) (lt_N hn) (by simp) (by simp)]
  rfl
theorem eqHartS (x : List HartT) (hn : x.length ≤ 1048576) (he : ∀ e ∈ x, okHart e) : f_laws_eqHartS x x = some true := by
  unfold f_laws_eqHartS
  simp only [decide_true, Bool.not_true, cond_false]
  rw [eq_gen (F := f_laws_eqHartS.l0) (q := fun e f => f_laws_eqHart e.1 e.2.1 e.2.2 f.1 f.2.1 f.2.2) (d := ([], 0, 0)) (fun n x y b i => rfl) x hn (fun e hm => eqHart_self _ _ _ (he e hm)) false x.length N 0 (by omega) (by omega) (by omega) (lt_N hn)]
  rfl
theorem cp_gen {α τ : Type} {d : α} {F : Nat → Int → List α → Option τ} {R : List α → τ} (x : List α) (hx : x.length ≤ 1048576) (h0 : ∀ n i y, ¬ i < (x.length : Int) → F (n + 1) i y = some (R y))
    (h1 : ∀ n i y, 0 ≤ i → i < (x.length : Int) → x.getD i.toNat d ∈ x → y.length ≤ 1048576 → F (n + 1) i y = F n (i + 1) (y ++ [x.getD i.toNat d])) : F N 0 [] = some (R x) := by
  have step : ∀ (k n : Nat) (i : Int) (y : List α), 0 ≤ i → i ≤ x.length → (x.length : Int) - i = k → k < n → y = x.take i.toNat → F n i y = some (R x) := by
    intro k
    induction k with
    | zero =>
      intro n i y a0 a1 hd hn hy
      obtain ⟨n, rfl⟩ := succ_fuel hn
      rw [h0 n i y (by omega), hy, List.take_of_length_le (by omega)]
    | succ k ih =>
      intro n i y a0 a1 hd hn hy
      obtain ⟨n, rfl⟩ := succ_fuel hn
      rw [h1 n i y a0 (by omega) (mem_getD x d i a0 (by omega)) (by rw [hy, List.length_take]; omega)]
      refine ih n (i + 1) _ (by omega) (by omega) (by omega) (by omega) ?_
      have e : (i + 1).toNat = i.toNat + 1 := by omega
      have hlt : i.toNat < x.length := by omega
      rw [e, List.take_add_one, List.getElem?_eq_getElem hlt, hy, List.getD_eq_getElem?_getD, List.getElem?_eq_getElem hlt]
      rfl
  exact step x.length N 0 [] (by omega) (by omega) (by omega) (Nat.lt_of_le_of_lt hx (Nat.lt_trans (by omega) big)) rfl
theorem set_getD_self {α : Type} (x : List α) (d : α) (i : Nat) (h : i < x.length) : x.set i (x.getD i d) = x := by
  rw [List.getD_eq_getElem?_getD, List.getElem?_eq_getElem h]
  exact List.set_getElem_self h
theorem same_goes (x0 : List Int) (x1 x2 : Int) (hn : x0.length ≤ 1048576) (b : Bool) (h : f_impl_HartOk x0 x1 x2 = some b) : f_impl_goes x0 x1 x2 = some (b && decide (x2 = 0)) := by
  unfold f_impl_goes
  rw [h]
  cases b <;> rfl
theorem goes_step (m : List Int) (h : HartT) (hm : m.length ≤ 1048576) (hh : okHart h) (hw : (allW m && decide ((m.length : Int) = 24)) = true) :
    ∃ g, f_impl_goes h.1 h.2.1 h.2.2 = some g ∧ (g = false → f_spec_FlatStep m h.1 h.2.1 h.2.2 = some (m, h.1, h.2.1, h.2.2)) ∧
      (g = true → ∃ r, f_impl_step m h.1 h.2.1 h.2.2 = some r ∧ f_spec_FlatStep m h.1 h.2.1 h.2.2 = some (r.2.2.2, r.1, r.2.1, r.2.2.1) ∧ r.1.length ≤ 1048576 ∧ (r.2.2.2.length : Int) = 24 ∧ allW r.2.2.2 = true) := by
  obtain ⟨b, k1, k2, k3⟩ := same_hartOk h.1 h.2.1 h.2.2 hh
  refine ⟨_, same_goes h.1 h.2.1 h.2.2 hh b k2, fun hg => ?_, fun hg => ?_⟩
  · rw [flatStep_eq m h.1 h.2.1 h.2.2 hm hh b k1, hw]
    cases b with
    | false => rfl
    | true =>
      simp only [Bool.true_and] at hg
      rw [hg]; rfl
  · simp only [Bool.and_eq_true, decide_eq_true_eq] at hg hw
    obtain ⟨rfl, hz⟩ := hg
    obtain ⟨-, k4, k5, -⟩ := k3 rfl
    obtain ⟨r, m1, m2, m3, m4, m5⟩ := same_step m h.1 h.2.1 h.2.2 hw.2 hw.1 hh ⟨k4, k5⟩
    refine ⟨r, m1, ?_, m3, m4, m5⟩
    rw [flatStep_eq m h.1 h.2.1 h.2.2 hm hh true k1, hw.1, decide_eq_true hw.2, decide_eq_true hz, decide_eq_true k4, decide_eq_true (show h.2.1 < (m.length : Int) by omega), m2]
    rfl
theorem flat_loops (o : List Int) (ho : (o.length : Int) ≤ 2000) : ∀ (k n n' : Nat) (i : Int) (m : List Int) (hs : List HartT), 0 ≤ i → (o.length : Int) - i ≤ k → k < n → k < n' → (m.length : Int) = 24 → allW m = true → hs.length ≤ 1048576 → (∀ e ∈ hs, okHart e) →
    ∃ r, f_spec_FlatRun.l1 n o i m hs = some r ∧ f_impl_FlatRun.l0 n' o (o.length : Int) i m hs = some r ∧ r.1.length ≤ 1048576 ∧ r.2.length ≤ 1048576 ∧ ∀ e ∈ r.2, okHart e := by
  intro k
  induction k with
  | zero =>
    intro n n' i m hs h0 hk hn hn' hm hw hl he
    obtain ⟨n, rfl⟩ := succ_fuel hn
    obtain ⟨n', rfl⟩ := succ_fuel hn'
    simp only [f_spec_FlatRun.l1, f_impl_FlatRun.l0, decide_eq_false (show ¬ i < (o.length : Int) by omega), cond_false]
    exact ⟨_, rfl, rfl, show m.length ≤ 1048576 by omega, hl, he⟩
  | succ k ih =>
    intro n n' i m hs h0 hk hn hn' hm hw hl he
    obtain ⟨n, rfl⟩ := succ_fuel hn
    obtain ⟨n', rfl⟩ := succ_fuel hn'
    by_cases hi : i < (o.length : Int)
    · simp only [f_spec_FlatRun.l1, f_impl_FlatRun.l0, decide_eq_true hi, decide_eq_true ho, decide_eq_true h0, cond_true, Bool.and_self, w64 (show -9223372036854775808 ≤ (hs.length : Int) - 1 by omega) (by omega), w64 (show -9223372036854775808 ≤ i + 1 by omega) (by omega), in_rng, from_rng, Option.bind_some]
      generalize o.getD i.toNat 0 = j
      cases hr : rng j ((hs.length : Int) - 1) with
      | false =>
        simp only [cond_false]
        exact ih n n' (i + 1) m hs (by omega) (by omega) (by omega) (by omega) hm hw hl he
      | true =>
        unfold rng at hr
        simp only [Bool.and_eq_true, decide_eq_true_eq] at hr
        have hj : j < (hs.length : Int) := by omega
        have hmem := mem_getD hs (([] : List Int), (0 : Int), (0 : Int)) j hr.1 hj
        have hjn : j.toNat < hs.length := by omega
        simp only [cond_true, decide_eq_true hr.1, decide_eq_true hj, Bool.and_self]
        obtain ⟨g, g1, g2, g3⟩ := goes_step m (hs.getD j.toNat ([], 0, 0)) (by omega) (he _ hmem) (by rw [hw, decide_eq_true hm]; rfl)
        cases g with
        | false =>
          simp only [g1, g2 rfl, Option.bind_some, cond_false]
          rw [set_getD_self hs (([] : List Int), (0 : Int), (0 : Int)) j.toNat hjn]
          exact ih n n' (i + 1) m hs (by omega) (by omega) (by omega) (by omega) hm hw hl he
        | true =>
          obtain ⟨r, s1, s2, s3, s4, s5⟩ := g3 rfl
          simp only [g1, s1, s2, Option.bind_some, cond_true]
          exact ih n n' (i + 1) _ _ (by omega) (by omega) (by omega) (by omega) s4 s5 (by rw [List.length_set]; exact hl) fun e hm => (List.mem_or_eq_of_mem_set hm).elim (he e) fun h => by rw [h]; exact s3
    · simp only [f_spec_FlatRun.l1, f_impl_FlatRun.l0, decide_eq_false hi, cond_false]
      exact ⟨_, rfl, rfl, show m.length ≤ 1048576 by omega, hl, he⟩
/-- Where the memory isn't right, nothing turns. -/
theorem flat_still (o : List Int) (ho : (o.length : Int) ≤ 2000) (m : List Int) (hm : m.length ≤ 1048576) (hw : (allW m && decide ((m.length : Int) = 24)) = false) (hs : List HartT) (hl : hs.length ≤ 1048576) (he : ∀ e ∈ hs, okHart e) : ∀ (k n : Nat) (i : Int), 0 ≤ i → (o.length : Int) - i ≤ k → k < n →
    f_spec_FlatRun.l1 n o i m hs = some (m, hs) := by
  intro k
  induction k with
  | zero =>
    intro n i h0 hk hn
    obtain ⟨n, rfl⟩ := succ_fuel hn
    simp only [f_spec_FlatRun.l1, decide_eq_false (show ¬ i < (o.length : Int) by omega), cond_false]
  | succ k ih =>
    intro n i h0 hk hn
    obtain ⟨n, rfl⟩ := succ_fuel hn
    by_cases hi : i < (o.length : Int)
    · have hr := ih n (i + 1) (by omega) (by omega) (by omega)
      simp only [f_spec_FlatRun.l1, decide_eq_true hi, decide_eq_true ho, decide_eq_true h0, cond_true, Bool.and_self, w64 (show -9223372036854775808 ≤ (hs.length : Int) - 1 by omega) (by omega), w64 (show -9223372036854775808 ≤ i + 1 by omega) (by omega), in_rng, Option.bind_some]
      generalize o.getD i.toNat 0 = j
      cases hr2 : rng j ((hs.length : Int) - 1) with
      | false => exact hr
      | true =>
        unfold rng at hr2
        simp only [Bool.and_eq_true, decide_eq_true_eq] at hr2
        have hj : j < (hs.length : Int) := by omega
        have hmem := mem_getD hs (([] : List Int), (0 : Int), (0 : Int)) j hr2.1 hj
        have hjn : j.toNat < hs.length := by omega
        obtain ⟨b, k1, -, -⟩ := same_hartOk (hs.getD j.toNat ([], 0, 0)).1 (hs.getD j.toNat ([], 0, 0)).2.1 (hs.getD j.toNat ([], 0, 0)).2.2 (he _ hmem)
        have hf := flatStep_eq m (hs.getD j.toNat ([], 0, 0)).1 (hs.getD j.toNat ([], 0, 0)).2.1 (hs.getD j.toNat ([], 0, 0)).2.2 hm (he _ hmem) b k1
        rw [hw] at hf
        simp only [Bool.not_false, cond_true] at hf
        simp only [cond_true, decide_eq_true hr2.1, decide_eq_true hj, Bool.and_self, hf, Option.bind_some]
        rw [set_getD_self hs (([] : List Int), (0 : Int), (0 : Int)) j.toNat hjn]
        exact hr
    · simp only [f_spec_FlatRun.l1, decide_eq_false hi, cond_false]
theorem same_flatRun (x0 : List Int) (x1 : List HartT) (x2 : List Int) (h0 : x0.length ≤ 1048576) (h1 : x1.length ≤ 1048576) (h2 : x2.length ≤ 1048576) (he : ∀ e ∈ x1, okHart e) :
    ∃ r, f_spec_FlatRun x0 x1 x2 = some r ∧ f_impl_FlatRun x0 x1 x2 = some r ∧ r.1.length ≤ 1048576 ∧ r.2.length ≤ 1048576 ∧ ∀ e ∈ r.2, okHart e := by
  have c1 := cp_gen (d := (([] : List Int), (0 : Int), (0 : Int))) (F := fun n i y => f_spec_FlatRun.l0 n x1 x2 i x0 y) (R := fun y => (x2, x0, y)) x1 h1 (fun n i y hi => by simp only [f_spec_FlatRun.l0, decide_eq_false hi, cond_false])
    (fun n i y a0 a1 hm hy => by
      have hk : (x1.getD i.toNat ([], 0, 0)).1.length ≤ 1048576 := he _ hm
      simp only [f_spec_FlatRun.l0, f_spec_l9Copy, decide_eq_true a0, decide_eq_true a1, cond_true, Bool.and_self, List.length_nil, Nat.zero_add, (blt_iff _ _).2 (show (x1.getD i.toNat ([], 0, 0)).1.length < 17592186044416 by omega), List.nil_append, Option.bind_some, List.length_singleton, (blt_iff _ _).2 (show y.length + 1 < 3518437208883 by omega), w64 (show -9223372036854775808 ≤ i + 1 by omega) (by omega)])
  have c2 := cp_gen (d := (([] : List Int), (0 : Int), (0 : Int))) (F := fun n i y => f_impl_copyHarts.l0 n x1 (x1.length : Int) i y) (R := fun y => y) x1 h1 (fun n i y hi => by simp only [f_impl_copyHarts.l0, decide_eq_false hi, cond_false])
    (fun n i y a0 a1 hm hy => by
      have hk : (x1.getD i.toNat ([], 0, 0)).1.length ≤ 1048576 := he _ hm
      simp only [f_impl_copyHarts.l0, f_impl_copyHart, f_slices_Clone_int_int, decide_eq_true a0, decide_eq_true a1, cond_true, Bool.and_self, Nat.zero_add, (blt_iff _ _).2 (show (x1.getD i.toNat ([], 0, 0)).1.length < 17592186044416 by omega), Option.bind_some, List.length_singleton, (blt_iff _ _).2 (show y.length + 1 < 3518437208883 by omega), w64 (show -9223372036854775808 ≤ i + 1 by omega) (by omega)])
  unfold f_spec_FlatRun f_impl_FlatRun f_impl_copyHarts f_slices_Clone_int_int f_impl_memOk
  simp only [List.length_nil, Nat.zero_add, (blt_iff _ _).2 (show x0.length < 17592186044416 by omega), cond_true, List.nil_append, Option.bind_some, c1, c2, implWords x0 h0]
  have hN : x2.length < N := Nat.lt_of_le_of_lt h2 (Nat.lt_trans (by omega) big)
  by_cases hb : (2000 : Int) < (x2.length : Int)
  · rw [decide_eq_true hb, cond_true]
    have e : f_spec_FlatRun.l1 N x2 0 x0 x1 = some (x0, x1) := by
      obtain ⟨n, hn⟩ : ∃ n, N = n + 1 := ⟨N - 1, rfl⟩
      rw [hn]
      simp only [f_spec_FlatRun.l1, decide_eq_false (show ¬ (x2.length : Int) ≤ 2000 by omega), cond_false]
      cases decide (0 < (x2.length : Int)) <;> rfl
    rw [e]
    exact ⟨_, rfl, rfl, h0, h1, he⟩
  · rw [decide_eq_false hb, cond_false]
    cases hw : allW x0 && decide ((x0.length : Int) = 24) with
    | false =>
      rw [flat_still x2 (by omega) x0 h0 hw x1 h1 he x2.length N 0 (by omega) (by omega) hN]
      exact ⟨_, rfl, rfl, h0, h1, he⟩
    | true =>
      simp only [Bool.and_eq_true, decide_eq_true_eq] at hw
      obtain ⟨r, r1, r2, r3, r4, r5⟩ := flat_loops x2 (by omega) x2.length N N 0 x0 x1 (by omega) (by omega) hN hN hw.2 hw.1 h1 he
      rw [r1, r2]
      exact ⟨_, rfl, rfl, r3, r4, r5⟩
theorem getD_set_self {α : Type} (x : List α) (d e : α) (i : Int) (h0 : 0 ≤ i) (h1 : i < x.length) : (x.set i.toNat e).getD i.toNat d = e := by
  rw [List.getD_eq_getElem?_getD, List.getElem?_set_self (by omega)]; rfl
theorem getD_set_other {α : Type} (x : List α) (d e : α) (i j : Nat) (h : i ≠ j) : (x.set i e).getD j d = x.getD j d := by
  rw [List.getD_eq_getElem?_getD, List.getElem?_set_ne h, List.getD_eq_getElem?_getD]
theorem mh_loop {α : Type} {d : α} {F : Nat → Int → Int → Int → List α → Option (Int × Int × List α)} {H : Nat → List α → Int → Int → Int → Option (Int ⊕ (Int × Int))} {P : α → Prop} {M : Int} (hM : 0 ≤ M)
    (f0 : ∀ n c q i x, ¬ i < (x.length : Int) → F (n + 1) c q i x = some (c, q, x)) (g0 : ∀ n x c q i, ¬ i < (x.length : Int) → H (n + 1) x c q i = some (.inr (c, q)))
    (f1 : ∀ c e, P e → 0 ≤ c → c ≤ 1152921504606846976 → ∃ e' c', c ≤ c' ∧ c' ≤ c + M ∧ (∀ n q i (x : List α), x.length ≤ 1048576 → 0 ≤ i → i < (x.length : Int) → x.getD i.toNat d = e → F (n + 1) c q i x = F n c' q (i + 1) (x.set i.toNat e')) ∧
      ∀ n q i (x : List α), x.length ≤ 1048576 → 0 ≤ i → i < (x.length : Int) → x.getD i.toNat d = e' → H (n + 1) x c q i = H n x c' q (i + 1))
    (k : Nat) : ∀ (n m : Nat) (x : List α) (c q q' i : Int), x.length ≤ 1048576 → (∀ j : Nat, i.toNat ≤ j → j < x.length → P (x.getD j d)) → 0 ≤ c → c + M * k ≤ 1152921504606846976 → 0 ≤ i → i ≤ x.length → (x.length : Int) - i = k → k < n → k < m →
      ∃ y c', F n c q i x = some (c', q, y) ∧ y.length = x.length ∧ c ≤ c' ∧ c' ≤ c + M * k ∧ (∀ j : Nat, j < i.toNat → y.getD j d = x.getD j d) ∧ H m y c q' i = some (.inr (c', q')) := by
  induction k with
  | zero =>
    intro n m x c q q' i hx hp hc0 hc1 h0 h1 hd hn hm
    obtain ⟨n, rfl⟩ := succ_fuel hn
    obtain ⟨m, rfl⟩ := succ_fuel hm
    exact ⟨x, c, f0 n c q i x (by omega), rfl, Int.le_refl _, by omega, fun _ _ => rfl, g0 m x c q' i (by omega)⟩
  | succ k ih =>
    intro n m x c q q' i hx hp hc0 hc1 h0 h1 hd hn hm
    obtain ⟨n, rfl⟩ := succ_fuel hn
    obtain ⟨m, rfl⟩ := succ_fuel hm
    have e1 : M * ((k + 1 : Nat) : Int) = M * (k : Int) + M := by rw [Int.natCast_add, Int.mul_add]; simp
    have e2 : 0 ≤ M * (k : Int) := Int.mul_nonneg hM (by omega)
    rw [e1] at hc1 ⊢
    obtain ⟨e', c1, b1, b2, b3, b4⟩ := f1 c _ (hp i.toNat (Nat.le_refl _) (by omega)) hc0 (by omega)
    obtain ⟨y, c', h2, h3, h4, h5, h6, h7⟩ := ih n m (x.set i.toNat e') c1 q q' (i + 1) (by rw [List.length_set]; exact hx) (fun j h2 h3 => by
      rw [List.length_set] at h3
      rw [getD_set_other x d e' i.toNat j (by omega)]
      exact hp j (by omega) h3) (by omega) (by omega) (by omega) (by rw [List.length_set]; omega) (by rw [List.length_set]; omega) (by omega) (by omega)
    rw [List.length_set] at h3
    refine ⟨y, c', ?_, h3, by omega, by omega, fun j hj => ?_, ?_⟩
    · rw [b3 n q i x hx h0 (by omega) rfl]; exact h2
    · rw [h6 j (by omega)]
      exact getD_set_other x d e' i.toNat j (by omega)
    · rw [b4 m q' i y (by omega) h0 (by omega) (by rw [h6 i.toNat (by omega)]; exact getD_set_self x d e' i h0 (by omega))]
      exact h7
/-- What is marked from c on, holds what was marked. -/
theorem mh_gen {α : Type} {d : α} {F : Nat → Int → Int → Int → List α → Option (Int × Int × List α)} {H : Nat → List α → Int → Int → Int → Option (Int ⊕ (Int × Int))} {P : α → Prop} {M : Int} (hM : 0 ≤ M)
    (f0 : ∀ n c q i x, ¬ i < (x.length : Int) → F (n + 1) c q i x = some (c, q, x)) (g0 : ∀ n x c q i, ¬ i < (x.length : Int) → H (n + 1) x c q i = some (.inr (c, q)))
    (f1 : ∀ c e, P e → 0 ≤ c → c ≤ 1152921504606846976 → ∃ e' c', c ≤ c' ∧ c' ≤ c + M ∧ (∀ n q i (x : List α), x.length ≤ 1048576 → 0 ≤ i → i < (x.length : Int) → x.getD i.toNat d = e → F (n + 1) c q i x = F n c' q (i + 1) (x.set i.toNat e')) ∧
      ∀ n q i (x : List α), x.length ≤ 1048576 → 0 ≤ i → i < (x.length : Int) → x.getD i.toNat d = e' → H (n + 1) x c q i = H n x c' q (i + 1))
    (x : List α) (hx : x.length ≤ 1048576) (hp : ∀ e ∈ x, P e) (c : Int) (h0 : 0 ≤ c) (h1 : c + M * x.length ≤ 1152921504606846976) : ∃ y c', F N c 0 0 x = some (c', 0, y) ∧ y.length = x.length ∧ c ≤ c' ∧ c' ≤ c + M * x.length ∧ H N y c 0 0 = some (.inr (c', 0)) := by
  have hN : x.length < N := Nat.lt_of_le_of_lt hx (Nat.lt_trans (by omega) big)
  obtain ⟨y, c', a1, a2, a3, a4, _, a5⟩ := mh_loop (d := d) hM f0 g0 f1 x.length N N x c 0 0 0 hx (fun j _ hj => hp _ (by
    rw [List.getD_eq_getElem?_getD, List.getElem?_eq_getElem hj]
    exact List.getElem_mem hj)) h0 h1 (by omega) (by omega) (by omega) hN hN
  exact ⟨y, c', a1, a2, a3, a4, a5⟩
theorem mhB_loop {α : Type} {d : α} {F : Nat → Int → Int → Int → List α → Option (Int × Int × List α)} {H : Nat → List α → Int → Int → Int → Option (Int ⊕ (Int × Int))} {P : α → Prop} {M B : Int} (hM : 0 ≤ M)
    (f0 : ∀ n c q i x, ¬ i < (x.length : Int) → F (n + 1) c q i x = some (c, q, x)) (g0 : ∀ n x c q i, ¬ i < (x.length : Int) → H (n + 1) x c q i = some (.inr (c, q)))
    (f1 : ∀ c e, P e → 0 ≤ c → c ≤ B → ∃ e' c', c ≤ c' ∧ c' ≤ c + M ∧ (∀ n q i (x : List α), x.length ≤ 1048576 → 0 ≤ i → i < (x.length : Int) → x.getD i.toNat d = e → F (n + 1) c q i x = F n c' q (i + 1) (x.set i.toNat e')) ∧
      ∀ n q i (x : List α), x.length ≤ 1048576 → 0 ≤ i → i < (x.length : Int) → x.getD i.toNat d = e' → H (n + 1) x c q i = H n x c' q (i + 1))
    (k : Nat) : ∀ (n m : Nat) (x : List α) (c q q' i : Int), x.length ≤ 1048576 → (∀ j : Nat, i.toNat ≤ j → j < x.length → P (x.getD j d)) → 0 ≤ c → c + M * k ≤ B → 0 ≤ i → i ≤ x.length → (x.length : Int) - i = k → k < n → k < m →
      ∃ y c', F n c q i x = some (c', q, y) ∧ y.length = x.length ∧ c ≤ c' ∧ c' ≤ c + M * k ∧ (∀ j : Nat, j < i.toNat → y.getD j d = x.getD j d) ∧ H m y c q' i = some (.inr (c', q')) := by
  induction k with
  | zero =>
    intro n m x c q q' i hx hp hc0 hc1 h0 h1 hd hn hm
    obtain ⟨n, rfl⟩ := succ_fuel hn
    obtain ⟨m, rfl⟩ := succ_fuel hm
    exact ⟨x, c, f0 n c q i x (by omega), rfl, Int.le_refl _, by omega, fun _ _ => rfl, g0 m x c q' i (by omega)⟩
  | succ k ih =>
    intro n m x c q q' i hx hp hc0 hc1 h0 h1 hd hn hm
    obtain ⟨n, rfl⟩ := succ_fuel hn
    obtain ⟨m, rfl⟩ := succ_fuel hm
    have e1 : M * ((k + 1 : Nat) : Int) = M * (k : Int) + M := by rw [Int.natCast_add, Int.mul_add]; simp
    have e2 : 0 ≤ M * (k : Int) := Int.mul_nonneg hM (by omega)
    rw [e1] at hc1 ⊢
    obtain ⟨e', c1, b1, b2, b3, b4⟩ := f1 c _ (hp i.toNat (Nat.le_refl _) (by omega)) hc0 (by omega)
    obtain ⟨y, c', h2, h3, h4, h5, h6, h7⟩ := ih n m (x.set i.toNat e') c1 q q' (i + 1) (by rw [List.length_set]; exact hx) (fun j h2 h3 => by
      rw [List.length_set] at h3
      rw [getD_set_other x d e' i.toNat j (by omega)]
      exact hp j (by omega) h3) (by omega) (by omega) (by omega) (by rw [List.length_set]; omega) (by rw [List.length_set]; omega) (by omega) (by omega)
    rw [List.length_set] at h3
    refine ⟨y, c', ?_, h3, by omega, by omega, fun j hj => ?_, ?_⟩
    · rw [b3 n q i x hx h0 (by omega) rfl]; exact h2
    · rw [h6 j (by omega)]
      exact getD_set_other x d e' i.toNat j (by omega)
    · rw [b4 m q' i y (by omega) h0 (by omega) (by rw [h6 i.toNat (by omega)]; exact getD_set_self x d e' i h0 (by omega))]
      exact h7
/-- (with a bound.) What is marked from c on, holds what was marked. -/
theorem mhB_gen {α : Type} {d : α} {F : Nat → Int → Int → Int → List α → Option (Int × Int × List α)} {H : Nat → List α → Int → Int → Int → Option (Int ⊕ (Int × Int))} {P : α → Prop} {M B : Int} (hM : 0 ≤ M)
    (f0 : ∀ n c q i x, ¬ i < (x.length : Int) → F (n + 1) c q i x = some (c, q, x)) (g0 : ∀ n x c q i, ¬ i < (x.length : Int) → H (n + 1) x c q i = some (.inr (c, q)))
    (f1 : ∀ c e, P e → 0 ≤ c → c ≤ B → ∃ e' c', c ≤ c' ∧ c' ≤ c + M ∧ (∀ n q i (x : List α), x.length ≤ 1048576 → 0 ≤ i → i < (x.length : Int) → x.getD i.toNat d = e → F (n + 1) c q i x = F n c' q (i + 1) (x.set i.toNat e')) ∧
      ∀ n q i (x : List α), x.length ≤ 1048576 → 0 ≤ i → i < (x.length : Int) → x.getD i.toNat d = e' → H (n + 1) x c q i = H n x c' q (i + 1))
    (x : List α) (hx : x.length ≤ 1048576) (hp : ∀ e ∈ x, P e) (c : Int) (h0 : 0 ≤ c) (h1 : c + M * x.length ≤ B) : ∃ y c', F N c 0 0 x = some (c', 0, y) ∧ y.length = x.length ∧ c ≤ c' ∧ c' ≤ c + M * x.length ∧ H N y c 0 0 = some (.inr (c', 0)) := by
  have hN : x.length < N := Nat.lt_of_le_of_lt hx (Nat.lt_trans (by omega) big)
  obtain ⟨y, c', a1, a2, a3, a4, _, a5⟩ := mhB_loop (d := d) hM f0 g0 f1 x.length N N x c 0 0 0 hx (fun j _ hj => hp _ (by
    rw [List.getD_eq_getElem?_getD, List.getElem?_eq_getElem hj]
    exact List.getElem_mem hj)) h0 h1 (by omega) (by omega) (by omega) hN hN
  exact ⟨y, c', a1, a2, a3, a4, a5⟩
theorem markIntB (x : List Int) (hx : x.length ≤ 1048576) (c : Int) (h0 : 0 ≤ c) (h1 : c ≤ 1152921504606846976) : ∃ y c', f_laws_markIntS x c = some (c', y) ∧ y.length = x.length ∧ c ≤ c' ∧ c' ≤ c + x.length ∧ f_laws_heldIntS y c = some c' := by
  obtain ⟨y, c', a1, a2, a3, a4, a5⟩ := mhB_gen (d := (0 : Int)) (F := f_laws_markIntS.l0) (H := f_laws_heldIntS.l0) (P := fun _ => True) (M := 1) (B := 2305843009213693952) (by omega)
    (fun n c q i x h => by simp only [f_laws_markIntS.l0, decide_eq_false h, cond_false]) (fun n x c q i h => by simp only [f_laws_heldIntS.l0, decide_eq_false h, cond_false])
    (fun c e _ h0 h1 => ⟨c, c + 1, by omega, by omega, fun n q i x hx hi0 hi1 _ => by
      simp only [f_laws_markIntS.l0, decide_eq_true hi1, decide_eq_true hi0, cond_true, Bool.and_self, Option.bind_some, w64 (show -9223372036854775808 ≤ c + 1 by omega) (by omega), w64 (show -9223372036854775808 ≤ i + 1 by omega) (by omega)],
      fun n q i x hx hi0 hi1 he => by
      simp only [f_laws_heldIntS.l0, decide_eq_true hi1, decide_eq_true hi0, cond_true, Bool.and_self, he, decide_true, Bool.not_true, cond_false, w64 (show -9223372036854775808 ≤ c + 1 by omega) (by omega), w64 (show -9223372036854775808 ≤ i + 1 by omega) (by omega)]⟩)
    x hx (fun _ _ => trivial) c h0 (by omega)
  refine ⟨y, c', ?_, a2, a3, by omega, ?_⟩
  · unfold f_laws_markIntS; rw [a1]; rfl
  · unfold f_laws_heldIntS; rw [a5]; rfl
theorem markIntS (x : List Int) (hx : x.length ≤ 1048576) (c : Int) (h0 : 0 ≤ c) (h1 : c ≤ 1099511627776) : ∃ y c', f_laws_markIntS x c = some (c', y) ∧ y.length = x.length ∧ c ≤ c' ∧ c' ≤ c + x.length ∧ f_laws_heldIntS y c = some c' := markIntB x hx c h0 (by omega)
theorem markHartS (x : List HartT) (hx : x.length ≤ 1048576) (he : ∀ e ∈ x, okHart e) (c : Int) (h0 : 0 ≤ c) (h1 : c ≤ 1099511627776) : ∃ y c', f_laws_markHartS x c = some (c', y) ∧ y.length = x.length ∧ c ≤ c' ∧ c' ≤ c + 1048578 * x.length ∧ f_laws_heldHartS y c = some c' := by
  obtain ⟨y, c', a1, a2, a3, a4, a5⟩ := mhB_gen (d := (([] : List Int), (0 : Int), (0 : Int))) (F := f_laws_markHartS.l0) (H := f_laws_heldHartS.l0) (P := okHart) (M := 1048578) (B := 1152921504606846976) (by omega)
    (fun n c q i x h => by simp only [f_laws_markHartS.l0, decide_eq_false h, cond_false]) (fun n x c q i h => by simp only [f_laws_heldHartS.l0, decide_eq_false h, cond_false])
    (fun c e he h0 h1 => by
      obtain ⟨y, c1, b1, b2, b3, b4, b5⟩ := markIntB e.1 he c h0 h1
      have hel : e.1.length ≤ 1048576 := he
      refine ⟨(y, c1, c1 + 1), c1 + 2, by omega, by omega, fun n q i x hx hi0 hi1 hxe => ?_, fun n q i x hx hi0 hi1 hxe => ?_⟩
      · simp only [f_laws_markHartS.l0, decide_eq_true hi1, decide_eq_true hi0, cond_true, Bool.and_self, hxe, b1, Option.bind_some, List.length_set, List.set_set, getD_set_self x _ _ i hi0 hi1, w64 (show -9223372036854775808 ≤ c1 + 1 by omega) (by omega), w64 (show -9223372036854775808 ≤ i + 1 by omega) (by omega), w64 (show -9223372036854775808 ≤ c1 + 1 + 1 by omega) (by omega)]
        rw [show c1 + 1 + 1 = c1 + 2 by omega]
      · simp only [f_laws_heldHartS.l0, decide_eq_true hi1, decide_eq_true hi0, cond_true, Bool.and_self, hxe, b5, Option.bind_some, decide_eq_false (show ¬ c1 < 0 by omega), cond_false, decide_true, Bool.not_true, w64 (show -9223372036854775808 ≤ c1 + 1 by omega) (by omega), w64 (show -9223372036854775808 ≤ i + 1 by omega) (by omega), w64 (show -9223372036854775808 ≤ c1 + 1 + 1 by omega) (by omega)]
        rw [show c1 + 1 + 1 = c1 + 2 by omega])
    x hx he c h0 (by omega)
  refine ⟨y, c', ?_, a2, a3, a4, ?_⟩
  · unfold f_laws_markHartS; rw [a1]; rfl
  · unfold f_laws_heldHartS; rw [a5]; rfl
theorem flatRun (x0 : List Int) (x1 : List HartT) (x2 : List Int) (hx : x1.length ≤ 9223372036854775807) (hb : ∀ e ∈ x1, bigHart e) : f_laws_FnExactFlatRun x0 x1 x2 = some true := by
  unfold f_laws_FnExactFlatRun
  by_cases h0 : (1048576 : Int) < (x0.length : Int)
  · rw [decide_eq_true h0]; rfl
  by_cases h2 : (1048576 : Int) < (x2.length : Int)
  · rw [decide_eq_false h0, decide_eq_true h2]; rfl
  rw [decide_eq_false h0, decide_eq_false h2, cond_false, cond_false]
  have hn0 : x0.length ≤ 1048576 := by omega
  have hn2 : x2.length ≤ 1048576 := by omega
  rcases szHartS x1 1048576 (by omega) (by omega) hx hb with h | ⟨l, h, l0, l1, hn1, he⟩
  · rw [h]; rfl
  · obtain ⟨r, h3, h4, h5, h6, h7⟩ := same_flatRun x0 x1 x2 hn0 hn1 hn2 he
    obtain ⟨y, c, m1, m2, m3, m4, m5⟩ := markIntS x0 hn0 1 (by omega) (by omega)
    obtain ⟨y1, c1, n1, n2, n3, n4, n5⟩ := markHartS x1 hn1 he c (by omega) (by omega)
    obtain ⟨y2, c2, o1, o2, o3, o4, o5⟩ := markIntB x2 hn2 c1 (by omega) (by omega)
    obtain ⟨y', c', k1, k2, k3, k4, k5⟩ := markIntS r.1 h5 1 (by omega) (by omega)
    obtain ⟨y1', c1', q1, q2, q3, q4, q5⟩ := markHartS r.2 h6 h7 c' (by omega) (by omega)
    simp only [h, cond_false, Option.bind_some, decide_eq_false (show ¬ l < 0 by omega), toHartS x1 hn1 he, toIntS _ hn0, toIntS _ hn2, h3, h4, eqIntS _ hn0, eqIntS _ hn2, eqIntS _ h5, eqHartS x1 hn1 he, eqHartS _ h6 h7, Bool.not_true, decide_true, m1, n1, o1, k1, k5, q1, q5, decide_eq_false (show ¬ c2 < 0 by omega), decide_eq_false (show ¬ c' < 0 by omega), decide_eq_false (show ¬ c1' < 0 by omega)]
theorem plain : Pure := fun x h => flatRun x.1 x.2.1 x.2.2 h.2.1.1 (all_getD (d := ([], 0, 0)) fun i hi => (h.2.1.2 i hi).1.1)
end Go.Abs
