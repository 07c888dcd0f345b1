/- The law FnExactBlockOf returns true for all words and every place: the program's BlockOf gives the reference's block, in a row of its own, and turns nothing that it was handed. More than 2^20 words are not asked for. -/
import Derived.Test.YtgifligfbjnmfaaMFnExactBlockOf
import Derived.Laws.BitsLemmas
namespace Go.Abs
open Go.RowKit

theorem w64 {n : Int} (h0 : -9223372036854775808 ≤ n) (h1 : n ≤ 9223372036854775807) : IntKind.wrap .i64 n = n := by
  rw [IntKind.wrap_i64]
  omega
theorem succ_fuel {n d : Nat} (h : d < n) : ∃ m, n = m + 1 := ⟨n - 1, by omega⟩
theorem big : (1048577 : Nat) < N := by decide
def rng (x m : Int) : Bool := decide ((0 : Int) ≤ x) && decide (x ≤ m)
theorem in_rng (x m : Int) : f_spec_l1In x 0 m = some (rng x m) := by
  unfold f_spec_l1In rng
  cases decide ((0 : Int) ≤ x) <;> rfl
theorem from_rng (x m : Int) : f_impl_from x 0 m = some (rng x m) := by
  unfold f_impl_from rng
  cases decide ((0 : Int) ≤ x) <;> rfl
theorem field_eq (x m : Int) (h : Bool) : f_spec_l8Field x m h = some (rng x m && (h || decide (x = 0))) := by
  unfold f_spec_l8Field
  rw [in_rng]
  simp only [Option.bind_some]
  cases rng x m <;> cases h <;> rfl
theorem chain (a b c d : Bool) : (bif a then (bif b then (bif c then some d else some false) else some false) else some false) = some (a && (b && (c && d))) := by
  cases a <;> cases b <;> cases c <;> rfl
/-- What the reference says of an instruction with these letters. -/
theorem spec_ins (x0 x1 x2 x3 x4 m : Int) (h1 h2 h3 h4 : Bool) (hm : f_spec_l8Has x0 = some m) (hin : f_spec_l1In x0 1 10 = some true)
    (b1 : (!(decide (bitI .and .i64 m (1 : Int) = (0 : Int)))) = h1) (b2 : (!(decide (bitI .and .i64 m (2 : Int) = (0 : Int)))) = h2) (b3 : (!(decide (bitI .and .i64 m (4 : Int) = (0 : Int)))) = h3) (b4 : (!(decide (bitI .and .i64 m (8 : Int) = (0 : Int)))) = h4) :
    f_spec_InsOk x0 x1 x2 x3 x4 = some ((rng x1 3 && (h1 || decide (x1 = 0))) && ((rng x2 3 && (h2 || decide (x2 = 0))) && ((rng x3 3 && (h3 || decide (x3 = 0))) && (rng x4 63 && (h4 || decide (x4 = 0)))))) := by
  unfold f_spec_InsOk
  simp only [hm, hin, Option.bind_some, b1, b2, b3, b4, field_eq, cond_true]
  rw [← chain]
theorem impl_ins (x0 x1 x2 x3 x4 r a b n : Int) (s : ByteArray) (hf : f_impl_form x0 = some (s, true))
    (hl : f_impl_InsOk.l0 N false s true (s.size : Int) 0 x0 x1 x2 x3 x4 x0 0 0 0 0 = some (false, true, x0, x1, x2, x3, x4, x0, r, a, b, n)) :
    f_impl_InsOk x0 x1 x2 x3 x4 = some ((decide (r = x1) && (decide (a = x2) && (decide (b = x3) && decide (n = x4)))) && (rng x1 3 && (rng x2 3 && (rng x3 3 && rng x4 63)))) := by
  unfold f_impl_InsOk
  simp only [hf, Option.bind_some, hl, cond_true, decide_true, Bool.true_and, from_rng]
  rw [chain]
  cases (decide (r = x1) && (decide (a = x2) && (decide (b = x3) && decide (n = x4)))) <;> rfl
theorem sym (x : Int) : decide ((0 : Int) = x) = decide (x = 0) := by
  by_cases h : x = 0
  · subst h; rfl
  · rw [decide_eq_false h, decide_eq_false (fun e => h e.symm)]
theorem alg : ∀ a b c d e f g h : Bool, ((a && (true || e)) && ((b && (true || f)) && ((c && (true || g)) && (d && (true || h))))) = ((true && (true && (true && true))) && (a && (b && (c && d)))) := by decide

theorem same_ins (x0 x1 x2 x3 x4 : Int) : ∃ b, f_spec_InsOk x0 x1 x2 x3 x4 = some b ∧ f_impl_InsOk x0 x1 x2 x3 x4 = some b := by
  obtain ⟨k, hk⟩ : ∃ k : Nat, N = k + 6 := ⟨1152921504606846970, rfl⟩
  by_cases hin : (1 : Int) ≤ x0 ∧ x0 ≤ 10
  · have hi : f_spec_l1In x0 1 10 = some true := by unfold f_spec_l1In; rw [decide_eq_true hin.1, decide_eq_true hin.2]; rfl
    have : x0 = 1 ∨ x0 = 2 ∨ x0 = 3 ∨ x0 = 4 ∨ x0 = 5 ∨ x0 = 6 ∨ x0 = 7 ∨ x0 = 8 ∨ x0 = 9 ∨ x0 = 10 := by omega
    rcases this with rfl | rfl | rfl | rfl | rfl | rfl | rfl | rfl | rfl | rfl
    · refine ⟨_, spec_ins 1 x1 x2 x3 x4 9 true false false true rfl hi (by decide) (by decide) (by decide) (by decide), ?_⟩
      rw [impl_ins 1 x1 x2 x3 x4 x1 0 0 x4 ⟨#[82, 78]⟩ rfl (by rw [hk]; rfl)]
      simp only [decide_true, sym]
      cases rng x1 3 <;> cases rng x2 3 <;> cases rng x3 3 <;> cases rng x4 63 <;> cases decide (x2 = 0) <;> cases decide (x3 = 0) <;> simp
    · refine ⟨_, spec_ins 2 x1 x2 x3 x4 7 true true true false rfl hi (by decide) (by decide) (by decide) (by decide), ?_⟩
      rw [impl_ins 2 x1 x2 x3 x4 x1 x2 x3 0 ⟨#[82, 65, 66]⟩ rfl (by rw [hk]; rfl)]
      simp only [decide_true, sym]
      cases rng x1 3 <;> cases rng x2 3 <;> cases rng x3 3 <;> cases rng x4 63 <;> cases decide (x4 = 0) <;> simp
    · refine ⟨_, spec_ins 3 x1 x2 x3 x4 11 true true false true rfl hi (by decide) (by decide) (by decide) (by decide), ?_⟩
      rw [impl_ins 3 x1 x2 x3 x4 x1 x2 0 x4 ⟨#[82, 65, 78]⟩ rfl (by rw [hk]; rfl)]
      simp only [decide_true, sym]
      cases rng x1 3 <;> cases rng x2 3 <;> cases rng x3 3 <;> cases rng x4 63 <;> cases decide (x3 = 0) <;> simp
    · refine ⟨_, spec_ins 4 x1 x2 x3 x4 11 true true false true rfl hi (by decide) (by decide) (by decide) (by decide), ?_⟩
      rw [impl_ins 4 x1 x2 x3 x4 x1 x2 0 x4 ⟨#[82, 65, 78]⟩ rfl (by rw [hk]; rfl)]
      simp only [decide_true, sym]
      cases rng x1 3 <;> cases rng x2 3 <;> cases rng x3 3 <;> cases rng x4 63 <;> cases decide (x3 = 0) <;> simp
    · refine ⟨_, spec_ins 5 x1 x2 x3 x4 14 false true true true rfl hi (by decide) (by decide) (by decide) (by decide), ?_⟩
      rw [impl_ins 5 x1 x2 x3 x4 0 x2 x3 x4 ⟨#[65, 66, 78]⟩ rfl (by rw [hk]; rfl)]
      simp only [decide_true, sym]
      cases rng x1 3 <;> cases rng x2 3 <;> cases rng x3 3 <;> cases rng x4 63 <;> cases decide (x1 = 0) <;> simp
    · refine ⟨_, spec_ins 6 x1 x2 x3 x4 15 true true true true rfl hi (by decide) (by decide) (by decide) (by decide), ?_⟩
      rw [impl_ins 6 x1 x2 x3 x4 x1 x2 x3 x4 ⟨#[82, 65, 66, 78]⟩ rfl (by rw [hk]; rfl)]
      simp only [decide_true]
      cases rng x1 3 <;> cases rng x2 3 <;> cases rng x3 3 <;> cases rng x4 63 <;> simp
    · refine ⟨_, spec_ins 7 x1 x2 x3 x4 10 false true false true rfl hi (by decide) (by decide) (by decide) (by decide), ?_⟩
      rw [impl_ins 7 x1 x2 x3 x4 0 x2 0 x4 ⟨#[65, 78]⟩ rfl (by rw [hk]; rfl)]
      simp only [decide_true, sym]
      cases rng x1 3 <;> cases rng x2 3 <;> cases rng x3 3 <;> cases rng x4 63 <;> cases decide (x1 = 0) <;> cases decide (x3 = 0) <;> simp
    · refine ⟨_, spec_ins 8 x1 x2 x3 x4 8 false false false true rfl hi (by decide) (by decide) (by decide) (by decide), ?_⟩
      rw [impl_ins 8 x1 x2 x3 x4 0 0 0 x4 ⟨#[78]⟩ rfl (by rw [hk]; rfl)]
      simp only [decide_true, sym]
      cases rng x1 3 <;> cases rng x2 3 <;> cases rng x3 3 <;> cases rng x4 63 <;> cases decide (x1 = 0) <;> cases decide (x2 = 0) <;> cases decide (x3 = 0) <;> simp
    · refine ⟨_, spec_ins 9 x1 x2 x3 x4 0 false false false false rfl hi (by decide) (by decide) (by decide) (by decide), ?_⟩
      rw [impl_ins 9 x1 x2 x3 x4 0 0 0 0 ⟨#[]⟩ rfl (by rw [hk]; rfl)]
      simp only [sym]
      cases rng x1 3 <;> cases rng x2 3 <;> cases rng x3 3 <;> cases rng x4 63 <;> cases decide (x1 = 0) <;> cases decide (x2 = 0) <;> cases decide (x3 = 0) <;> cases decide (x4 = 0) <;> simp
    · refine ⟨_, spec_ins 10 x1 x2 x3 x4 7 true true true false rfl hi (by decide) (by decide) (by decide) (by decide), ?_⟩
      rw [impl_ins 10 x1 x2 x3 x4 x1 x2 x3 0 ⟨#[82, 65, 66]⟩ rfl (by rw [hk]; rfl)]
      simp only [decide_true, sym]
      cases rng x1 3 <;> cases rng x2 3 <;> cases rng x3 3 <;> cases rng x4 63 <;> cases decide (x4 = 0) <;> simp
  · refine ⟨false, ?_, ?_⟩
    · have hi : f_spec_l1In x0 1 10 = some false := by
        unfold f_spec_l1In
        by_cases h1 : (1 : Int) ≤ x0
        · rw [decide_eq_true h1, decide_eq_false (fun h => hin ⟨h1, h⟩)]; rfl
        · rw [decide_eq_false h1]; rfl
      unfold f_spec_InsOk f_spec_l8Has
      simp only [hi, Option.bind_some, Bool.not_false, cond_true, cond_false]
    · have hf : f_impl_form x0 = some (⟨#[]⟩, false) := by
        unfold f_impl_form
        rw [decide_eq_false (by omega), decide_eq_false (by omega), decide_eq_false (by omega), decide_eq_false (by omega), decide_eq_false (by omega), decide_eq_false (by omega), decide_eq_false (by omega), decide_eq_false (by omega), decide_eq_false (by omega), decide_eq_false (by omega)]
        rfl
      have hl : f_impl_InsOk.l0 N false ⟨#[]⟩ false ((⟨#[]⟩ : ByteArray).size : Int) 0 x0 x1 x2 x3 x4 x0 0 0 0 0 = some (false, false, x0, x1, x2, x3, x4, x0, 0, 0, 0, 0) := by rw [hk]; rfl
      unfold f_impl_InsOk
      simp only [hf, Option.bind_some, hl, cond_false]

theorem mem_getD {α : Type} (x : List α) (d : α) (i : Int) (h0 : 0 ≤ i) (h1 : i < x.length) : x.getD i.toNat d ∈ x := by
  have hlt : i.toNat < x.length := by omega
  rw [List.getD_eq_getElem?_getD, List.getElem?_eq_getElem hlt]
  exact List.getElem_mem hlt
theorem drop_getD {α : Type} (x : List α) (d : α) (i : Int) (h0 : 0 ≤ i) (h1 : i < x.length) : x.drop i.toNat = x.getD i.toNat d :: x.drop (i + 1).toNat := by
  have hlt : i.toNat < x.length := by omega
  have e : (i + 1).toNat = i.toNat + 1 := by omega
  rw [e, List.drop_eq_getElem_cons hlt, List.getD_eq_getElem?_getD, List.getElem?_eq_getElem hlt]
  rfl
theorem to_gen {α : Type} {d : α} {F : Nat → List α → Int → List α → Option (List α)} {g : α → Option α}
    (hs : ∀ n x i y, F (n + 1) x i y = bif decide (i < (x.length : Int)) then (bif (decide ((0 : Int) ≤ i) && decide (i < (x.length : Int))) then (g (x.getD i.toNat d)).bind fun e => (bif (decide ((0 : Int) ≤ i) && decide (i < (y.length : Int))) then F n x (IntKind.wrap .i64 (i + 1)) (y.set i.toNat e) else none) else none) else some y)
    (x : List α) (hn : x.length ≤ 1048576) (hg : ∀ e ∈ x, g e = some e) (k : Nat) : ∀ (n : Nat) (y : List α) (i : Int), 0 ≤ i → i ≤ x.length → (x.length : Int) - i = k → k < n → y.length = x.length → y.take i.toNat = x.take i.toNat → F n x i y = some x := by
  induction k with
  | zero =>
    intro n y i h0 h1 hd hk hl ht
    obtain ⟨n, rfl⟩ := succ_fuel hk
    rw [hs, decide_eq_false (by omega), cond_false]
    rw [List.take_of_length_le (by omega), List.take_of_length_le (by omega)] at ht
    rw [ht]
  | succ k ih =>
    intro n y i h0 h1 hd hk hl ht
    obtain ⟨n, rfl⟩ := succ_fuel hk
    have hw : IntKind.wrap .i64 (i + 1) = i + 1 := w64 (by omega) (by omega)
    have hlt : i.toNat < x.length := by omega
    rw [hs, decide_eq_true (show i < (x.length : Int) by omega), decide_eq_true h0, decide_eq_true (show i < (y.length : Int) by omega), hw, hg _ (mem_getD x d i h0 (by omega))]
    simp only [cond_true, Bool.and_self, Option.bind_some]
    refine ih n _ (i + 1) (by omega) (by omega) (by omega) (by omega) (by rw [List.length_set]; exact hl) ?_
    have e : (i + 1).toNat = i.toNat + 1 := by omega
    rw [e, List.take_add_one, List.take_add_one, List.take_set, List.getElem?_set_self (by omega), List.getElem?_eq_getElem hlt]
    have : x.getD i.toNat d = x[i.toNat] := by rw [List.getD_eq_getElem?_getD, List.getElem?_eq_getElem hlt]; rfl
    rw [this, List.set_eq_of_length_le (by rw [List.length_take]; omega), ht]
theorem eq_gen {α : Type} {d : α} {F : Nat → List α → List α → Bool → Int → Option (Bool ⊕ Bool)} {q : α → α → Option Bool}
    (hs : ∀ n x y b i, F (n + 1) x y b i = bif decide (i < (x.length : Int)) then (bif (decide ((0 : Int) ≤ i) && decide (i < (x.length : Int))) then (bif (decide ((0 : Int) ≤ i) && decide (i < (y.length : Int))) then (q (x.getD i.toNat d) (y.getD i.toNat d)).bind fun r => (bif (!r) then some (.inl false) else F n x y b (IntKind.wrap .i64 (i + 1))) else none) else none) else some (.inr b))
    (x : List α) (hn : x.length ≤ 1048576) (hq : ∀ e ∈ x, q e e = some true) (b : Bool) (k : Nat) : ∀ (n : Nat) (i : Int), 0 ≤ i → i ≤ x.length → (x.length : Int) - i = k → k < n → F n x x b i = some (.inr b) := by
  induction k with
  | zero =>
    intro n i h0 h1 hd hk
    obtain ⟨n, rfl⟩ := succ_fuel hk
    rw [hs, decide_eq_false (by omega), cond_false]
  | succ k ih =>
    intro n i h0 h1 hd hk
    obtain ⟨n, rfl⟩ := succ_fuel hk
    have hw : IntKind.wrap .i64 (i + 1) = i + 1 := w64 (by omega) (by omega)
    rw [hs, decide_eq_true (show i < (x.length : Int) by omega), decide_eq_true h0, hw, hq _ (mem_getD x d i h0 (by omega))]
    simp only [cond_true, Bool.and_self, Option.bind_some, Bool.not_true, cond_false]
    exact ih n (i + 1) (by omega) (by omega) (by omega) (by omega)
theorem sz_gen {α : Type} {d : α} {F : Nat → List α → Int → Int → Int → Option (Int ⊕ (Int × Int))} {s : α → Int → Option Int} {Ok : α → Prop}
    (hs : ∀ n x l q i, F (n + 1) x l q i = bif decide (i < (x.length : Int)) then (bif (decide ((0 : Int) ≤ i) && decide (i < (x.length : Int))) then (s (x.getD i.toNat d) l).bind fun r => (bif decide (r < 0) then some (.inl (-1)) else F n x r q (IntKind.wrap .i64 (i + 1))) else none) else some (.inr (l, q)))
    (x : List α) (hn : x.length ≤ 1048576) (he : ∀ e ∈ x, ∀ l, 0 ≤ l → l ≤ 1048576 → s e l = some (-1) ∨ ∃ l', s e l = some l' ∧ 0 ≤ l' ∧ l' ≤ l ∧ Ok e) (q : Int) (k : Nat) :
    ∀ (n : Nat) (l i : Int), 0 ≤ l → l ≤ 1048576 → 0 ≤ i → i ≤ x.length → (x.length : Int) - i = k → k < n → F n x l q i = some (.inl (-1)) ∨ ∃ l', F n x l q i = some (.inr (l', q)) ∧ 0 ≤ l' ∧ l' ≤ l ∧ ∀ e ∈ x.drop i.toNat, Ok e := by
  induction k with
  | zero =>
    intro n l i hl0 hl1 h0 h1 hd hk
    obtain ⟨n, rfl⟩ := succ_fuel hk
    rw [hs, decide_eq_false (show ¬ i < (x.length : Int) by omega), cond_false, List.drop_eq_nil_of_le (by omega)]
    exact .inr ⟨l, rfl, hl0, Int.le_refl _, fun e h => by cases h⟩
  | succ k ih =>
    intro n l i hl0 hl1 h0 h1 hd hk
    obtain ⟨n, rfl⟩ := succ_fuel hk
    have hw : IntKind.wrap .i64 (i + 1) = i + 1 := w64 (by omega) (by omega)
    rw [hs, decide_eq_true (show i < (x.length : Int) by omega), decide_eq_true h0, hw]
    simp only [cond_true, Bool.and_self]
    rcases he _ (mem_getD x d i h0 (by omega)) l hl0 hl1 with h | ⟨l', h, a0, a1, a2⟩
    · rw [h]; exact .inl rfl
    · rw [h, Option.bind_some, decide_eq_false (show ¬ l' < 0 by omega), cond_false]
      rcases ih n l' (i + 1) a0 (by omega) (by omega) (by omega) (by omega) (by omega) with h2 | ⟨l2, h2, b0, b1, b2⟩
      · exact .inl h2
      · refine .inr ⟨l2, h2, b0, by omega, fun e hm => ?_⟩
        rw [drop_getD x d i h0 (by omega)] at hm
        rcases List.mem_cons.1 hm with rfl | hm
        · exact a2
        · exact b2 e hm
theorem lt_N {x : Nat} (h : x ≤ 1048576) : x < N := Nat.lt_of_le_of_lt h (Nat.lt_trans (by omega) big)
theorem toIntS_loop (x : List Int) (hn : x.length ≤ 1048576) (d : Nat) : ∀ (n : Nat) (y : List Int) (i : Int), 0 ≤ i → i ≤ x.length → (x.length : Int) - i = d → d < n → y.length = x.length → y.take i.toNat = x.take i.toNat → f_laws_toIntS.l0 n x i y = some x := by
  induction d with
  | zero =>
    intro n y i h0 h1 hd hk hl ht
    obtain ⟨n, rfl⟩ := succ_fuel hk
    simp only [f_laws_toIntS.l0]
    rw [decide_eq_false (by omega), cond_false]
    rw [List.take_of_length_le (by omega), List.take_of_length_le (by omega)] at ht
    rw [ht]
  | succ d ih =>
    intro n y i h0 h1 hd hk hl ht
    obtain ⟨n, rfl⟩ := succ_fuel hk
    have hw : IntKind.wrap .i64 (i + 1) = i + 1 := w64 (by omega) (by omega)
    have hlt : i.toNat < x.length := by omega
    simp only [f_laws_toIntS.l0]
    rw [decide_eq_true (show i < (x.length : Int) by omega), decide_eq_true h0, decide_eq_true (show i < (y.length : Int) by omega), hw]
    simp only [cond_true, Bool.and_self, Option.bind_some]
    refine ih n _ (i + 1) (by omega) (by omega) (by omega) (by omega) (by rw [List.length_set]; exact hl) ?_
    have e : (i + 1).toNat = i.toNat + 1 := by omega
    rw [e, List.take_add_one, List.take_add_one, List.take_set, List.getElem?_set_self (by omega), List.getElem?_eq_getElem hlt]
    have : x.getD i.toNat 0 = x[i.toNat] := by rw [List.getD_eq_getElem?_getD, List.getElem?_eq_getElem hlt]; rfl
    rw [this, List.set_eq_of_length_le (by rw [List.length_take]; omega), ht]
theorem toIntS (x : List Int) (hn : x.length ≤ 1048576) : f_laws_toIntS x = some x := by
  unfold f_laws_toIntS
  rw [decide_eq_true (by omega), show Nat.ble ((x.length : Int).toNat) 17592186044416 = true from Nat.ble_eq_true_of_le (by omega)]
  simp only [Bool.and_self, cond_true]
  rw [toIntS_loop x hn x.length N _ 0 (by omega) (by omega) (by omega) (Nat.lt_of_le_of_lt (by omega) big) (by simp) (by simp)]
  rfl
theorem eqIntS_loop (x : List Int) (hn : x.length ≤ 1048576) (b : Bool) (d : Nat) : ∀ (n : Nat) (i : Int), 0 ≤ i → i ≤ x.length → (x.length : Int) - i = d → d < n → f_laws_eqIntS.l0 n x x b i = some (.inr b) := by
  induction d with
  | zero =>
    intro n i h0 h1 hd hk
    obtain ⟨n, rfl⟩ := succ_fuel hk
    simp only [f_laws_eqIntS.l0]
    rw [decide_eq_false (by omega), cond_false]
  | succ d ih =>
    intro n i h0 h1 hd hk
    obtain ⟨n, rfl⟩ := succ_fuel hk
    have hw : IntKind.wrap .i64 (i + 1) = i + 1 := w64 (by omega) (by omega)
    simp only [f_laws_eqIntS.l0]
    rw [decide_eq_true (show i < (x.length : Int) by omega), decide_eq_true h0, hw]
    simp only [cond_true, Bool.and_self, decide_true, Bool.not_true, cond_false]
    exact ih n (i + 1) (by omega) (by omega) (by omega) (by omega)
theorem eqIntS (x : List Int) (hn : x.length ≤ 1048576) : f_laws_eqIntS x x = some true := by
  unfold f_laws_eqIntS
  simp only [decide_true, Bool.not_true, cond_false]
  rw [eqIntS_loop x hn false x.length N 0 (by omega) (by omega) (by omega) (Nat.lt_of_le_of_lt (by omega) big)]
  rfl
theorem eqIns_self (a b c d e : Int) : f_laws_eqIns a b c d e a b c d e = some true := by simp [f_laws_eqIns]
theorem eqInsS (x : List (Int × Int × Int × Int × Int)) (hn : x.length ≤ 1048576) : f_laws_eqInsS x x = some true := by
  unfold f_laws_eqInsS
  simp only [decide_true, Bool.not_true, cond_false]
  rw [eq_gen (F := f_laws_eqInsS.l0) (q := fun e f => f_laws_eqIns e.1 e.2.1 e.2.2.1 e.2.2.2.1 e.2.2.2.2 f.1 f.2.1 f.2.2.1 f.2.2.2.1 f.2.2.2.2) (d := (0, 0, 0, 0, 0)) (fun n x y b i => rfl) x hn (fun e _ => eqIns_self _ _ _ _ _) false x.length N 0 (by omega) (by omega) (by omega) (lt_N hn)]
  rfl
theorem eqBlock_self (a : Int) (x : List (Int × Int × Int × Int × Int)) (hn : x.length ≤ 1048576) : f_laws_eqBlock a x a x = some true := by
  unfold f_laws_eqBlock
  simp only [decide_true, Bool.not_true, cond_false, eqInsS x hn, Option.bind_some]
theorem same_decode (x0 : Int) : ∃ r, f_spec_Decode x0 = some r ∧ f_impl_Decode x0 = some r := by
  obtain ⟨b, h1, h2⟩ := same_ins (Int.tmod x0 (16 : Int)) (Int.tmod (IntKind.wrap .i64 (Int.tdiv x0 (16 : Int))) (4 : Int)) (Int.tmod (IntKind.wrap .i64 (Int.tdiv x0 (64 : Int))) (4 : Int)) (Int.tmod (IntKind.wrap .i64 (Int.tdiv x0 (256 : Int))) (4 : Int)) (IntKind.wrap .i64 (Int.tdiv x0 (1024 : Int)))
  unfold f_spec_Decode f_impl_Decode f_impl_isWord
  simp only [in_rng, from_rng, Option.bind_some, h1, h2]
  cases rng x0 65535 <;> cases b <;> exact ⟨_, rfl, rfl⟩
def ends1 (b : Bool) (x : Int) : Bool := !b || (decide (x = 7) || (decide (x = 8) || decide (x = 9)))
theorem same_ends (x0 x1 x2 x3 x4 : Int) : ∃ b, f_spec_InsOk x0 x1 x2 x3 x4 = some b ∧ f_impl_InsOk x0 x1 x2 x3 x4 = some b ∧ f_spec_Ends x0 x1 x2 x3 x4 = some (ends1 b x0) ∧ f_impl_Ends x0 x1 x2 x3 x4 = some (ends1 b x0) := by
  obtain ⟨b, h1, h2⟩ := same_ins x0 x1 x2 x3 x4
  refine ⟨b, h1, h2, ?_, ?_⟩
  · unfold f_spec_Ends ends1
    simp only [h1, Option.bind_some]
    cases b <;> cases decide (x0 = 7) <;> cases decide (x0 = 8) <;> cases decide (x0 = 9) <;> rfl
  · unfold f_impl_Ends ends1
    simp only [h2, Option.bind_some]
    cases b <;> cases decide (x0 = 7) <;> cases decide (x0 = 8) <;> cases decide (x0 = 9) <;> rfl
theorem getD_drop' {α : Type} (x : List α) (t j : Nat) (d : α) : (x.drop t).getD j d = x.getD (t + j) d := by
  rw [List.getD_eq_getElem?_getD, List.getD_eq_getElem?_getD, List.getElem?_drop]
theorem blockOf_loop (x : List Int) (hx : x.length = 4) (t : Nat) (ht : t ≤ 3) (q : Int) (x1 : Int) (k : Nat) : ∀ (n m : Nat) (i : Int) (y : List (Int × Int × Int × Int × Int)), (t : Int) ≤ i → i ≤ 4 → 4 - i = k → k < n → k < m → y.length + k ≤ 100 →
    ∃ r, (f_spec_BlockOf.l0 n x i q x1 [] y = some (.inl (x1, r)) ∨ f_spec_BlockOf.l0 n x i q x1 [] y = some (.inr (q, x1, [], r))) ∧ f_impl_BlockOf.l0 m (x.drop t) ((x.drop t).length : Int) (i - t) 0 x1 [] y = some (0, x1, [], r) ∧ r.length ≤ y.length + k := by
  have hdl : ((x.drop t).length : Int) = 4 - t := by rw [List.length_drop, hx]; omega
  rw [hdl]
  induction k with
  | zero =>
    intro n m i y a0 a1 hd hn hm hy
    obtain ⟨n, rfl⟩ := succ_fuel hn
    obtain ⟨m, rfl⟩ := succ_fuel hm
    refine ⟨y, .inr ?_, ?_, by omega⟩
    · simp only [f_spec_BlockOf.l0, decide_eq_false (show ¬ i < 4 by omega), cond_false]
    · simp only [f_impl_BlockOf.l0, decide_eq_false (show ¬ i - (t : Int) < 4 - t by omega), cond_false]
  | succ k ih =>
    intro n m i y a0 a1 hd hn hm hy
    obtain ⟨n, rfl⟩ := succ_fuel hn
    obtain ⟨m, rfl⟩ := succ_fuel hm
    obtain ⟨d, d1, d2⟩ := same_decode (x.getD i.toNat 0)
    obtain ⟨b, _, _, e1, e2⟩ := same_ends d.1 d.2.1 d.2.2.1 d.2.2.2.1 d.2.2.2.2.1
    have hg : (x.drop t).getD (i - t).toNat 0 = x.getD i.toNat 0 := by rw [getD_drop', show t + (i - t).toNat = i.toNat by omega]
    simp only [f_spec_BlockOf.l0, f_impl_BlockOf.l0, decide_eq_true (show i < 4 by omega), decide_eq_true (show i < (x.length : Int) by omega), decide_eq_true (show (0 : Int) ≤ i by omega), decide_eq_true (show (0 : Int) ≤ i - t by omega), decide_eq_true (show i - (t : Int) < 4 - t by omega), decide_eq_true (show i - (t : Int) < ((x.drop t).length : Int) by omega),
      Bool.and_self, cond_true, hg, d1, d2, e1, e2, Option.bind_some, List.length_cons, List.length_nil, Nat.zero_add, (blt_iff _ _).2 (show y.length + 1 < 3518437208883 by omega), w64 (show -9223372036854775808 ≤ i + 1 by omega) (by omega), w64 (show -9223372036854775808 ≤ i - t + 1 by omega) (by omega)]
    cases ends1 b d.1 with
    | true => exact ⟨_, .inl rfl, rfl, by simp⟩
    | false =>
      obtain ⟨r, r1, r2, r3⟩ := ih n m (i + 1) (y ++ [(d.1, d.2.1, d.2.2.1, d.2.2.2.1, d.2.2.2.2.1)]) (by omega) (by omega) (by omega) (by omega) (by omega) (by simp; omega)
      rw [show i - (t : Int) + 1 = i + 1 - t by omega]
      exact ⟨r, r1, r2, by simp at r3; omega⟩
theorem same_blockOf (x : List Int) (x1 : Int) : ∃ r, f_spec_BlockOf x x1 = some r ∧ f_impl_BlockOf x x1 = some r ∧ r.2.length ≤ 100 := by
  unfold f_spec_BlockOf f_impl_BlockOf f_impl_isCell
  by_cases hx : (x.length : Int) = 4
  · simp only [decide_eq_true hx, Bool.not_true, cond_false, in_rng, from_rng, Option.bind_some]
    cases hr : rng x1 23 with
    | false => exact ⟨_, rfl, rfl, by simp⟩
    | true =>
      unfold rng at hr
      simp only [Bool.and_eq_true, decide_eq_true_eq] at hr
      have ht : Int.tmod x1 4 = x1 % 4 := Int.tmod_eq_emod_of_nonneg hr.1
      have hN : 4 < N := Nat.lt_trans (by omega) big
      obtain ⟨r, r1, r2, r3⟩ := blockOf_loop x (by omega) (x1 % 4).toNat (by omega) 0 x1 (4 - (x1 % 4).toNat) N N (x1 % 4) [] (by omega) (by omega) (by omega) (Nat.lt_of_le_of_lt (Nat.sub_le _ _) hN) (Nat.lt_of_le_of_lt (Nat.sub_le _ _) hN) (by simp; omega)
      rw [show x1 % 4 - ((x1 % 4).toNat : Int) = 0 by omega] at r2
      simp only [Bool.not_true, cond_false, ht, decide_eq_true (show (0 : Int) ≤ x1 % 4 by omega), decide_eq_true (show x1 % 4 ≤ (x.length : Int) by omega), Bool.and_self, cond_true, r2, Option.bind_some]
      refine ⟨(x1, r), ?_, rfl, by simp at r3; simp; omega⟩
      rcases r1 with r1 | r1 <;> rw [r1] <;> rfl
  · rw [decide_eq_false hx]; exact ⟨_, rfl, rfl, by simp⟩
theorem getD_set_self {α : Type} (x : List α) (d e : α) (i : Int) (h0 : 0 ≤ i) (h1 : i < x.length) : (x.set i.toNat e).getD i.toNat d = e := by
  rw [List.getD_eq_getElem?_getD, List.getElem?_set_self (by omega)]; rfl
theorem getD_set_other {α : Type} (x : List α) (d e : α) (i j : Nat) (h : i ≠ j) : (x.set i e).getD j d = x.getD j d := by
  rw [List.getD_eq_getElem?_getD, List.getElem?_set_ne h, List.getD_eq_getElem?_getD]
theorem mh_loop {α : Type} {d : α} {F : Nat → Int → Int → Int → List α → Option (Int × Int × List α)} {H : Nat → List α → Int → Int → Int → Option (Int ⊕ (Int × Int))} {P : α → Prop} {M : Int} (hM : 0 ≤ M)
    (f0 : ∀ n c q i x, ¬ i < (x.length : Int) → F (n + 1) c q i x = some (c, q, x)) (g0 : ∀ n x c q i, ¬ i < (x.length : Int) → H (n + 1) x c q i = some (.inr (c, q)))
    (f1 : ∀ c e, P e → 0 ≤ c → c ≤ 1152921504606846976 → ∃ e' c', c ≤ c' ∧ c' ≤ c + M ∧ (∀ n q i (x : List α), x.length ≤ 1048576 → 0 ≤ i → i < (x.length : Int) → x.getD i.toNat d = e → F (n + 1) c q i x = F n c' q (i + 1) (x.set i.toNat e')) ∧
      ∀ n q i (x : List α), x.length ≤ 1048576 → 0 ≤ i → i < (x.length : Int) → x.getD i.toNat d = e' → H (n + 1) x c q i = H n x c' q (i + 1))
    (k : Nat) : ∀ (n m : Nat) (x : List α) (c q q' i : Int), x.length ≤ 1048576 → (∀ j : Nat, i.toNat ≤ j → j < x.length → P (x.getD j d)) → 0 ≤ c → c + M * k ≤ 1152921504606846976 → 0 ≤ i → i ≤ x.length → (x.length : Int) - i = k → k < n → k < m →
      ∃ y c', F n c q i x = some (c', q, y) ∧ y.length = x.length ∧ c ≤ c' ∧ c' ≤ c + M * k ∧ (∀ j : Nat, j < i.toNat → y.getD j d = x.getD j d) ∧ H m y c q' i = some (.inr (c', q')) := by
  induction k with
  | zero =>
    intro n m x c q q' i hx hp hc0 hc1 h0 h1 hd hn hm
    obtain ⟨n, rfl⟩ := succ_fuel hn
    obtain ⟨m, rfl⟩ := succ_fuel hm
    exact ⟨x, c, f0 n c q i x (by omega), rfl, Int.le_refl _, by omega, fun _ _ => rfl, g0 m x c q' i (by omega)⟩
  | succ k ih =>
    intro n m x c q q' i hx hp hc0 hc1 h0 h1 hd hn hm
    obtain ⟨n, rfl⟩ := succ_fuel hn
    obtain ⟨m, rfl⟩ := succ_fuel hm
    have e1 : M * ((k + 1 : Nat) : Int) = M * (k : Int) + M := by rw [Int.natCast_add, Int.mul_add]; simp
    have e2 : 0 ≤ M * (k : Int) := Int.mul_nonneg hM (by omega)
    rw [e1] at hc1 ⊢
    obtain ⟨e', c1, b1, b2, b3, b4⟩ := f1 c _ (hp i.toNat (Nat.le_refl _) (by omega)) hc0 (by omega)
    obtain ⟨y, c', h2, h3, h4, h5, h6, h7⟩ := ih n m (x.set i.toNat e') c1 q q' (i + 1) (by rw [List.length_set]; exact hx) (fun j h2 h3 => by
      rw [List.length_set] at h3
      rw [getD_set_other x d e' i.toNat j (by omega)]
      exact hp j (by omega) h3) (by omega) (by omega) (by omega) (by rw [List.length_set]; omega) (by rw [List.length_set]; omega) (by omega) (by omega)
    rw [List.length_set] at h3
    refine ⟨y, c', ?_, h3, by omega, by omega, fun j hj => ?_, ?_⟩
    · rw [b3 n q i x hx h0 (by omega) rfl]; exact h2
    · rw [h6 j (by omega)]
      exact getD_set_other x d e' i.toNat j (by omega)
    · rw [b4 m q' i y (by omega) h0 (by omega) (by rw [h6 i.toNat (by omega)]; exact getD_set_self x d e' i h0 (by omega))]
      exact h7
/-- What is marked from c on, holds what was marked. -/
theorem mh_gen {α : Type} {d : α} {F : Nat → Int → Int → Int → List α → Option (Int × Int × List α)} {H : Nat → List α → Int → Int → Int → Option (Int ⊕ (Int × Int))} {P : α → Prop} {M : Int} (hM : 0 ≤ M)
    (f0 : ∀ n c q i x, ¬ i < (x.length : Int) → F (n + 1) c q i x = some (c, q, x)) (g0 : ∀ n x c q i, ¬ i < (x.length : Int) → H (n + 1) x c q i = some (.inr (c, q)))
    (f1 : ∀ c e, P e → 0 ≤ c → c ≤ 1152921504606846976 → ∃ e' c', c ≤ c' ∧ c' ≤ c + M ∧ (∀ n q i (x : List α), x.length ≤ 1048576 → 0 ≤ i → i < (x.length : Int) → x.getD i.toNat d = e → F (n + 1) c q i x = F n c' q (i + 1) (x.set i.toNat e')) ∧
      ∀ n q i (x : List α), x.length ≤ 1048576 → 0 ≤ i → i < (x.length : Int) → x.getD i.toNat d = e' → H (n + 1) x c q i = H n x c' q (i + 1))
    (x : List α) (hx : x.length ≤ 1048576) (hp : ∀ e ∈ x, P e) (c : Int) (h0 : 0 ≤ c) (h1 : c + M * x.length ≤ 1152921504606846976) : ∃ y c', F N c 0 0 x = some (c', 0, y) ∧ y.length = x.length ∧ c ≤ c' ∧ c' ≤ c + M * x.length ∧ H N y c 0 0 = some (.inr (c', 0)) := by
  have hN : x.length < N := Nat.lt_of_le_of_lt hx (Nat.lt_trans (by omega) big)
  obtain ⟨y, c', a1, a2, a3, a4, _, a5⟩ := mh_loop (d := d) hM f0 g0 f1 x.length N N x c 0 0 0 hx (fun j _ hj => hp _ (by
    rw [List.getD_eq_getElem?_getD, List.getElem?_eq_getElem hj]
    exact List.getElem_mem hj)) h0 h1 (by omega) (by omega) (by omega) hN hN
  exact ⟨y, c', a1, a2, a3, a4, a5⟩
def hCnt {α : Type} : Nat → List α → Int → Int → Int → Option (Int ⊕ (Int × Int))
  | 0, _, _, _, _ => none
  | n + 1, x, c, q, i => bif decide (i < (x.length : Int)) then hCnt n x (c + 1) q (i + 1) else some (.inr (c, q))
theorem markIntS (x : List Int) (hx : x.length ≤ 1048576) (c : Int) (h0 : 0 ≤ c) (h1 : c ≤ 1099511627776) : ∃ y c', f_laws_markIntS x c = some (c', y) ∧ y.length = x.length ∧ c ≤ c' ∧ c' ≤ c + x.length := by
  obtain ⟨y, c', a1, a2, a3, a4, a5⟩ := mh_gen (d := (0 : Int)) (F := f_laws_markIntS.l0) (H := hCnt) (P := fun _ => True) (M := 1) (by omega)
    (fun n c q i x h => by simp only [f_laws_markIntS.l0, decide_eq_false h, cond_false]) (fun n x c q i h => by simp only [hCnt, decide_eq_false h, cond_false])
    (fun c e _ h0 h1 => ⟨c, c + 1, by omega, by omega, fun n q i x hx hi0 hi1 _ => by
      simp only [f_laws_markIntS.l0, decide_eq_true hi1, decide_eq_true hi0, cond_true, Bool.and_self, Option.bind_some, w64 (show -9223372036854775808 ≤ c + 1 by omega) (by omega), w64 (show -9223372036854775808 ≤ i + 1 by omega) (by omega)],
      fun n q i x hx hi0 hi1 he => by simp only [hCnt, decide_eq_true hi1, cond_true]⟩)
    x hx (fun _ _ => trivial) c h0 (by omega)
  refine ⟨y, c', ?_, a2, a3, by omega⟩
  unfold f_laws_markIntS; rw [a1]; rfl
theorem markInsS (x : List (Int × Int × Int × Int × Int)) (hx : x.length ≤ 1048576) (c : Int) (h0 : 0 ≤ c) (h1 : c ≤ 1099511627776) : ∃ y c', f_laws_markInsS x c = some (c', y) ∧ y.length = x.length ∧ c ≤ c' ∧ c' ≤ c + 5 * x.length ∧ f_laws_heldInsS y c = some c' := by
  obtain ⟨y, c', a1, a2, a3, a4, a5⟩ := mh_gen (d := ((0 : Int), (0 : Int), (0 : Int), (0 : Int), (0 : Int))) (F := f_laws_markInsS.l0) (H := f_laws_heldInsS.l0) (P := fun _ => True) (M := 5) (by omega)
    (fun n c q i x h => by simp only [f_laws_markInsS.l0, decide_eq_false h, cond_false]) (fun n x c q i h => by simp only [f_laws_heldInsS.l0, decide_eq_false h, cond_false])
    (fun c e _ h0 h1 => ⟨(c, c + 1, c + 1 + 1, c + 1 + 1 + 1, c + 1 + 1 + 1 + 1), c + 1 + 1 + 1 + 1 + 1, by omega, by omega, fun n q i x hx hi0 hi1 _ => by
      simp only [f_laws_markInsS.l0, decide_eq_true hi1, decide_eq_true hi0, cond_true, Bool.and_self, Option.bind_some, w64 (show -9223372036854775808 ≤ c + 1 by omega) (by omega), w64 (show -9223372036854775808 ≤ c + 1 + 1 by omega) (by omega), w64 (show -9223372036854775808 ≤ c + 1 + 1 + 1 by omega) (by omega), w64 (show -9223372036854775808 ≤ c + 1 + 1 + 1 + 1 by omega) (by omega),
        w64 (show -9223372036854775808 ≤ c + 1 + 1 + 1 + 1 + 1 by omega) (by omega), w64 (show -9223372036854775808 ≤ i + 1 by omega) (by omega), List.length_set, List.set_set, getD_set_self _ _ _ i hi0 hi1],
      fun n q i x hx hi0 hi1 he => by
      simp only [f_laws_heldInsS.l0, decide_eq_true hi1, decide_eq_true hi0, cond_true, Bool.and_self, he, decide_true, Bool.not_true, cond_false, w64 (show -9223372036854775808 ≤ c + 1 by omega) (by omega), w64 (show -9223372036854775808 ≤ c + 1 + 1 by omega) (by omega), w64 (show -9223372036854775808 ≤ c + 1 + 1 + 1 by omega) (by omega), w64 (show -9223372036854775808 ≤ c + 1 + 1 + 1 + 1 by omega) (by omega),
        w64 (show -9223372036854775808 ≤ c + 1 + 1 + 1 + 1 + 1 by omega) (by omega), w64 (show -9223372036854775808 ≤ i + 1 by omega) (by omega)]⟩)
    x hx (fun _ _ => trivial) c h0 (by omega)
  refine ⟨y, c', ?_, a2, a3, by omega, ?_⟩
  · unfold f_laws_markInsS; rw [a1]; rfl
  · unfold f_laws_heldInsS; rw [a5]; rfl
theorem markBlock (a : Int) (x : List (Int × Int × Int × Int × Int)) (hx : x.length ≤ 1048576) (c : Int) (h0 : 0 ≤ c) (h1 : c ≤ 1099511627776) : ∃ y c', f_laws_markBlock a x c = some (c', y) ∧ y.length = x.length ∧ c ≤ c' ∧ c' ≤ c + 5 * x.length ∧ f_laws_heldBlock a y c = some c' := by
  obtain ⟨y, c', a1, a2, a3, a4, a5⟩ := markInsS x hx c h0 h1
  refine ⟨y, c', ?_, a2, a3, a4, ?_⟩
  · unfold f_laws_markBlock; rw [a1]; rfl
  · unfold f_laws_heldBlock; rw [a5]; simp only [Option.bind_some, decide_eq_false (show ¬ c' < 0 by omega), cond_false]
theorem blockOf (x : List Int) (x1 : Int) : f_laws_FnExactBlockOf x x1 = some true := by
  unfold f_laws_FnExactBlockOf
  by_cases h : (1048576 : Int) < (x.length : Int)
  · rw [decide_eq_true h]; rfl
  · have hn : x.length ≤ 1048576 := by omega
    obtain ⟨r, h3, h4, h5⟩ := same_blockOf x x1
    obtain ⟨y, c, m1, m2, m3, m4⟩ := markIntS x hn 1 (by omega) (by omega)
    obtain ⟨y', c', k1, k2, k3, k4, k5⟩ := markBlock r.1 r.2 (by omega) 1 (by omega) (by omega)
    simp only [decide_eq_false h, cond_false, Option.bind_some, toIntS x hn, h3, h4, eqIntS x hn, eqBlock_self _ _ (show r.2.length ≤ 1048576 by omega), Bool.not_true, decide_true, m1, k1, k5, decide_eq_false (show ¬ c < 0 by omega), decide_eq_false (show ¬ c' < 0 by omega)]
theorem plain : Pure := fun x _ => blockOf x.1 x.2
end Go.Abs
