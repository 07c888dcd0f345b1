/- The law FnBlocks returns true for all bytes that a draw is made of: what drawn words are taken apart to is what stands there, place by place. More than 2^20 bytes are not asked for. -/
import Derived.Test.YtimpkielhcgfdaaMFnBlocks
import Derived.Laws.BitsLemmas
namespace Go.Abs
open Go.RowKit
set_option linter.unusedVariables false
set_option linter.unusedSimpArgs false

theorem w64 {n : Int} (h0 : -9223372036854775808 ≤ n) (h1 : n ≤ 9223372036854775807) : IntKind.wrap .i64 n = n := by
  rw [IntKind.wrap_i64]
  omega
theorem succ_fuel {n d : Nat} (h : d < n) : ∃ m, n = m + 1 := ⟨n - 1, by omega⟩
theorem big : (1048577 : Nat) < N := by decide
theorem mem_getD {α : Type} (x : List α) (d : α) (i : Int) (h0 : 0 ≤ i) (h1 : i < x.length) : x.getD i.toNat d ∈ x := by
  have hlt : i.toNat < x.length := by omega
  rw [List.getD_eq_getElem?_getD, List.getElem?_eq_getElem hlt]
  exact List.getElem_mem hlt
theorem drop_getD {α : Type} (x : List α) (d : α) (i : Int) (h0 : 0 ≤ i) (h1 : i < x.length) : x.drop i.toNat = x.getD i.toNat d :: x.drop (i + 1).toNat := by
  have hlt : i.toNat < x.length := by omega
  have e : (i + 1).toNat = i.toNat + 1 := by omega
  rw [e, List.drop_eq_getElem_cons hlt, List.getD_eq_getElem?_getD, List.getElem?_eq_getElem hlt]
  rfl
theorem to_gen {α : Type} {d : α} {F : Nat → List α → Int → List α → Option (List α)} {g : α → Option α}
    (hs : ∀ n x i y, F (n + 1) x i y = bif decide (i < (x.length : Int)) then (bif (decide ((0 : Int) ≤ i) && decide (i < (x.length : Int))) then (g (x.getD i.toNat d)).bind fun e => (bif (decide ((0 : Int) ≤ i) && decide (i < (y.length : Int))) then F n x (IntKind.wrap .i64 (i + 1)) (y.set i.toNat e) else none) else none) else some y)
    (x : List α) (hn : x.length ≤ 1048576) (hg : ∀ e ∈ x, g e = some e) (k : Nat) : ∀ (n : Nat) (y : List α) (i : Int), 0 ≤ i → i ≤ x.length → (x.length : Int) - i = k → k < n → y.length = x.length → y.take i.toNat = x.take i.toNat → F n x i y = some x := by
  induction k with
  | zero =>
    intro n y i h0 h1 hd hk hl ht
    obtain ⟨n, rfl⟩ := succ_fuel hk
    rw [hs, decide_eq_false (by omega), cond_false]
    rw [List.take_of_length_le (by omega), List.take_of_length_le (by omega)] at ht
    rw [ht]
  | succ k ih =>
    intro n y i h0 h1 hd hk hl ht
    obtain ⟨n, rfl⟩ := succ_fuel hk
    have hw : IntKind.wrap .i64 (i + 1) = i + 1 := w64 (by omega) (by omega)
    have hlt : i.toNat < x.length := by omega
    rw [hs, decide_eq_true (show i < (x.length : Int) by omega), decide_eq_true h0, decide_eq_true (show i < (y.length : Int) by omega), hw, hg _ (mem_getD x d i h0 (by omega))]
    simp only [cond_true, Bool.and_self, Option.bind_some]
    refine ih n _ (i + 1) (by omega) (by omega) (by omega) (by omega) (by rw [List.length_set]; exact hl) ?_
    have e : (i + 1).toNat = i.toNat + 1 := by omega
    rw [e, List.take_add_one, List.take_add_one, List.take_set, List.getElem?_set_self (by omega), List.getElem?_eq_getElem hlt]
    have : x.getD i.toNat d = x[i.toNat] := by rw [List.getD_eq_getElem?_getD, List.getElem?_eq_getElem hlt]; rfl
    rw [this, List.set_eq_of_length_le (by rw [List.length_take]; omega), ht]
theorem eq_gen {α : Type} {d : α} {F : Nat → List α → List α → Bool → Int → Option (Bool ⊕ Bool)} {q : α → α → Option Bool}
    (hs : ∀ n x y b i, F (n + 1) x y b i = bif decide (i < (x.length : Int)) then (bif (decide ((0 : Int) ≤ i) && decide (i < (x.length : Int))) then (bif (decide ((0 : Int) ≤ i) && decide (i < (y.length : Int))) then (q (x.getD i.toNat d) (y.getD i.toNat d)).bind fun r => (bif (!r) then some (.inl false) else F n x y b (IntKind.wrap .i64 (i + 1))) else none) else none) else some (.inr b))
    (x : List α) (hn : x.length ≤ 1048576) (hq : ∀ e ∈ x, q e e = some true) (b : Bool) (k : Nat) : ∀ (n : Nat) (i : Int), 0 ≤ i → i ≤ x.length → (x.length : Int) - i = k → k < n → F n x x b i = some (.inr b) := by
  induction k with
  | zero =>
    intro n i h0 h1 hd hk
    obtain ⟨n, rfl⟩ := succ_fuel hk
    rw [hs, decide_eq_false (by omega), cond_false]
  | succ k ih =>
    intro n i h0 h1 hd hk
    obtain ⟨n, rfl⟩ := succ_fuel hk
    have hw : IntKind.wrap .i64 (i + 1) = i + 1 := w64 (by omega) (by omega)
    rw [hs, decide_eq_true (show i < (x.length : Int) by omega), decide_eq_true h0, hw, hq _ (mem_getD x d i h0 (by omega))]
    simp only [cond_true, Bool.and_self, Option.bind_some, Bool.not_true, cond_false]
    exact ih n (i + 1) (by omega) (by omega) (by omega) (by omega)
theorem sz_gen {α : Type} {d : α} {F : Nat → List α → Int → Int → Int → Option (Int ⊕ (Int × Int))} {s : α → Int → Option Int} {Ok : α → Prop}
    (hs : ∀ n x l q i, F (n + 1) x l q i = bif decide (i < (x.length : Int)) then (bif (decide ((0 : Int) ≤ i) && decide (i < (x.length : Int))) then (s (x.getD i.toNat d) l).bind fun r => (bif decide (r < 0) then some (.inl (-1)) else F n x r q (IntKind.wrap .i64 (i + 1))) else none) else some (.inr (l, q)))
    (x : List α) (hn : x.length ≤ 1048576) (he : ∀ e ∈ x, ∀ l, 0 ≤ l → l ≤ 1048576 → s e l = some (-1) ∨ ∃ l', s e l = some l' ∧ 0 ≤ l' ∧ l' ≤ l ∧ Ok e) (q : Int) (k : Nat) :
    ∀ (n : Nat) (l i : Int), 0 ≤ l → l ≤ 1048576 → 0 ≤ i → i ≤ x.length → (x.length : Int) - i = k → k < n → F n x l q i = some (.inl (-1)) ∨ ∃ l', F n x l q i = some (.inr (l', q)) ∧ 0 ≤ l' ∧ l' ≤ l ∧ ∀ e ∈ x.drop i.toNat, Ok e := by
  induction k with
  | zero =>
    intro n l i hl0 hl1 h0 h1 hd hk
    obtain ⟨n, rfl⟩ := succ_fuel hk
    rw [hs, decide_eq_false (show ¬ i < (x.length : Int) by omega), cond_false, List.drop_eq_nil_of_le (by omega)]
    exact .inr ⟨l, rfl, hl0, Int.le_refl _, fun e h => by cases h⟩
  | succ k ih =>
    intro n l i hl0 hl1 h0 h1 hd hk
    obtain ⟨n, rfl⟩ := succ_fuel hk
    have hw : IntKind.wrap .i64 (i + 1) = i + 1 := w64 (by omega) (by omega)
    rw [hs, decide_eq_true (show i < (x.length : Int) by omega), decide_eq_true h0, hw]
    simp only [cond_true, Bool.and_self]
    rcases he _ (mem_getD x d i h0 (by omega)) l hl0 hl1 with h | ⟨l', h, a0, a1, a2⟩
    · rw [h]; exact .inl rfl
    · rw [h, Option.bind_some, decide_eq_false (show ¬ l' < 0 by omega), cond_false]
      rcases ih n l' (i + 1) a0 (by omega) (by omega) (by omega) (by omega) (by omega) with h2 | ⟨l2, h2, b0, b1, b2⟩
      · exact .inl h2
      · refine .inr ⟨l2, h2, b0, by omega, fun e hm => ?_⟩
        rw [drop_getD x d i h0 (by omega)] at hm
        rcases List.mem_cons.1 hm with rfl | hm
        · exact a2
        · exact b2 e hm
theorem lt_N {x : Nat} (h : x ≤ 1048576) : x < N := Nat.lt_of_le_of_lt h (Nat.lt_trans (by omega) big)
def rng (x m : Int) : Bool := decide ((0 : Int) ≤ x) && decide (x ≤ m)
theorem in_rng (x m : Int) : f_spec_l1In x 0 m = some (rng x m) := by
  unfold f_spec_l1In rng
  cases decide ((0 : Int) ≤ x) <;> rfl
theorem from_rng (x m : Int) : f_impl_from x 0 m = some (rng x m) := by
  unfold f_impl_from rng
  cases decide ((0 : Int) ≤ x) <;> rfl
theorem field_eq (x m : Int) (h : Bool) : f_spec_l8Field x m h = some (rng x m && (h || decide (x = 0))) := by
  unfold f_spec_l8Field
  rw [in_rng]
  simp only [Option.bind_some]
  cases rng x m <;> cases h <;> rfl
theorem chain (a b c d : Bool) : (bif a then (bif b then (bif c then some d else some false) else some false) else some false) = some (a && (b && (c && d))) := by
  cases a <;> cases b <;> cases c <;> rfl
/-- What the reference says of an instruction with these letters. -/
theorem spec_ins (x0 x1 x2 x3 x4 m : Int) (h1 h2 h3 h4 : Bool) (hm : f_spec_l8Has x0 = some m) (hin : f_spec_l1In x0 1 10 = some true)
    (b1 : (!(decide (bitI .and .i64 m (1 : Int) = (0 : Int)))) = h1) (b2 : (!(decide (bitI .and .i64 m (2 : Int) = (0 : Int)))) = h2) (b3 : (!(decide (bitI .and .i64 m (4 : Int) = (0 : Int)))) = h3) (b4 : (!(decide (bitI .and .i64 m (8 : Int) = (0 : Int)))) = h4) :
    f_spec_InsOk x0 x1 x2 x3 x4 = some ((rng x1 3 && (h1 || decide (x1 = 0))) && ((rng x2 3 && (h2 || decide (x2 = 0))) && ((rng x3 3 && (h3 || decide (x3 = 0))) && (rng x4 63 && (h4 || decide (x4 = 0)))))) := by
  unfold f_spec_InsOk
  simp only [hm, hin, Option.bind_some, b1, b2, b3, b4, field_eq, cond_true]
  rw [← chain]
theorem impl_ins (x0 x1 x2 x3 x4 r a b n : Int) (s : ByteArray) (hf : f_impl_form x0 = some (s, true))
    (hl : f_impl_InsOk.l0 N false s true (s.size : Int) 0 x0 x1 x2 x3 x4 x0 0 0 0 0 = some (false, true, x0, x1, x2, x3, x4, x0, r, a, b, n)) :
    f_impl_InsOk x0 x1 x2 x3 x4 = some ((decide (r = x1) && (decide (a = x2) && (decide (b = x3) && decide (n = x4)))) && (rng x1 3 && (rng x2 3 && (rng x3 3 && rng x4 63)))) := by
  unfold f_impl_InsOk
  simp only [hf, Option.bind_some, hl, cond_true, decide_true, Bool.true_and, from_rng]
  rw [chain]
  cases (decide (r = x1) && (decide (a = x2) && (decide (b = x3) && decide (n = x4)))) <;> rfl
theorem sym (x : Int) : decide ((0 : Int) = x) = decide (x = 0) := by
  by_cases h : x = 0
  · subst h; rfl
  · rw [decide_eq_false h, decide_eq_false (fun e => h e.symm)]
theorem alg : ∀ a b c d e f g h : Bool, ((a && (true || e)) && ((b && (true || f)) && ((c && (true || g)) && (d && (true || h))))) = ((true && (true && (true && true))) && (a && (b && (c && d)))) := by decide

theorem same_ins (x0 x1 x2 x3 x4 : Int) : ∃ b, f_spec_InsOk x0 x1 x2 x3 x4 = some b ∧ f_impl_InsOk x0 x1 x2 x3 x4 = some b := by
  obtain ⟨k, hk⟩ : ∃ k : Nat, N = k + 6 := ⟨1152921504606846970, rfl⟩
  by_cases hin : (1 : Int) ≤ x0 ∧ x0 ≤ 10
  · have hi : f_spec_l1In x0 1 10 = some true := by unfold f_spec_l1In; rw [decide_eq_true hin.1, decide_eq_true hin.2]; rfl
    have : x0 = 1 ∨ x0 = 2 ∨ x0 = 3 ∨ x0 = 4 ∨ x0 = 5 ∨ x0 = 6 ∨ x0 = 7 ∨ x0 = 8 ∨ x0 = 9 ∨ x0 = 10 := by omega
    rcases this with rfl | rfl | rfl | rfl | rfl | rfl | rfl | rfl | rfl | rfl
    · refine ⟨_, spec_ins 1 x1 x2 x3 x4 9 true false false true rfl hi (by decide) (by decide) (by decide) (by decide), ?_⟩
      rw [impl_ins 1 x1 x2 x3 x4 x1 0 0 x4 ⟨#[82, 78]⟩ rfl (by rw [hk]; rfl)]
      simp only [decide_true, sym]
      cases rng x1 3 <;> cases rng x2 3 <;> cases rng x3 3 <;> cases rng x4 63 <;> cases decide (x2 = 0) <;> cases decide (x3 = 0) <;> simp
    · refine ⟨_, spec_ins 2 x1 x2 x3 x4 7 true true true false rfl hi (by decide) (by decide) (by decide) (by decide), ?_⟩
      rw [impl_ins 2 x1 x2 x3 x4 x1 x2 x3 0 ⟨#[82, 65, 66]⟩ rfl (by rw [hk]; rfl)]
      simp only [decide_true, sym]
      cases rng x1 3 <;> cases rng x2 3 <;> cases rng x3 3 <;> cases rng x4 63 <;> cases decide (x4 = 0) <;> simp
    · refine ⟨_, spec_ins 3 x1 x2 x3 x4 11 true true false true rfl hi (by decide) (by decide) (by decide) (by decide), ?_⟩
      rw [impl_ins 3 x1 x2 x3 x4 x1 x2 0 x4 ⟨#[82, 65, 78]⟩ rfl (by rw [hk]; rfl)]
      simp only [decide_true, sym]
      cases rng x1 3 <;> cases rng x2 3 <;> cases rng x3 3 <;> cases rng x4 63 <;> cases decide (x3 = 0) <;> simp
    · refine ⟨_, spec_ins 4 x1 x2 x3 x4 11 true true false true rfl hi (by decide) (by decide) (by decide) (by decide), ?_⟩
      rw [impl_ins 4 x1 x2 x3 x4 x1 x2 0 x4 ⟨#[82, 65, 78]⟩ rfl (by rw [hk]; rfl)]
      simp only [decide_true, sym]
      cases rng x1 3 <;> cases rng x2 3 <;> cases rng x3 3 <;> cases rng x4 63 <;> cases decide (x3 = 0) <;> simp
    · refine ⟨_, spec_ins 5 x1 x2 x3 x4 14 false true true true rfl hi (by decide) (by decide) (by decide) (by decide), ?_⟩
      rw [impl_ins 5 x1 x2 x3 x4 0 x2 x3 x4 ⟨#[65, 66, 78]⟩ rfl (by rw [hk]; rfl)]
      simp only [decide_true, sym]
      cases rng x1 3 <;> cases rng x2 3 <;> cases rng x3 3 <;> cases rng x4 63 <;> cases decide (x1 = 0) <;> simp
    · refine ⟨_, spec_ins 6 x1 x2 x3 x4 15 true true true true rfl hi (by decide) (by decide) (by decide) (by decide), ?_⟩
      rw [impl_ins 6 x1 x2 x3 x4 x1 x2 x3 x4 ⟨#[82, 65, 66, 78]⟩ rfl (by rw [hk]; rfl)]
      simp only [decide_true]
      cases rng x1 3 <;> cases rng x2 3 <;> cases rng x3 3 <;> cases rng x4 63 <;> simp
    · refine ⟨_, spec_ins 7 x1 x2 x3 x4 10 false true false true rfl hi (by decide) (by decide) (by decide) (by decide), ?_⟩
      rw [impl_ins 7 x1 x2 x3 x4 0 x2 0 x4 ⟨#[65, 78]⟩ rfl (by rw [hk]; rfl)]
      simp only [decide_true, sym]
      cases rng x1 3 <;> cases rng x2 3 <;> cases rng x3 3 <;> cases rng x4 63 <;> cases decide (x1 = 0) <;> cases decide (x3 = 0) <;> simp
    · refine ⟨_, spec_ins 8 x1 x2 x3 x4 8 false false false true rfl hi (by decide) (by decide) (by decide) (by decide), ?_⟩
      rw [impl_ins 8 x1 x2 x3 x4 0 0 0 x4 ⟨#[78]⟩ rfl (by rw [hk]; rfl)]
      simp only [decide_true, sym]
      cases rng x1 3 <;> cases rng x2 3 <;> cases rng x3 3 <;> cases rng x4 63 <;> cases decide (x1 = 0) <;> cases decide (x2 = 0) <;> cases decide (x3 = 0) <;> simp
    · refine ⟨_, spec_ins 9 x1 x2 x3 x4 0 false false false false rfl hi (by decide) (by decide) (by decide) (by decide), ?_⟩
      rw [impl_ins 9 x1 x2 x3 x4 0 0 0 0 ⟨#[]⟩ rfl (by rw [hk]; rfl)]
      simp only [sym]
      cases rng x1 3 <;> cases rng x2 3 <;> cases rng x3 3 <;> cases rng x4 63 <;> cases decide (x1 = 0) <;> cases decide (x2 = 0) <;> cases decide (x3 = 0) <;> cases decide (x4 = 0) <;> simp
    · refine ⟨_, spec_ins 10 x1 x2 x3 x4 7 true true true false rfl hi (by decide) (by decide) (by decide) (by decide), ?_⟩
      rw [impl_ins 10 x1 x2 x3 x4 x1 x2 x3 0 ⟨#[82, 65, 66]⟩ rfl (by rw [hk]; rfl)]
      simp only [decide_true, sym]
      cases rng x1 3 <;> cases rng x2 3 <;> cases rng x3 3 <;> cases rng x4 63 <;> cases decide (x4 = 0) <;> simp
  · refine ⟨false, ?_, ?_⟩
    · have hi : f_spec_l1In x0 1 10 = some false := by
        unfold f_spec_l1In
        by_cases h1 : (1 : Int) ≤ x0
        · rw [decide_eq_true h1, decide_eq_false (fun h => hin ⟨h1, h⟩)]; rfl
        · rw [decide_eq_false h1]; rfl
      unfold f_spec_InsOk f_spec_l8Has
      simp only [hi, Option.bind_some, Bool.not_false, cond_true, cond_false]
    · have hf : f_impl_form x0 = some (⟨#[]⟩, false) := by
        unfold f_impl_form
        rw [decide_eq_false (by omega), decide_eq_false (by omega), decide_eq_false (by omega), decide_eq_false (by omega), decide_eq_false (by omega), decide_eq_false (by omega), decide_eq_false (by omega), decide_eq_false (by omega), decide_eq_false (by omega), decide_eq_false (by omega)]
        rfl
      have hl : f_impl_InsOk.l0 N false ⟨#[]⟩ false ((⟨#[]⟩ : ByteArray).size : Int) 0 x0 x1 x2 x3 x4 x0 0 0 0 0 = some (false, false, x0, x1, x2, x3, x4, x0, 0, 0, 0, 0) := by rw [hk]; rfl
      unfold f_impl_InsOk
      simp only [hf, Option.bind_some, hl, cond_false]

def rg (x a b : Int) : Bool := decide (a ≤ x) && decide (x ≤ b)
theorem in_rg (x a b : Int) : f_spec_l1In x a b = some (rg x a b) := by
  unfold f_spec_l1In rg
  cases decide (a ≤ x) <;> rfl
theorem from_rg (x a b : Int) : f_impl_from x a b = some (rg x a b) := by
  unfold f_impl_from rg
  cases decide (a ≤ x) <;> rfl
theorem has_some (x0 : Int) : ∃ m c, f_spec_l8Has x0 = some m ∧ f_spec_l1In x0 1 10 = some c := by
  unfold f_spec_l8Has
  by_cases h1 : (1 : Int) ≤ x0 ∧ x0 ≤ 10
  · have : f_spec_l1In x0 1 10 = some true := by unfold f_spec_l1In; rw [decide_eq_true h1.1, decide_eq_true h1.2]; rfl
    simp only [this, Option.bind_some, Bool.not_true, cond_false]
    rw [decide_eq_true (show (0 : Int) ≤ x0 by omega), decide_eq_true (show x0 < (([0, 9, 7, 11, 11, 14, 15, 10, 8, 0, 7] : List Int).length : Int) by show x0 < 11; omega)]
    exact ⟨_, _, rfl, rfl⟩
  · have : f_spec_l1In x0 1 10 = some false := by
      unfold f_spec_l1In
      by_cases h2 : (1 : Int) ≤ x0
      · rw [decide_eq_true h2, decide_eq_false (fun h => h1 ⟨h2, h⟩)]; rfl
      · rw [decide_eq_false h2]; rfl
    simp only [this, Option.bind_some, Bool.not_false, cond_true]
    exact ⟨_, _, rfl, rfl⟩
/-- An instruction that is right has its places in range. -/
theorem ins_all (x0 x1 x2 x3 x4 : Int) (h : f_spec_InsOk x0 x1 x2 x3 x4 = some true) : (0 ≤ x1 ∧ x1 ≤ 3) ∧ (0 ≤ x2 ∧ x2 ≤ 3) ∧ (0 ≤ x3 ∧ x3 ≤ 3) ∧ (0 ≤ x4 ∧ x4 ≤ 63) := by
  have key : rng x1 3 = true ∧ rng x2 3 = true ∧ rng x3 3 = true ∧ rng x4 63 = true := by
    unfold f_spec_InsOk at h
    obtain ⟨m, c, hm, hc⟩ := has_some x0
    simp only [hm, hc, Option.bind_some, field_eq] at h
    cases c with
    | false => simp at h
    | true =>
      simp only [cond_true] at h
      cases a1 : rng x1 3 <;> cases a2 : rng x2 3 <;> cases a3 : rng x3 3 <;> cases a4 : rng x4 63 <;> simp [a1, a2, a3, a4] at h ⊢
  unfold rng at key
  simpa using key
theorem same_decode (x0 : Int) : ∃ r, f_spec_Decode x0 = some r ∧ f_impl_Decode x0 = some r := by
  obtain ⟨b, h1, h2⟩ := same_ins (Int.tmod x0 (16 : Int)) (Int.tmod (IntKind.wrap .i64 (Int.tdiv x0 (16 : Int))) (4 : Int)) (Int.tmod (IntKind.wrap .i64 (Int.tdiv x0 (64 : Int))) (4 : Int)) (Int.tmod (IntKind.wrap .i64 (Int.tdiv x0 (256 : Int))) (4 : Int)) (IntKind.wrap .i64 (Int.tdiv x0 (1024 : Int)))
  unfold f_spec_Decode f_impl_Decode f_impl_isWord
  simp only [in_rng, from_rng, Option.bind_some, h1, h2]
  cases rng x0 65535 <;> cases b <;> exact ⟨_, rfl, rfl⟩
/-- What is read from a word. -/
theorem dec_word (n : Int) (h0 : 0 ≤ n) (h1 : n ≤ 65535) (b : Bool) (h : f_spec_InsOk (n % 16) (n / 16 % 4) (n / 64 % 4) (n / 256 % 4) (n / 1024) = some b) (h' : f_impl_InsOk (n % 16) (n / 16 % 4) (n / 64 % 4) (n / 256 % 4) (n / 1024) = some b) :
    f_spec_Decode n = some (bif b then (n % 16, n / 16 % 4, n / 64 % 4, n / 256 % 4, n / 1024, true) else (0, 0, 0, 0, 0, false)) ∧ f_impl_Decode n = some (bif b then (n % 16, n / 16 % 4, n / 64 % 4, n / 256 % 4, n / 1024, true) else (0, 0, 0, 0, 0, false)) := by
  have hr : rng n 65535 = true := by unfold rng; rw [decide_eq_true h0, decide_eq_true h1]; rfl
  have t16 : Int.tdiv n 16 = n / 16 := Int.tdiv_eq_ediv_of_nonneg h0
  have t64 : Int.tdiv n 64 = n / 64 := Int.tdiv_eq_ediv_of_nonneg h0
  have t256 : Int.tdiv n 256 = n / 256 := Int.tdiv_eq_ediv_of_nonneg h0
  have t1024 : Int.tdiv n 1024 = n / 1024 := Int.tdiv_eq_ediv_of_nonneg h0
  have m16 : Int.tmod n 16 = n % 16 := Int.tmod_eq_emod_of_nonneg h0
  have q16 : Int.tmod (n / 16) 4 = n / 16 % 4 := Int.tmod_eq_emod_of_nonneg (by omega)
  have q64 : Int.tmod (n / 64) 4 = n / 64 % 4 := Int.tmod_eq_emod_of_nonneg (by omega)
  have q256 : Int.tmod (n / 256) 4 = n / 256 % 4 := Int.tmod_eq_emod_of_nonneg (by omega)
  unfold f_spec_Decode f_impl_Decode f_impl_isWord
  simp only [in_rng, from_rng, Option.bind_some, hr, Bool.not_true, cond_false, t16, t64, t256, t1024, m16, w64 (show -9223372036854775808 ≤ n / 16 by omega) (by omega), w64 (show -9223372036854775808 ≤ n / 64 by omega) (by omega), w64 (show -9223372036854775808 ≤ n / 256 by omega) (by omega), w64 (show -9223372036854775808 ≤ n / 1024 by omega) (by omega), q16, q64, q256, h, h']
  cases b <;> exact ⟨rfl, rfl⟩
theorem dec_cases (n : Int) : ∃ r, f_spec_Decode n = some r ∧ f_impl_Decode n = some r ∧ (r = (0, 0, 0, 0, 0, false) ∨ ∃ a b c d e, r = (a, b, c, d, e, true) ∧ f_spec_InsOk a b c d e = some true ∧ f_impl_InsOk a b c d e = some true ∧ n = a + 16 * b + 64 * c + 256 * d + 1024 * e) := by
  by_cases hr : 0 ≤ n ∧ n ≤ 65535
  · obtain ⟨b, h1, h2⟩ := same_ins (n % 16) (n / 16 % 4) (n / 64 % 4) (n / 256 % 4) (n / 1024)
    obtain ⟨d1, d2⟩ := dec_word n hr.1 hr.2 b h1 h2
    refine ⟨_, d1, d2, ?_⟩
    cases b with
    | false => exact .inl rfl
    | true => exact .inr ⟨_, _, _, _, _, rfl, h1, h2, by omega⟩
  · have hr : rng n 65535 = false := by
      unfold rng
      by_cases h : 0 ≤ n
      · rw [decide_eq_true h, decide_eq_false (fun h2 => hr ⟨h, h2⟩)]; rfl
      · rw [decide_eq_false h]; rfl
    unfold f_spec_Decode f_impl_Decode f_impl_isWord
    simp only [in_rng, from_rng, Option.bind_some, hr]
    exact ⟨_, rfl, rfl, .inl rfl⟩
def ends1 (b : Bool) (x : Int) : Bool := !b || (decide (x = 7) || (decide (x = 8) || decide (x = 9)))
theorem same_ends (x0 x1 x2 x3 x4 : Int) : ∃ b, f_spec_InsOk x0 x1 x2 x3 x4 = some b ∧ f_impl_InsOk x0 x1 x2 x3 x4 = some b ∧ f_spec_Ends x0 x1 x2 x3 x4 = some (ends1 b x0) ∧ f_impl_Ends x0 x1 x2 x3 x4 = some (ends1 b x0) := by
  obtain ⟨b, h1, h2⟩ := same_ins x0 x1 x2 x3 x4
  refine ⟨b, h1, h2, ?_, ?_⟩
  · unfold f_spec_Ends ends1
    simp only [h1, Option.bind_some]
    cases b <;> cases decide (x0 = 7) <;> cases decide (x0 = 8) <;> cases decide (x0 = 9) <;> rfl
  · unfold f_impl_Ends ends1
    simp only [h2, Option.bind_some]
    cases b <;> cases decide (x0 = 7) <;> cases decide (x0 = 8) <;> cases decide (x0 = 9) <;> rfl
def zeroI (e : Int × Int × Int × Int × Int) : Bool := decide (e.1 = 0) && (decide (e.2.1 = 0) && (decide (e.2.2.1 = 0) && (decide (e.2.2.2.1 = 0) && decide (e.2.2.2.2 = 0))))
theorem ends_zero (e : Int × Int × Int × Int × Int) (h : zeroI e = true) (b : Bool) (hb : f_spec_InsOk e.1 e.2.1 e.2.2.1 e.2.2.2.1 e.2.2.2.2 = some b) : b = false := by
  obtain ⟨a0, a1, a2, a3, a4⟩ := e
  unfold zeroI at h
  simp only [Bool.and_eq_true, decide_eq_true_eq] at h
  obtain ⟨rfl, rfl, rfl, rfl, rfl⟩ := h
  have : f_spec_InsOk 0 0 0 0 0 = some false := rfl
  rw [this] at hb
  exact (Option.some.inj hb).symm
theorem blockOk_loop (x : List (Int × Int × Int × Int × Int)) (hn : x.length ≤ 1048576) (a0 : Int) (c : Bool) (k : Nat) : ∀ (n : Nat) (i : Int), 0 ≤ i → i ≤ x.length → (x.length : Int) - i = k → k < n →
    (f_spec_BlockOk.l0 n c i a0 x = some (.inl false) ∧ f_impl_BlockOk.l0 n c x (x.length : Int) i a0 x = some (.inl false)) ∨ (f_spec_BlockOk.l0 n c i a0 x = some (.inr c) ∧ f_impl_BlockOk.l0 n c x (x.length : Int) i a0 x = some (.inr c)) := by
  induction k with
  | zero =>
    intro n i h0 h1 hd hk
    obtain ⟨n, rfl⟩ := succ_fuel hk
    simp only [f_spec_BlockOk.l0, f_impl_BlockOk.l0]
    rw [decide_eq_false (show ¬ i < (x.length : Int) by omega)]
    exact .inr ⟨rfl, rfl⟩
  | succ k ih =>
    intro n i h0 h1 hd hk
    obtain ⟨n, rfl⟩ := succ_fuel hk
    have hw : IntKind.wrap .i64 (i + 1) = i + 1 := w64 (by omega) (by omega)
    have hw2 : IntKind.wrap .i64 ((x.length : Int) - 1) = (x.length : Int) - 1 := w64 (by omega) (by omega)
    have ih2 := ih n (i + 1) (by omega) (by omega) (by omega) (by omega)
    simp only [f_spec_BlockOk.l0, f_impl_BlockOk.l0]
    rw [decide_eq_true (show i < (x.length : Int) by omega), decide_eq_true h0, hw, hw2]
    generalize hE : x.getD i.toNat (0, 0, 0, 0, 0) = e
    obtain ⟨b, s1, s2, s3, s4⟩ := same_ends e.1 e.2.1 e.2.2.1 e.2.2.2.1 e.2.2.2.2
    have hz := ends_zero e
    unfold zeroI at hz
    simp only [cond_true, Bool.and_self, s1, s2, s3, s4, Option.bind_some]
    have hlast : decide (i < (x.length : Int) - 1) = decide (i + 1 < (x.length : Int)) := by
      by_cases h : i < (x.length : Int) - 1
      · rw [decide_eq_true h, decide_eq_true (by omega)]
      · rw [decide_eq_false h, decide_eq_false (by omega)]
    rw [hlast]
    cases hzz : (decide (e.1 = 0) && (decide (e.2.1 = 0) && (decide (e.2.2.1 = 0) && (decide (e.2.2.2.1 = 0) && decide (e.2.2.2.2 = 0))))) with
    | true =>
      have := hz hzz b s1
      subst this
      simp only [ends1, Bool.not_true, Bool.not_false, cond_true, cond_false, Bool.true_or]
      cases decide (i + 1 < (x.length : Int)) with
      | true => exact .inl ⟨rfl, rfl⟩
      | false => exact ih2
    | false =>
      cases b with
      | false => exact .inl ⟨rfl, rfl⟩
      | true =>
        simp only [Bool.not_true, Bool.not_false, cond_true, cond_false]
        cases ends1 true e.1 with
        | false =>
          cases decide (i + 1 < (x.length : Int)) with
          | true => exact ih2
          | false => exact ih2
        | true =>
          cases decide (i + 1 < (x.length : Int)) with
          | true => exact .inl ⟨rfl, rfl⟩
          | false => exact ih2
theorem same_blockOk (a0 : Int) (x : List (Int × Int × Int × Int × Int)) (hn : x.length ≤ 1048576) : ∃ b, f_spec_BlockOk a0 x = some b ∧ f_impl_BlockOk a0 x = some b := by
  unfold f_spec_BlockOk f_impl_BlockOk f_impl_isCell
  simp only [in_rg, from_rg, Option.bind_some]
  cases hr : rg a0 0 23 with
  | false => exact ⟨_, rfl, rfl⟩
  | true =>
    unfold rg at hr
    simp only [Bool.and_eq_true, decide_eq_true_eq] at hr
    have hm : Int.tmod a0 4 = a0 % 4 := Int.tmod_eq_emod_of_nonneg hr.1
    rw [hm, w64 (by omega) (by omega)]
    have hmin : (bif decide (4 - a0 % 4 < (4 : Int)) then 4 - a0 % 4 else 4) = 4 - a0 % 4 := by
      by_cases h : 4 - a0 % 4 < (4 : Int)
      · rw [decide_eq_true h, cond_true]
      · rw [decide_eq_false h, cond_false]; omega
    rw [hmin]
    cases rg (x.length : Int) 1 (4 - a0 % 4) with
    | false => exact ⟨_, rfl, rfl⟩
    | true =>
      simp only [Bool.not_true, cond_false]
      rcases blockOk_loop x hn a0 false x.length N 0 (by omega) (by omega) (by omega) (lt_N hn) with ⟨h1, h2⟩ | ⟨h1, h2⟩
      · rw [h1, h2]; exact ⟨_, rfl, rfl⟩
      · rw [h1, h2]; exact ⟨_, rfl, rfl⟩
theorem blockOk_start (a : Int) (x : List (Int × Int × Int × Int × Int)) (h : f_spec_BlockOk a x = some true) : 0 ≤ a ∧ a ≤ 23 := by
  unfold f_spec_BlockOk at h
  simp only [in_rg, Option.bind_some] at h
  cases hr : rg a 0 23 with
  | false => rw [hr] at h; simp at h
  | true =>
    unfold rg at hr
    simp only [Bool.and_eq_true, decide_eq_true_eq] at hr
    exact hr
theorem same_at (a : Int) (x : List (Int × Int × Int × Int × Int)) (p : Int) (hn : x.length ≤ 1048576) : ∃ r, f_spec_At a x p = some r ∧ f_impl_At a x p = some r := by
  obtain ⟨b, h1, h2⟩ := same_blockOk a x hn
  unfold f_spec_At f_impl_At
  simp only [h1, h2, Option.bind_some, from_rg]
  cases b with
  | false => exact ⟨_, rfl, rfl⟩
  | true =>
    obtain ⟨ha0, ha1⟩ := blockOk_start a x h1
    rw [w64 (show -9223372036854775808 ≤ a + (x.length : Int) by omega) (by omega), w64 (show -9223372036854775808 ≤ a + (x.length : Int) - 1 by omega) (by omega)]
    unfold rg
    by_cases h3 : p < a
    · rw [decide_eq_true h3, decide_eq_false (show ¬ a ≤ p by omega)]; exact ⟨_, rfl, rfl⟩
    · rw [decide_eq_false h3, decide_eq_true (show a ≤ p by omega)]
      by_cases h4 : a + (x.length : Int) ≤ p
      · rw [decide_eq_true h4, decide_eq_false (show ¬ p ≤ a + (x.length : Int) - 1 by omega)]; exact ⟨_, rfl, rfl⟩
      · rw [decide_eq_false h4, decide_eq_true (show p ≤ a + (x.length : Int) - 1 by omega), w64 (show -9223372036854775808 ≤ p - a by omega) (by omega), decide_eq_true (show 0 ≤ p - a by omega), decide_eq_true (show p - a < (x.length : Int) by omega)]
        exact ⟨_, rfl, rfl⟩
/-- What a right block's numbers are. -/
theorem blockOk_nums (a : Int) (x : List (Int × Int × Int × Int × Int)) (h : f_spec_BlockOk a x = some true) : 0 ≤ a ∧ a ≤ 23 ∧ 1 ≤ (x.length : Int) ∧ (x.length : Int) ≤ 4 - a % 4 := by
  obtain ⟨h0, h1⟩ := blockOk_start a x h
  refine ⟨h0, h1, ?_⟩
  unfold f_spec_BlockOk at h
  simp only [in_rg, Option.bind_some] at h
  have hr : rg a 0 23 = true := by unfold rg; rw [decide_eq_true h0, decide_eq_true h1]; rfl
  rw [hr, Int.tmod_eq_emod_of_nonneg h0, w64 (by omega) (by omega)] at h
  cases hl : rg (x.length : Int) 1 (4 - a % 4) with
  | false => rw [hl] at h; simp at h
  | true =>
    unfold rg at hl
    simp only [Bool.and_eq_true, decide_eq_true_eq] at hl
    exact hl
theorem getD_drop' {α : Type} (x : List α) (t j : Nat) (d : α) : (x.drop t).getD j d = x.getD (t + j) d := by
  rw [List.getD_eq_getElem?_getD, List.getD_eq_getElem?_getD, List.getElem?_drop]
theorem blockOf_loop (x : List Int) (hx : x.length = 4) (t : Nat) (ht : t ≤ 3) (q : Int) (x1 : Int) (k : Nat) : ∀ (n m : Nat) (i : Int) (y : List (Int × Int × Int × Int × Int)), (t : Int) ≤ i → i ≤ 4 → 4 - i = k → k < n → k < m → y.length + k ≤ 100 →
    ∃ r, (f_spec_BlockOf.l0 n x i q x1 [] y = some (.inl (x1, r)) ∨ f_spec_BlockOf.l0 n x i q x1 [] y = some (.inr (q, x1, [], r))) ∧ f_impl_BlockOf.l0 m (x.drop t) ((x.drop t).length : Int) (i - t) 0 x1 [] y = some (0, x1, [], r) ∧ r.length ≤ y.length + k := by
  have hdl : ((x.drop t).length : Int) = 4 - t := by rw [List.length_drop, hx]; omega
  rw [hdl]
  induction k with
  | zero =>
    intro n m i y a0 a1 hd hn hm hy
    obtain ⟨n, rfl⟩ := succ_fuel hn
    obtain ⟨m, rfl⟩ := succ_fuel hm
    refine ⟨y, .inr ?_, ?_, by omega⟩
    · simp only [f_spec_BlockOf.l0, decide_eq_false (show ¬ i < 4 by omega), cond_false]
    · simp only [f_impl_BlockOf.l0, decide_eq_false (show ¬ i - (t : Int) < 4 - t by omega), cond_false]
  | succ k ih =>
    intro n m i y a0 a1 hd hn hm hy
    obtain ⟨n, rfl⟩ := succ_fuel hn
    obtain ⟨m, rfl⟩ := succ_fuel hm
    obtain ⟨d, d1, d2⟩ := same_decode (x.getD i.toNat 0)
    obtain ⟨b, _, _, e1, e2⟩ := same_ends d.1 d.2.1 d.2.2.1 d.2.2.2.1 d.2.2.2.2.1
    have hg : (x.drop t).getD (i - t).toNat 0 = x.getD i.toNat 0 := by rw [getD_drop', show t + (i - t).toNat = i.toNat by omega]
    simp only [f_spec_BlockOf.l0, f_impl_BlockOf.l0, decide_eq_true (show i < 4 by omega), decide_eq_true (show i < (x.length : Int) by omega), decide_eq_true (show (0 : Int) ≤ i by omega), decide_eq_true (show (0 : Int) ≤ i - t by omega), decide_eq_true (show i - (t : Int) < 4 - t by omega), decide_eq_true (show i - (t : Int) < ((x.drop t).length : Int) by omega),
      Bool.and_self, cond_true, hg, d1, d2, e1, e2, Option.bind_some, List.length_cons, List.length_nil, Nat.zero_add, (blt_iff _ _).2 (show y.length + 1 < 3518437208883 by omega), w64 (show -9223372036854775808 ≤ i + 1 by omega) (by omega), w64 (show -9223372036854775808 ≤ i - t + 1 by omega) (by omega)]
    cases ends1 b d.1 with
    | true => exact ⟨_, .inl rfl, rfl, by simp⟩
    | false =>
      obtain ⟨r, r1, r2, r3⟩ := ih n m (i + 1) (y ++ [(d.1, d.2.1, d.2.2.1, d.2.2.2.1, d.2.2.2.2.1)]) (by omega) (by omega) (by omega) (by omega) (by omega) (by simp; omega)
      rw [show i - (t : Int) + 1 = i + 1 - t by omega]
      exact ⟨r, r1, r2, by simp at r3; omega⟩
theorem same_blockOf (x : List Int) (x1 : Int) : ∃ r, f_spec_BlockOf x x1 = some r ∧ f_impl_BlockOf x x1 = some r ∧ r.2.length ≤ 100 := by
  unfold f_spec_BlockOf f_impl_BlockOf f_impl_isCell
  by_cases hx : (x.length : Int) = 4
  · simp only [decide_eq_true hx, Bool.not_true, cond_false, in_rng, from_rng, Option.bind_some]
    cases hr : rng x1 23 with
    | false => exact ⟨_, rfl, rfl, by simp⟩
    | true =>
      unfold rng at hr
      simp only [Bool.and_eq_true, decide_eq_true_eq] at hr
      have ht : Int.tmod x1 4 = x1 % 4 := Int.tmod_eq_emod_of_nonneg hr.1
      have hN : 4 < N := Nat.lt_trans (by omega) big
      obtain ⟨r, r1, r2, r3⟩ := blockOf_loop x (by omega) (x1 % 4).toNat (by omega) 0 x1 (4 - (x1 % 4).toNat) N N (x1 % 4) [] (by omega) (by omega) (by omega) (Nat.lt_of_le_of_lt (Nat.sub_le _ _) hN) (Nat.lt_of_le_of_lt (Nat.sub_le _ _) hN) (by simp; omega)
      rw [show x1 % 4 - ((x1 % 4).toNat : Int) = 0 by omega] at r2
      simp only [Bool.not_true, cond_false, ht, decide_eq_true (show (0 : Int) ≤ x1 % 4 by omega), decide_eq_true (show x1 % 4 ≤ (x.length : Int) by omega), Bool.and_self, cond_true, r2, Option.bind_some]
      refine ⟨(x1, r), ?_, rfl, by simp at r3; simp; omega⟩
      rcases r1 with r1 | r1 <;> rw [r1] <;> rfl
  · rw [decide_eq_false hx]; exact ⟨_, rfl, rfl, by simp⟩
abbrev InsT := Int × Int × Int × Int × Int
noncomputable def dec5 (v : Int) : InsT := match f_spec_Decode v with
  | some d => (d.1, d.2.1, d.2.2.1, d.2.2.2.1, d.2.2.2.2.1)
  | none => (0, 0, 0, 0, 0)
noncomputable def endsE (e : InsT) : Bool := ends1 ((f_spec_InsOk e.1 e.2.1 e.2.2.1 e.2.2.2.1 e.2.2.2.2).getD false) e.1
/-- A row that was taken apart of words, from place i on. -/
structure Blk (x : List Int) (i : Int) (s : List InsT) : Prop where
  pos : i < 4 → 1 ≤ s.length
  len : (s.length : Int) ≤ 4 - i
  eq : ∀ j : Nat, j < s.length → s.getD j (0, 0, 0, 0, 0) = dec5 (x.getD (i + j).toNat 0)
  go : ∀ j : Nat, j + 1 < s.length → endsE (s.getD j (0, 0, 0, 0, 0)) = false
theorem blkS_loop (x : List Int) (hx : x.length = 4) (q : Int) (x1 : Int) (k : Nat) : ∀ (n : Nat) (i : Int) (y : List InsT), 0 ≤ i → i ≤ 4 → 4 - i = k → k < n → y.length + k ≤ 100 →
    ∃ s, (f_spec_BlockOf.l0 n x i q x1 [] y = some (.inl (x1, y ++ s)) ∨ f_spec_BlockOf.l0 n x i q x1 [] y = some (.inr (q, x1, [], y ++ s))) ∧ Blk x i s := by
  induction k with
  | zero =>
    intro n i y a0 a1 hd hn hy
    obtain ⟨n, rfl⟩ := succ_fuel hn
    refine ⟨[], .inr ?_, (fun h => by omega), (by simp; omega), (fun j h => by cases h), (fun j h => by cases h)⟩
    simp only [f_spec_BlockOf.l0, decide_eq_false (show ¬ i < 4 by omega), cond_false, List.append_nil]
  | succ k ih =>
    intro n i y a0 a1 hd hn hy
    obtain ⟨n, rfl⟩ := succ_fuel hn
    obtain ⟨d, d1, d2⟩ := same_decode (x.getD i.toNat 0)
    obtain ⟨b, b1, _, e1, e2⟩ := same_ends d.1 d.2.1 d.2.2.1 d.2.2.2.1 d.2.2.2.2.1
    have h5 : dec5 (x.getD i.toNat 0) = (d.1, d.2.1, d.2.2.1, d.2.2.2.1, d.2.2.2.2.1) := by unfold dec5; rw [d1]
    have hE : endsE (d.1, d.2.1, d.2.2.1, d.2.2.2.1, d.2.2.2.2.1) = ends1 b d.1 := by unfold endsE; simp only [b1]; rfl
    simp only [f_spec_BlockOf.l0, decide_eq_true (show i < 4 by omega), decide_eq_true (show i < (x.length : Int) by omega), decide_eq_true (show (0 : Int) ≤ i by omega), Bool.and_self, cond_true, d1, e1, Option.bind_some, List.length_singleton, (blt_iff _ _).2 (show y.length + 1 < 3518437208883 by omega), w64 (show -9223372036854775808 ≤ i + 1 by omega) (by omega)]
    cases he : ends1 b d.1 with
    | true =>
      refine ⟨[(d.1, d.2.1, d.2.2.1, d.2.2.2.1, d.2.2.2.2.1)], .inl rfl, fun _ => by simp, by simp; omega, fun j h => ?_, fun j h => by simp at h⟩
      have : j = 0 := by simp at h; omega
      subst this
      rw [show i + ((0 : Nat) : Int) = i by omega, h5]
      rfl
    | false =>
      obtain ⟨s, r1, r2⟩ := ih n (i + 1) (y ++ [(d.1, d.2.1, d.2.2.1, d.2.2.2.1, d.2.2.2.2.1)]) (by omega) (by omega) (by omega) (by omega) (by simp; omega)
      refine ⟨(d.1, d.2.1, d.2.2.1, d.2.2.2.1, d.2.2.2.2.1) :: s, ?_, fun _ => by simp, by have := r2.len; simp; omega, fun j h => ?_, fun j h => ?_⟩
      · simpa using r1
      · cases j with
        | zero => rw [show i + ((0 : Nat) : Int) = i by omega, h5]; rfl
        | succ j =>
          have := r2.eq j (by simpa using h)
          rw [show i + ((j + 1 : Nat) : Int) = i + 1 + (j : Int) by omega, ← this]
          rfl
      · cases j with
        | zero => show endsE (d.1, d.2.1, d.2.2.1, d.2.2.2.1, d.2.2.2.2.1) = false; rw [hE]; exact he
        | succ j => exact r2.go j (by simpa using h)
theorem blockOf_facts (x : List Int) (x1 : Int) : f_spec_BlockOf x x1 = some (0, []) ∨ (x.length = 4 ∧ 0 ≤ x1 ∧ x1 ≤ 23 ∧ ∃ s, f_spec_BlockOf x x1 = some (x1, s) ∧ Blk x (x1 % 4) s) := by
  unfold f_spec_BlockOf
  by_cases hx : (x.length : Int) = 4
  · simp only [decide_eq_true hx, Bool.not_true, cond_false, in_rng, Option.bind_some]
    cases hr : rng x1 23 with
    | false => exact .inl rfl
    | true =>
      unfold rng at hr
      simp only [Bool.and_eq_true, decide_eq_true_eq] at hr
      have ht : Int.tmod x1 4 = x1 % 4 := Int.tmod_eq_emod_of_nonneg hr.1
      have hN : 4 < N := Nat.lt_trans (by omega) big
      obtain ⟨s, r1, r2⟩ := blkS_loop x (by omega) 0 x1 (4 - x1 % 4).toNat N (x1 % 4) [] (by omega) (by omega) (by omega) (by omega) (by simp; omega)
      refine .inr ⟨by omega, hr.1, hr.2, s, ?_, r2⟩
      simp only [Bool.not_true, cond_false, ht]
      simp only [List.nil_append] at r1
      rcases r1 with r1 | r1 <;> rw [r1] <;> rfl
  · rw [decide_eq_false hx]; exact .inl rfl
/-- What was taken apart is right. -/
theorem blkOk_loop (x : List Int) (i0 : Int) (s : List InsT) (h : Blk x i0 s) (a0 : Int) (c : Bool) (k : Nat) (hi0 : 0 ≤ i0) : ∀ (n : Nat) (i : Int), 0 ≤ i → i ≤ s.length → (s.length : Int) - i = k → k < n → f_spec_BlockOk.l0 n c i a0 s = some (.inr c) := by
  have hl := h.len
  induction k with
  | zero =>
    intro n i h0 h1 hd hk
    obtain ⟨n, rfl⟩ := succ_fuel hk
    simp only [f_spec_BlockOk.l0, decide_eq_false (show ¬ i < (s.length : Int) by omega), cond_false]
  | succ k ih =>
    intro n i h0 h1 hd hk
    obtain ⟨n, rfl⟩ := succ_fuel hk
    have ih2 := ih n (i + 1) (by omega) (by omega) (by omega) (by omega)
    have heq := h.eq i.toNat (by omega)
    have hgo := h.go i.toNat
    obtain ⟨d, d1, d2, hcase⟩ := dec_cases (x.getD (i0 + (i.toNat : Int)).toNat 0)
    have h5 : dec5 (x.getD (i0 + (i.toNat : Int)).toNat 0) = (d.1, d.2.1, d.2.2.1, d.2.2.2.1, d.2.2.2.2.1) := by unfold dec5; rw [d1]
    rw [h5] at heq
    rw [heq] at hgo
    obtain ⟨b, b1, _, e1, _⟩ := same_ends d.1 d.2.1 d.2.2.1 d.2.2.2.1 d.2.2.2.2.1
    have hE : endsE (d.1, d.2.1, d.2.2.1, d.2.2.2.1, d.2.2.2.2.1) = ends1 b d.1 := by unfold endsE; simp only [b1]; rfl
    rw [hE] at hgo
    simp only [f_spec_BlockOk.l0, decide_eq_true (show i < (s.length : Int) by omega), decide_eq_true h0, cond_true, Bool.and_self, heq, b1, e1, Option.bind_some, w64 (show -9223372036854775808 ≤ i + 1 by omega) (by omega), w64 (show -9223372036854775808 ≤ (s.length : Int) - 1 by omega) (by omega), ih2]
    by_cases hlast : i < (s.length : Int) - 1
    · rw [decide_eq_true hlast, hgo (by omega)]
      cases b with
      | true => rfl
      | false => have := hgo (by omega); simp [ends1] at this
    · rw [decide_eq_false hlast]
      cases b with
      | true => rfl
      | false =>
        rcases hcase with rfl | ⟨a', b', c', d', e', rfl, g1, -⟩
        · rfl
        · rw [g1] at b1; cases b1
theorem blk_ok (x : List Int) (x1 : Int) (s : List InsT) (h0 : 0 ≤ x1) (h1 : x1 ≤ 23) (h : Blk x (x1 % 4) s) : f_spec_BlockOk x1 s = some true := by
  have hl := h.len
  have hp := h.pos (by omega)
  have hr : rg x1 0 23 = true := by unfold rg; rw [decide_eq_true h0, decide_eq_true h1]; rfl
  have hr2 : rg (s.length : Int) 1 (4 - x1 % 4) = true := by unfold rg; rw [decide_eq_true (show (1 : Int) ≤ (s.length : Int) by omega), decide_eq_true hl]; rfl
  unfold f_spec_BlockOk
  simp only [in_rg, Option.bind_some, hr, Bool.not_true, cond_false, Int.tmod_eq_emod_of_nonneg h0, w64 (show -9223372036854775808 ≤ 4 - x1 % 4 by omega) (by omega), hr2, blkOk_loop x (x1 % 4) s h x1 false s.length (by omega) N 0 (by omega) (by omega) (by omega) (lt_N (by omega))]
  rfl
theorem and8 (n : Int) : bitI .and .i64 n 255 = n % 256 := by
  have h : (BitVec.ofInt 64 n &&& BitVec.ofInt 64 255).toNat = (n % 18446744073709551616).toNat % 256 := by
    rw [BitVec.toNat_and, BitVec.toNat_ofInt]
    show (n % 18446744073709551616).toNat &&& (2 ^ 8 - 1) = _
    rw [Nat.and_two_pow_sub_one_eq_mod]
  show IntKind.wrap .i64 ((BitVec.ofInt 64 n &&& BitVec.ofInt 64 255).toNat : Int) = _
  rw [h, w64 (by omega) (by omega)]
  omega
theorem draw_byte (x : List Int) (hn : x.length ≤ 1048576) (p s : Int) (hp : 0 ≤ p) : ∃ b p' s', f_spec_l1Byte x p s = some (b, p', s') ∧ 0 ≤ b ∧ b ≤ 255 ∧ 0 ≤ p' := by
  unfold f_spec_l1Byte
  simp only [and8]
  by_cases h : p < (x.length : Int)
  · rw [decide_eq_true h, decide_eq_true hp, w64 (show -9223372036854775808 ≤ p + 1 by omega) (by omega)]
    exact ⟨_, _, _, rfl, by omega, by omega, by omega⟩
  · rw [decide_eq_false h]
    exact ⟨_, _, _, rfl, by omega, by omega, hp⟩
theorem draw_below (x : List Int) (hn : x.length ≤ 1048576) (p s n : Int) (hp : 0 ≤ p) : ∃ r p' s', f_spec_l1Below x p s n = some (r, p', s') ∧ 0 ≤ p' ∧ 0 ≤ r ∧ (0 < n → r < n) ∧ (n ≤ 0 → r = 0) := by
  unfold f_spec_l1Below
  by_cases h0 : n ≤ 0
  · rw [decide_eq_true h0]
    exact ⟨_, _, _, rfl, hp, Int.le_refl _, fun h => by omega, fun _ => rfl⟩
  · rw [decide_eq_false h0, cond_false, decide_eq_false (show ¬ n = 0 by omega)]
    have hm : ∀ b, 0 ≤ b → 0 ≤ Int.tmod b n ∧ Int.tmod b n < n := fun b hb => by
      rw [Int.tmod_eq_emod_of_nonneg hb]
      exact ⟨Int.emod_nonneg _ (by omega), Int.emod_lt_of_pos _ (by omega)⟩
    by_cases h1 : n ≤ 256
    · obtain ⟨b, p', s', e, b0, b1, q⟩ := draw_byte x hn p s hp
      rw [decide_eq_true h1, e]
      exact ⟨_, _, _, rfl, q, (hm b b0).1, fun _ => (hm b b0).2, fun h => absurd h h0⟩
    · obtain ⟨b, p1, s1, e1, b0, b1, q1⟩ := draw_byte x hn p s hp
      obtain ⟨c, p2, s2, e2, c0, c1, q2⟩ := draw_byte x hn p1 s1 q1
      obtain ⟨d, p3, s3, e3, d0, d1, q3⟩ := draw_byte x hn p2 s2 q2
      obtain ⟨e, p4, s4, e4, f0, f1, q4⟩ := draw_byte x hn p3 s3 q3
      rw [decide_eq_false h1, cond_false, e1, Option.bind_some]
      simp only [e2, e3, e4, Option.bind_some, cond_false]
      rw [w64 (show -9223372036854775808 ≤ b * 16777216 by omega) (by omega), w64 (show -9223372036854775808 ≤ c * 65536 by omega) (by omega), w64 (show -9223372036854775808 ≤ d * 256 by omega) (by omega), w64 (show -9223372036854775808 ≤ b * 16777216 + c * 65536 by omega) (by omega), w64 (show -9223372036854775808 ≤ b * 16777216 + c * 65536 + d * 256 by omega) (by omega), w64 (show -9223372036854775808 ≤ b * 16777216 + c * 65536 + d * 256 + e by omega) (by omega)]
      have := hm (b * 16777216 + c * 65536 + d * 256 + e) (by omega)
      exact ⟨_, _, _, rfl, q4, this.1, fun _ => this.2, fun h => absurd h h0⟩
/-- The head of a draw: the bytes that it was handed, and a number out of them. -/
theorem draw_new {τ : Type} {F : Nat → List Int → Int → Int → Option τ} {G : List Int → Int → τ}
    (hs : ∀ n x s i, F (n + 1) x s i = bif (decide (i < (x.length : Int))) then bif (decide (i < (4000 : Int))) then bif ((decide ((0 : Int) ≤ i)) && (decide (i < (x.length : Int)))) then
      F n x (bitI .and .i64 (IntKind.wrap .i64 ((IntKind.wrap .i64 ((IntKind.wrap .i64 (s * (131 : Int))) + (IntKind.wrap .i64 ((x.getD i.toNat 0))))) + (7 : Int))) (1073741823 : Int)) (IntKind.wrap .i64 (i + (1 : Int))) else none else some (G x s) else some (G x s))
    (x : List Int) (hn : x.length ≤ 1048576) : ∀ s, ∃ s', F N x s 0 = some (G x s') := by
  have key : ∀ (k n : Nat) (s i : Int), 0 ≤ i → (x.length : Int) - i ≤ k → k < n → ∃ s', F n x s i = some (G x s') := by
    intro k
    induction k with
    | zero =>
      intro n s i h0 h1 hk
      obtain ⟨n, rfl⟩ := succ_fuel hk
      rw [hs, decide_eq_false (by omega)]
      exact ⟨_, rfl⟩
    | succ k ih =>
      intro n s i h0 h1 hk
      obtain ⟨n, rfl⟩ := succ_fuel hk
      rw [hs]
      by_cases h : i < (x.length : Int)
      · rw [decide_eq_true h, decide_eq_true h0, w64 (show -9223372036854775808 ≤ i + 1 by omega) (by omega)]
        cases decide (i < 4000)
        · exact ⟨_, rfl⟩
        · exact ih n _ (i + 1) (by omega) (by omega) (by omega)
      · rw [decide_eq_false h]; exact ⟨_, rfl⟩
  intro s
  exact key x.length N s 0 (Int.le_refl _) (by omega) (Nat.lt_of_le_of_lt hn (Nat.lt_trans (by omega) big))
theorem draw_pick (x : List Int) (hn : x.length ≤ 1048576) (p s : Int) (hp : 0 ≤ p) (l : List Int) (hl : 0 < (l.length : Int)) : ∃ e p' s', f_spec_l1PickInt x p s l = some (e, p', s') ∧ e ∈ l ∧ 0 ≤ p' := by
  unfold f_spec_l1PickInt
  obtain ⟨r, p', s', e, q, r0, r1, -⟩ := draw_below x hn p s (l.length : Int) hp
  rw [e, Option.bind_some]
  have r2 := r1 hl
  have hlt : r.toNat < l.length := by omega
  simp only [decide_eq_true r0, decide_eq_true r2, Bool.and_self, cond_true]
  refine ⟨_, _, _, rfl, ?_, q⟩
  rw [List.getD_eq_getElem?_getD, List.getElem?_eq_getElem hlt]
  exact List.getElem_mem hlt
theorem draw_once (x : List Int) (hn : x.length ≤ 1048576) (p s n : Int) (hp : 0 ≤ p) : ∃ b p' s', f_spec_l1Once x p s n = some (b, p', s') ∧ 0 ≤ p' := by
  unfold f_spec_l1Once
  obtain ⟨r, p', s', e, q, -⟩ := draw_below x hn p s n hp
  rw [e]
  exact ⟨_, _, _, rfl, q⟩
theorem drawIns (x : List Int) (hn : x.length ≤ 1048576) (p s : Int) (hp : 0 ≤ p) : ∃ a b c d e p' s', f_spec_l8DrawIns x p s = some (a, b, c, d, e, p', s') ∧ 0 ≤ p' := by
  unfold f_spec_l8DrawIns
  obtain ⟨a, p1, s1, e1, -, q1⟩ := draw_pick x hn p s hp ([1, 1, 2, 3, 3, 4, 4, 5, 5, 5, 6, 6, 7, 8, 9, 10] : List Int) (by simp)
  obtain ⟨m, c, hm, -⟩ := has_some a
  rw [e1, Option.bind_some]
  simp only [hm, Option.bind_some]
  have B := fun p s hp => draw_below x hn p s 4 hp
  have K := fun p s hp => draw_pick x hn p s hp ([0, 1, 2, 4, 8, 9, 12, 20, 23] : List Int) (by simp)
  cases !(decide (bitI .and .i64 m (1 : Int) = (0 : Int))) <;> cases !(decide (bitI .and .i64 m (2 : Int) = (0 : Int))) <;> cases !(decide (bitI .and .i64 m (4 : Int) = (0 : Int))) <;> cases !(decide (bitI .and .i64 m (8 : Int) = (0 : Int))) <;>
    simp only [cond_true, cond_false]
  · exact ⟨_, _, _, _, _, _, _, rfl, q1⟩
  · obtain ⟨v, p2, s2, e2, -, q2⟩ := K p1 s1 q1
    simp only [e2, Option.bind_some]; exact ⟨_, _, _, _, _, _, _, rfl, q2⟩
  · obtain ⟨v, p2, s2, e2, q2, -⟩ := B p1 s1 q1
    simp only [e2, Option.bind_some]; exact ⟨_, _, _, _, _, _, _, rfl, q2⟩
  · obtain ⟨v, p2, s2, e2, q2, -⟩ := B p1 s1 q1
    obtain ⟨w, p3, s3, e3, -, q3⟩ := K p2 s2 q2
    simp only [e2, e3, Option.bind_some]; exact ⟨_, _, _, _, _, _, _, rfl, q3⟩
  · obtain ⟨v, p2, s2, e2, q2, -⟩ := B p1 s1 q1
    simp only [e2, Option.bind_some]; exact ⟨_, _, _, _, _, _, _, rfl, q2⟩
  · obtain ⟨v, p2, s2, e2, q2, -⟩ := B p1 s1 q1
    obtain ⟨w, p3, s3, e3, -, q3⟩ := K p2 s2 q2
    simp only [e2, e3, Option.bind_some]; exact ⟨_, _, _, _, _, _, _, rfl, q3⟩
  · obtain ⟨v, p2, s2, e2, q2, -⟩ := B p1 s1 q1
    obtain ⟨w, p3, s3, e3, q3, -⟩ := B p2 s2 q2
    simp only [e2, e3, Option.bind_some]; exact ⟨_, _, _, _, _, _, _, rfl, q3⟩
  · obtain ⟨v, p2, s2, e2, q2, -⟩ := B p1 s1 q1
    obtain ⟨w, p3, s3, e3, q3, -⟩ := B p2 s2 q2
    obtain ⟨u, p4, s4, e4, -, q4⟩ := K p3 s3 q3
    simp only [e2, e3, e4, Option.bind_some]; exact ⟨_, _, _, _, _, _, _, rfl, q4⟩
  · obtain ⟨v, p2, s2, e2, q2, -⟩ := B p1 s1 q1
    simp only [e2, Option.bind_some]; exact ⟨_, _, _, _, _, _, _, rfl, q2⟩
  · obtain ⟨v, p2, s2, e2, q2, -⟩ := B p1 s1 q1
    obtain ⟨w, p3, s3, e3, -, q3⟩ := K p2 s2 q2
    simp only [e2, e3, Option.bind_some]; exact ⟨_, _, _, _, _, _, _, rfl, q3⟩
  · obtain ⟨v, p2, s2, e2, q2, -⟩ := B p1 s1 q1
    obtain ⟨w, p3, s3, e3, q3, -⟩ := B p2 s2 q2
    simp only [e2, e3, Option.bind_some]; exact ⟨_, _, _, _, _, _, _, rfl, q3⟩
  · obtain ⟨v, p2, s2, e2, q2, -⟩ := B p1 s1 q1
    obtain ⟨w, p3, s3, e3, q3, -⟩ := B p2 s2 q2
    obtain ⟨u, p4, s4, e4, -, q4⟩ := K p3 s3 q3
    simp only [e2, e3, e4, Option.bind_some]; exact ⟨_, _, _, _, _, _, _, rfl, q4⟩
  · obtain ⟨v, p2, s2, e2, q2, -⟩ := B p1 s1 q1
    obtain ⟨w, p3, s3, e3, q3, -⟩ := B p2 s2 q2
    simp only [e2, e3, Option.bind_some]; exact ⟨_, _, _, _, _, _, _, rfl, q3⟩
  · obtain ⟨v, p2, s2, e2, q2, -⟩ := B p1 s1 q1
    obtain ⟨w, p3, s3, e3, q3, -⟩ := B p2 s2 q2
    obtain ⟨u, p4, s4, e4, -, q4⟩ := K p3 s3 q3
    simp only [e2, e3, e4, Option.bind_some]; exact ⟨_, _, _, _, _, _, _, rfl, q4⟩
  · obtain ⟨v, p2, s2, e2, q2, -⟩ := B p1 s1 q1
    obtain ⟨w, p3, s3, e3, q3, -⟩ := B p2 s2 q2
    obtain ⟨u, p4, s4, e4, q4, -⟩ := B p3 s3 q3
    simp only [e2, e3, e4, Option.bind_some]; exact ⟨_, _, _, _, _, _, _, rfl, q4⟩
  · obtain ⟨v, p2, s2, e2, q2, -⟩ := B p1 s1 q1
    obtain ⟨w, p3, s3, e3, q3, -⟩ := B p2 s2 q2
    obtain ⟨u, p4, s4, e4, q4, -⟩ := B p3 s3 q3
    obtain ⟨t, p5, s5, e5, -, q5⟩ := K p4 s4 q4
    simp only [e2, e3, e4, e5, Option.bind_some]; exact ⟨_, _, _, _, _, _, _, rfl, q5⟩
theorem code_some (a b c d e : Int) : ∃ r, f_spec_Code a b c d e = some r := by
  obtain ⟨o, h1, -⟩ := same_ins a b c d e
  unfold f_spec_Code
  rw [h1]
  cases o <;> exact ⟨_, rfl⟩
theorem drawMem_l0 (x : List Int) (hn : x.length ≤ 1048576) : ∀ (k n : Nat) (i p s : Int) (y : List Int), 0 ≤ i → 24 - i = k → k < n → 0 ≤ p → (y.length : Int) = i → ∃ p' s' y', f_spec_l9DrawMem.l0 n i x p s y = some (x, p', s', y') ∧ 0 ≤ p' ∧ y'.length = 24 := by
  intro k
  induction k with
  | zero =>
    intro n i p s y h0 hk hn' hp hy
    obtain ⟨n, rfl⟩ := succ_fuel hn'
    simp only [f_spec_l9DrawMem.l0, decide_eq_false (show ¬ i < 24 by omega), cond_false]
    exact ⟨_, _, _, rfl, hp, by omega⟩
  | succ k ih =>
    intro n i p s y h0 hk hn' hp hy
    obtain ⟨n, rfl⟩ := succ_fuel hn'
    obtain ⟨a, b, c, d, e, p1, s1, e1, q1⟩ := drawIns x hn p s hp
    obtain ⟨r, hr⟩ := code_some a b c d e
    obtain ⟨v, p2, s2, e2, -, q2⟩ := draw_pick x hn p1 s1 q1 ([0, 1, 5, 65535] : List Int) (by simp)
    obtain ⟨o, p3, s3, e3, q3⟩ := draw_once x hn p1 s1 9 q1
    obtain ⟨u, p4, s4, e4, -, q4⟩ := draw_pick x hn p3 s3 q3 ([0, 1, 5, 65535] : List Int) (by simp)
    simp only [f_spec_l9DrawMem.l0, decide_eq_true (show i < 24 by omega), cond_true, e1, hr, Option.bind_some, e2, e3, e4, List.length_singleton, (blt_iff _ _).2 (show y.length + 1 < 17592186044416 by omega), w64 (show -9223372036854775808 ≤ i + 1 by omega) (by omega)]
    have hl : ∀ v : Int, ((y ++ [v]).length : Int) = i + 1 := fun v => by rw [List.length_append, List.length_singleton]; omega
    cases decide (15 < i)
    · cases o
      · exact ih n (i + 1) p3 s3 _ (by omega) (by omega) (by omega) q3 (hl _)
      · exact ih n (i + 1) p4 s4 _ (by omega) (by omega) (by omega) q4 (hl _)
    · exact ih n (i + 1) p2 s2 _ (by omega) (by omega) (by omega) q2 (hl _)
theorem drawMem_l1 (x : List Int) (p s : Int) (z : List (Int × Int × Int × Int × Int)) (hz : z.length ≤ 24) : ∀ (k n : Nat) (i : Int) (y : List Int), 0 ≤ i → (z.length : Int) - i ≤ k → k < n → y.length = 24 → ∃ y', f_spec_l9DrawMem.l1 n i x p s y z = some (x, p, s, y') ∧ y'.length = 24 := by
  intro k
  induction k with
  | zero =>
    intro n i y h0 hk hn hy
    obtain ⟨n, rfl⟩ := succ_fuel hn
    simp only [f_spec_l9DrawMem.l1, decide_eq_false (show ¬ i < (z.length : Int) by omega), cond_false]
    exact ⟨_, rfl, hy⟩
  | succ k ih =>
    intro n i y h0 hk hn hy
    obtain ⟨n, rfl⟩ := succ_fuel hn
    by_cases hi : i < (z.length : Int)
    · generalize he : z.getD i.toNat (0, 0, 0, 0, 0) = e
      obtain ⟨r, hr⟩ := code_some e.1 e.2.1 e.2.2.1 e.2.2.2.1 e.2.2.2.2
      simp only [f_spec_l9DrawMem.l1, decide_eq_true hi, decide_eq_true h0, cond_true, Bool.and_self, he, hr, Option.bind_some, decide_eq_true (show i < (y.length : Int) by omega), w64 (show -9223372036854775808 ≤ i + 1 by omega) (by omega)]
      exact ih n (i + 1) _ (by omega) (by omega) (by omega) (by rw [List.length_set]; exact hy)
    · simp only [f_spec_l9DrawMem.l1, decide_eq_false hi, cond_false]
      exact ⟨_, rfl, hy⟩
theorem drawMem_l2 (x : List Int) (p s : Int) (z : List (Int × Int × Int × Int × Int)) (hz : z.length ≤ 24) : ∀ (k n : Nat) (i : Int) (y : List Int), 0 ≤ i → (z.length : Int) - i ≤ k → k < n → y.length = 24 → ∃ y', f_spec_l9DrawMem.l2 n i x p s y z = some (x, p, s, y') ∧ y'.length = 24 := by
  intro k
  induction k with
  | zero =>
    intro n i y h0 hk hn hy
    obtain ⟨n, rfl⟩ := succ_fuel hn
    simp only [f_spec_l9DrawMem.l2, decide_eq_false (show ¬ i < (z.length : Int) by omega), cond_false]
    exact ⟨_, rfl, hy⟩
  | succ k ih =>
    intro n i y h0 hk hn hy
    obtain ⟨n, rfl⟩ := succ_fuel hn
    by_cases hi : i < (z.length : Int)
    · generalize he : z.getD i.toNat (0, 0, 0, 0, 0) = e
      obtain ⟨r, hr⟩ := code_some e.1 e.2.1 e.2.2.1 e.2.2.2.1 e.2.2.2.2
      simp only [f_spec_l9DrawMem.l2, decide_eq_true hi, decide_eq_true h0, cond_true, Bool.and_self, he, hr, Option.bind_some, decide_eq_true (show i < (y.length : Int) by omega), w64 (show -9223372036854775808 ≤ i + 1 by omega) (by omega)]
      exact ih n (i + 1) _ (by omega) (by omega) (by omega) (by rw [List.length_set]; exact hy)
    · simp only [f_spec_l9DrawMem.l2, decide_eq_false hi, cond_false]
      exact ⟨_, rfl, hy⟩
theorem drawMem (x : List Int) (hn : x.length ≤ 1048576) (p s : Int) (hp : 0 ≤ p) : ∃ y p' s', f_spec_l9DrawMem x p s = some (y, p', s') ∧ 0 ≤ p' ∧ y.length = 24 := by
  unfold f_spec_l9DrawMem
  have hN : ∀ k : Nat, k ≤ 1000 → k < N := fun k hk => Nat.lt_of_lt_of_le (show k < 1048577 by omega) (Nat.le_of_lt big)
  obtain ⟨p1, s1, y, e1, q1, hy⟩ := drawMem_l0 x hn 24 N 0 p s [] (by omega) rfl (hN 24 (by omega)) hp rfl
  obtain ⟨r, p2, s2, e2, q2, -⟩ := draw_below x hn p1 s1 4 q1
  obtain ⟨y3, e3, h3⟩ := drawMem_l1 x p2 s2 [(1, 1, 0, 0, 1), (6, 2, 0, 1, 20), (10, 3, 2, 1, 0), (8, 0, 0, 0, 1)] (by simp) 4 N 0 y (by omega) (by simp) (hN 4 (by omega)) hy
  obtain ⟨y4, e4, h4⟩ := drawMem_l2 x p2 s2 [(4, 1, 0, 0, 8), (3, 1, 1, 0, 1), (5, 0, 0, 1, 8), (8, 0, 0, 0, 8)] (by simp) 4 N 0 y (by omega) (by simp) (hN 4 (by omega)) hy
  rw [e1, Option.bind_some]
  simp only [e2, e3, e4, Option.bind_some]
  cases decide (r = 0)
  · cases decide (r = 1)
    · exact ⟨_, _, _, rfl, q2, hy⟩
    · exact ⟨_, _, _, rfl, q2, h4⟩
  · exact ⟨_, _, _, rfl, q2, h3⟩
theorem drawBlockOf (x : List Int) (hn : x.length ≤ 1048576) : ∃ y n, f_spec_DrawBlockOf x = some (y, n) ∧ y.length ≤ 4 := by
  unfold f_spec_DrawBlockOf
  obtain ⟨s', h⟩ := draw_new (F := f_spec_DrawBlockOf.l0) (G := fun x s => (x, s)) (fun _ _ _ _ => rfl) x hn (IntKind.wrap .i64 ((20404 : Int) + (x.length : Int)))
  obtain ⟨y, p1, s1, e1, q1, hy⟩ := drawMem x hn 0 s' (Int.le_refl _)
  obtain ⟨r2, p2, s2, e2, q2, -⟩ := draw_below x hn p1 s1 12 q1
  obtain ⟨r3, p3, s3, e3, -⟩ := draw_below x hn p2 s2 26 q2
  obtain ⟨r4, p4, s4, e4, -, q4⟩ := draw_pick x hn p2 s2 q2 ([-1, 65536] : List Int) (by simp)
  obtain ⟨r5, p5, s5, e5, -⟩ := draw_below x hn p4 s4 26 q4
  rw [h, Option.bind_some]
  simp only [e1, e2, e3, e4, e5, Option.bind_some, decide_eq_true (show (4 : Int) ≤ (y.length : Int) by omega), cond_true]
  cases decide (r2 = 0)
  · cases decide (r2 = 1)
    · exact ⟨_, _, rfl, by rw [List.length_take]; omega⟩
    · exact ⟨_, _, rfl, by rw [List.length_take]; omega⟩
  · exact ⟨_, _, rfl, by rw [List.length_take]; omega⟩
theorem drawBlock (x : List Int) (hn : x.length ≤ 1048576) (p s : Int) (hp : 0 ≤ p) : ∃ a y p' s', f_spec_l10Draw x p s = some (a, y, p', s') ∧ 0 ≤ p' ∧ y.length ≤ 5 := by
  unfold f_spec_l10Draw
  obtain ⟨m, p1, s1, e1, q1, hm⟩ := drawMem x hn p s hp
  obtain ⟨r, p2, s2, e2, q2, r0, r1, -⟩ := draw_below x hn p1 s1 24 q1
  have r1 := r1 (by omega)
  obtain ⟨t, p3, s3, e3, q3, -⟩ := draw_below x hn p2 s2 12 q2
  obtain ⟨u, p4, s4, e4, -, q4⟩ := draw_pick x hn p3 s3 q3 ([-1, 23, 24] : List Int) (by simp)
  obtain ⟨v, p5, s5, e5, q5, -⟩ := draw_below x hn p3 s3 12 q3
  have ht : Int.tdiv r 4 = r / 4 := Int.tdiv_eq_ediv_of_nonneg r0
  rw [e1, Option.bind_some]
  simp only [e2, Option.bind_some, ht, w64 (show -9223372036854775808 ≤ r / 4 by omega) (by omega), w64 (show -9223372036854775808 ≤ r / 4 * 4 by omega) (by omega), w64 (show -9223372036854775808 ≤ r / 4 * 4 + 4 by omega) (by omega), decide_eq_true (show 0 ≤ r / 4 * 4 by omega), decide_eq_true (show r / 4 * 4 ≤ r / 4 * 4 + 4 by omega), decide_eq_true (show r / 4 * 4 + 4 ≤ (m.length : Int) by omega), Bool.and_self, cond_true]
  generalize hw : (m.drop (r / 4 * 4).toNat).take (r / 4 * 4 + 4 - r / 4 * 4).toNat = w
  have hwl : w.length = 4 := by rw [← hw, List.length_take, List.length_drop]; omega
  have hb : ∃ b, f_spec_BlockOf w r = some b ∧ 1 ≤ b.2.length ∧ b.2.length ≤ 4 := by
    rcases blockOf_facts w r with h | ⟨-, -, -, z, h, hz⟩
    · exfalso
      unfold f_spec_BlockOf at h
      have hr : rng r 23 = true := by unfold rng; rw [decide_eq_true r0, decide_eq_true (show r ≤ 23 by omega)]; rfl
      obtain ⟨z, g1, g2⟩ := blkS_loop w hwl 0 r (4 - r % 4).toNat N (r % 4) [] (by omega) (by omega) (by omega) (Nat.lt_of_le_of_lt (show (4 - r % 4).toNat ≤ 4 by omega) (Nat.lt_trans (by omega) big)) (by simp; omega)
      have hp := g2.pos (by omega)
      simp only [decide_eq_true (show (w.length : Int) = 4 by omega), in_rng, hr, Option.bind_some, Bool.not_true, cond_false, Int.tmod_eq_emod_of_nonneg r0] at h
      simp only [List.nil_append] at g1
      rcases g1 with g1 | g1 <;> rw [g1] at h <;> simp only [Option.bind_some, cs, Option.some.injEq, Prod.mk.injEq] at h <;> rw [h.2] at hp <;> simp at hp
    · have := hz.pos (by omega)
      have := hz.len
      exact ⟨_, h, by simp only; omega, by simp only; omega⟩
  obtain ⟨b, b1, b2, b3⟩ := hb
  simp only [b1, e3, e4, e5, Option.bind_some, List.length_singleton, (blt_iff _ _).2 (show b.2.length + 1 < 3518437208883 by omega), cond_true, decide_eq_true (show (0 : Int) < (b.2.length : Int) by omega)]
  cases decide (t = 0)
  · cases decide (t = 1)
    · cases decide (t = 2)
      · cases decide (t = 3)
        · exact ⟨_, _, _, _, rfl, q3, by omega⟩
        · exact ⟨_, _, _, _, rfl, q5, by rw [List.length_set]; omega⟩
      · exact ⟨_, _, _, _, rfl, q3, by rw [List.length_append, List.length_singleton]; omega⟩
    · exact ⟨_, _, _, _, rfl, q3, by simp⟩
  · exact ⟨_, _, _, _, rfl, q4, by omega⟩
theorem drawBlockOk (x : List Int) (hn : x.length ≤ 1048576) : ∃ a y, f_spec_DrawBlockOk x = some (a, y) ∧ y.length ≤ 5 := by
  unfold f_spec_DrawBlockOk
  obtain ⟨s', h⟩ := draw_new (F := fun n x s i => f_spec_DrawBlockOk.l0 n x s i 0) (G := fun x s => (x, s, 0)) (fun _ _ _ _ => rfl) x hn (IntKind.wrap .i64 ((20404 : Int) + (x.length : Int)))
  obtain ⟨a, y, p1, s1, e1, q1, hy⟩ := drawBlock x hn 0 s' (Int.le_refl _)
  rw [h, Option.bind_some]
  simp only [e1, Option.bind_some]
  exact ⟨_, _, rfl, hy⟩
theorem drawPageOf (x : List Int) (hn : x.length ≤ 1048576) : ∃ a y, f_spec_DrawPageOf x = some (a, y) ∧ y.length ≤ 5 := by
  unfold f_spec_DrawPageOf
  obtain ⟨s', h⟩ := draw_new (F := fun n x s i => f_spec_DrawPageOf.l0 n x s i 0) (G := fun x s => (x, s, 0)) (fun _ _ _ _ => rfl) x hn (IntKind.wrap .i64 ((20404 : Int) + (x.length : Int)))
  obtain ⟨a, y, p1, s1, e1, q1, hy⟩ := drawBlock x hn 0 s' (Int.le_refl _)
  rw [h, Option.bind_some]
  simp only [e1, Option.bind_some]
  exact ⟨_, _, rfl, hy⟩
theorem drawAt (x : List Int) (hn : x.length ≤ 1048576) : ∃ a y n, f_spec_DrawAt x = some (a, y, n) ∧ y.length ≤ 5 := by
  unfold f_spec_DrawAt
  obtain ⟨s', h⟩ := draw_new (F := fun n x s i => f_spec_DrawAt.l0 n x s i 0) (G := fun x s => (x, s, 0)) (fun _ _ _ _ => rfl) x hn (IntKind.wrap .i64 ((20404 : Int) + (x.length : Int)))
  obtain ⟨a, y, p1, s1, e1, q1, hy⟩ := drawBlock x hn 0 s' (Int.le_refl _)
  obtain ⟨r, p2, s2, e2, -⟩ := draw_below x hn p1 s1 6 q1
  rw [h, Option.bind_some]
  simp only [e1, e2, Option.bind_some]
  exact ⟨_, _, _, rfl, hy⟩
theorem same_pageOf (a : Int) (x : List InsT) (hn : x.length ≤ 1048576) : ∃ r, f_spec_PageOf a x = some r ∧ f_impl_PageOf a x = some r := by
  obtain ⟨b, h1, h2⟩ := same_blockOk a x hn
  unfold f_spec_PageOf f_impl_PageOf
  simp only [h1, h2, Option.bind_some]
  cases b <;> exact ⟨_, rfl, rfl⟩
theorem sameIns_loop (x : List InsT) (hn : x.length ≤ 1048576) (b : Bool) (d : Nat) : ∀ (n : Nat) (i : Int), 0 ≤ i → i ≤ x.length → (x.length : Int) - i = d → d < n → f_laws_sameIns.l0 n x x b i = some (.inr b) := by
  induction d with
  | zero =>
    intro n i h0 h1 hd hk
    obtain ⟨n, rfl⟩ := succ_fuel hk
    simp only [f_laws_sameIns.l0, decide_eq_false (show ¬ i < (x.length : Int) by omega), cond_false]
  | succ d ih =>
    intro n i h0 h1 hd hk
    obtain ⟨n, rfl⟩ := succ_fuel hk
    simp only [f_laws_sameIns.l0, decide_eq_true (show i < (x.length : Int) by omega), decide_eq_true h0, w64 (show -9223372036854775808 ≤ i + 1 by omega) (by omega), cond_true, Bool.and_self, decide_true, Bool.not_true, cond_false]
    exact ih n (i + 1) (by omega) (by omega) (by omega) (by omega)
theorem sameIns (x : List InsT) (hn : x.length ≤ 1048576) : f_laws_sameIns x x = some true := by
  unfold f_laws_sameIns
  simp only [decide_true, Bool.not_true, cond_false]
  rw [sameIns_loop x hn false x.length N 0 (by omega) (by omega) (by omega) (lt_N hn)]
  rfl
theorem at_ok (a : Int) (x : List InsT) (p : Int) (hn : x.length ≤ 1048576) (h : f_impl_BlockOk a x = some true) (a0 : 0 ≤ a) (a1 : a ≤ 23) (h0 : a ≤ p) (h1 : p < a + (x.length : Int)) : f_impl_At a x p = some ((x.getD (p - a).toNat (0, 0, 0, 0, 0)).1, (x.getD (p - a).toNat (0, 0, 0, 0, 0)).2.1, (x.getD (p - a).toNat (0, 0, 0, 0, 0)).2.2.1, (x.getD (p - a).toNat (0, 0, 0, 0, 0)).2.2.2.1, (x.getD (p - a).toNat (0, 0, 0, 0, 0)).2.2.2.2, true) := by
  unfold f_impl_At
  have hr : rg p a (a + (x.length : Int) - 1) = true := by unfold rg; rw [decide_eq_true h0, decide_eq_true (show p ≤ a + (x.length : Int) - 1 by omega)]; rfl
  simp only [h, Option.bind_some, Bool.not_true, cond_false, w64 (show -9223372036854775808 ≤ a + (x.length : Int) by omega) (by omega), w64 (show -9223372036854775808 ≤ a + (x.length : Int) - 1 by omega) (by omega), from_rg, hr, w64 (show -9223372036854775808 ≤ p - a by omega) (by omega), decide_eq_true (show 0 ≤ p - a by omega), decide_eq_true (show p - a < (x.length : Int) by omega), Bool.and_self, cond_true]
theorem blocks_loop (x : List Int) (hx : x.length = 4) (p : Int) (p0 : 0 ≤ p) (p1 : p ≤ 23) (s : List InsT) (h : Blk x (p % 4) s) (hk : f_impl_BlockOk p s = some true) (k : Nat) : ∀ (n : Nat) (i : Int), 0 ≤ i → i ≤ s.length → (s.length : Int) - i = k → k < n →
    f_laws_FnBlocks.l0 n false p i x p s = some (.inr (false, p, p, s)) := by
  have hl := h.len
  induction k with
  | zero =>
    intro n i h0 h1 hd hn
    obtain ⟨n, rfl⟩ := succ_fuel hn
    simp only [f_laws_FnBlocks.l0, decide_eq_false (show ¬ i < (s.length : Int) by omega), cond_false]
  | succ k ih =>
    intro n i h0 h1 hd hn
    obtain ⟨n, rfl⟩ := succ_fuel hn
    have ih2 := ih n (i + 1) (by omega) (by omega) (by omega) (by omega)
    have heq := h.eq i.toNat (by omega)
    rw [show p % 4 + (i.toNat : Int) = p % 4 + i by omega] at heq
    obtain ⟨d, d1, d2⟩ := same_decode (x.getD (p % 4 + i).toNat 0)
    have h5 : dec5 (x.getD (p % 4 + i).toNat 0) = (d.1, d.2.1, d.2.2.1, d.2.2.2.1, d.2.2.2.2.1) := by unfold dec5; rw [d1]
    rw [h5] at heq
    have hat := at_ok p s (p + i) (by omega) hk p0 p1 (by omega) (by omega)
    rw [show p + i - p = i by omega, heq] at hat
    simp only [f_laws_FnBlocks.l0, decide_eq_true (show i < (s.length : Int) by omega), cond_true, Int.tmod_eq_emod_of_nonneg p0, w64 (show -9223372036854775808 ≤ p % 4 + i by omega) (by omega), decide_eq_true (show 0 ≤ p % 4 + i by omega), decide_eq_true (show p % 4 + i < (x.length : Int) by omega), Bool.and_self, d2, Option.bind_some, w64 (show -9223372036854775808 ≤ p + i by omega) (by omega), hat, decide_true, Bool.not_true, cond_false, w64 (show -9223372036854775808 ≤ i + 1 by omega) (by omega), ih2]
theorem blocks (x0 : List Int) : f_laws_FnBlocks x0 = some true := by
  unfold f_laws_FnBlocks f_laws_big
  by_cases hb : (1048576 : Int) < (x0.length : Int)
  · rw [decide_eq_true hb]; rfl
  rw [decide_eq_false hb]
  have hn : x0.length ≤ 1048576 := by omega
  obtain ⟨y, n, e1, hy⟩ := drawBlockOf x0 hn
  obtain ⟨r, r1, r2, r3⟩ := same_blockOf y n
  obtain ⟨a2, y2, e2, h2⟩ := drawBlockOk x0 hn
  obtain ⟨a3, y3, n3, e3, h3⟩ := drawAt x0 hn
  obtain ⟨a4, y4, e4, h4⟩ := drawPageOf x0 hn
  obtain ⟨b, b1, b2⟩ := same_blockOk a2 y2 (by omega)
  obtain ⟨t, t1, t2⟩ := same_at a3 y3 n3 (by omega)
  obtain ⟨g, g1, g2⟩ := same_pageOf a4 y4 (by omega)
  simp only [Option.bind_some, cond_false, e1, r1, r2, decide_true, Bool.not_true, sameIns r.2 (by omega), e2, e3, e4, b1, b2, t1, t2, g1, g2, beq_self_eq_true, Bool.and_self]
  rcases blockOf_facts y n with h | ⟨hx, p0, p1, s, h, hs⟩
  · rw [r1] at h
    cases h
    rfl
  · rw [r1] at h
    cases h
    have hp := hs.pos (by omega)
    have hl := hs.len
    have hok := blk_ok y n s p0 p1 hs
    obtain ⟨b', c1, c2⟩ := same_blockOk n s (by omega)
    rw [hok] at c1
    cases c1
    simp only [decide_eq_false (show ¬ (s.length : Int) = 0 by omega), cond_false, blocks_loop y hx n p0 p1 s hs c2 s.length N 0 (by omega) (by omega) (by omega) (lt_N (by omega)), Option.bind_some, cs, c2, cond_true, f_impl_PageOf, Bool.not_true, decide_true]
theorem plain : Pure := fun x _ => blocks x
end Go.Abs
