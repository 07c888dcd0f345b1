/- The law FnTargets returns true for all bytes that a draw is made of: what a drawn place looks at is a cell, or nothing. More than 2^20 bytes are not asked for. -/
import Derived.Test.YtgifligfbjnmfaaMFnTargets
import Derived.Laws.BitsLemmas
namespace Go.Abs
open Go.RowKit

theorem w64 {n : Int} (h0 : -9223372036854775808 ≤ n) (h1 : n ≤ 9223372036854775807) : IntKind.wrap .i64 n = n := by
  rw [IntKind.wrap_i64]
  omega
theorem succ_fuel {n d : Nat} (h : d < n) : ∃ m, n = m + 1 := ⟨n - 1, by omega⟩
theorem big : (1048577 : Nat) < N := by decide
theorem mem_getD {α : Type} (x : List α) (d : α) (i : Int) (h0 : 0 ≤ i) (h1 : i < x.length) : x.getD i.toNat d ∈ x := by
  have hlt : i.toNat < x.length := by omega
  rw [List.getD_eq_getElem?_getD, List.getElem?_eq_getElem hlt]
  exact List.getElem_mem hlt
theorem drop_getD {α : Type} (x : List α) (d : α) (i : Int) (h0 : 0 ≤ i) (h1 : i < x.length) : x.drop i.toNat = x.getD i.toNat d :: x.drop (i + 1).toNat := by
  have hlt : i.toNat < x.length := by omega
  have e : (i + 1).toNat = i.toNat + 1 := by omega
  rw [e, List.drop_eq_getElem_cons hlt, List.getD_eq_getElem?_getD, List.getElem?_eq_getElem hlt]
  rfl
theorem to_gen {α : Type} {d : α} {F : Nat → List α → Int → List α → Option (List α)} {g : α → Option α}
    (hs : ∀ n x i y, F (n + 1) x i y = bif decide (i < (x.length : Int)) then (bif (decide ((0 : Int) ≤ i) && decide (i < (x.length : Int))) then (g (x.getD i.toNat d)).bind fun e => (bif (decide ((0 : Int) ≤ i) && decide (i < (y.length : Int))) then F n x (IntKind.wrap .i64 (i + 1)) (y.set i.toNat e) else none) else none) else some y)
    (x : List α) (hn : x.length ≤ 1048576) (hg : ∀ e ∈ x, g e = some e) (k : Nat) : ∀ (n : Nat) (y : List α) (i : Int), 0 ≤ i → i ≤ x.length → (x.length : Int) - i = k → k < n → y.length = x.length → y.take i.toNat = x.take i.toNat → F n x i y = some x := by
  induction k with
  | zero =>
    intro n y i h0 h1 hd hk hl ht
    obtain ⟨n, rfl⟩ := succ_fuel hk
    rw [hs, decide_eq_false (by omega), cond_false]
    rw [List.take_of_length_le (by omega), List.take_of_length_le (by omega)] at ht
    rw [ht]
  | succ k ih =>
    intro n y i h0 h1 hd hk hl ht
    obtain ⟨n, rfl⟩ := succ_fuel hk
    have hw : IntKind.wrap .i64 (i + 1) = i + 1 := w64 (by omega) (by omega)
    have hlt : i.toNat < x.length := by omega
    rw [hs, decide_eq_true (show i < (x.length : Int) by omega), decide_eq_true h0, decide_eq_true (show i < (y.length : Int) by omega), hw, hg _ (mem_getD x d i h0 (by omega))]
    simp only [cond_true, Bool.and_self, Option.bind_some]
    refine ih n _ (i + 1) (by omega) (by omega) (by omega) (by omega) (by rw [List.length_set]; exact hl) ?_
    have e : (i + 1).toNat = i.toNat + 1 := by omega
    rw [e, List.take_add_one, List.take_add_one, List.take_set, List.getElem?_set_self (by omega), List.getElem?_eq_getElem hlt]
    have : x.getD i.toNat d = x[i.toNat] := by rw [List.getD_eq_getElem?_getD, List.getElem?_eq_getElem hlt]; rfl
    rw [this, List.set_eq_of_length_le (by rw [List.length_take]; omega), ht]
theorem eq_gen {α : Type} {d : α} {F : Nat → List α → List α → Bool → Int → Option (Bool ⊕ Bool)} {q : α → α → Option Bool}
    (hs : ∀ n x y b i, F (n + 1) x y b i = bif decide (i < (x.length : Int)) then (bif (decide ((0 : Int) ≤ i) && decide (i < (x.length : Int))) then (bif (decide ((0 : Int) ≤ i) && decide (i < (y.length : Int))) then (q (x.getD i.toNat d) (y.getD i.toNat d)).bind fun r => (bif (!r) then some (.inl false) else F n x y b (IntKind.wrap .i64 (i + 1))) else none) else none) else some (.inr b))
    (x : List α) (hn : x.length ≤ 1048576) (hq : ∀ e ∈ x, q e e = some true) (b : Bool) (k : Nat) : ∀ (n : Nat) (i : Int), 0 ≤ i → i ≤ x.length → (x.length : Int) - i = k → k < n → F n x x b i = some (.inr b) := by
  induction k with
  | zero =>
    intro n i h0 h1 hd hk
    obtain ⟨n, rfl⟩ := succ_fuel hk
    rw [hs, decide_eq_false (by omega), cond_false]
  | succ k ih =>
    intro n i h0 h1 hd hk
    obtain ⟨n, rfl⟩ := succ_fuel hk
    have hw : IntKind.wrap .i64 (i + 1) = i + 1 := w64 (by omega) (by omega)
    rw [hs, decide_eq_true (show i < (x.length : Int) by omega), decide_eq_true h0, hw, hq _ (mem_getD x d i h0 (by omega))]
    simp only [cond_true, Bool.and_self, Option.bind_some, Bool.not_true, cond_false]
    exact ih n (i + 1) (by omega) (by omega) (by omega) (by omega)
theorem sz_gen {α : Type} {d : α} {F : Nat → List α → Int → Int → Int → Option (Int ⊕ (Int × Int))} {s : α → Int → Option Int} {Ok : α → Prop}
    (hs : ∀ n x l q i, F (n + 1) x l q i = bif decide (i < (x.length : Int)) then (bif (decide ((0 : Int) ≤ i) && decide (i < (x.length : Int))) then (s (x.getD i.toNat d) l).bind fun r => (bif decide (r < 0) then some (.inl (-1)) else F n x r q (IntKind.wrap .i64 (i + 1))) else none) else some (.inr (l, q)))
    (x : List α) (hn : x.length ≤ 1048576) (he : ∀ e ∈ x, ∀ l, 0 ≤ l → l ≤ 1048576 → s e l = some (-1) ∨ ∃ l', s e l = some l' ∧ 0 ≤ l' ∧ l' ≤ l ∧ Ok e) (q : Int) (k : Nat) :
    ∀ (n : Nat) (l i : Int), 0 ≤ l → l ≤ 1048576 → 0 ≤ i → i ≤ x.length → (x.length : Int) - i = k → k < n → F n x l q i = some (.inl (-1)) ∨ ∃ l', F n x l q i = some (.inr (l', q)) ∧ 0 ≤ l' ∧ l' ≤ l ∧ ∀ e ∈ x.drop i.toNat, Ok e := by
  induction k with
  | zero =>
    intro n l i hl0 hl1 h0 h1 hd hk
    obtain ⟨n, rfl⟩ := succ_fuel hk
    rw [hs, decide_eq_false (show ¬ i < (x.length : Int) by omega), cond_false, List.drop_eq_nil_of_le (by omega)]
    exact .inr ⟨l, rfl, hl0, Int.le_refl _, fun e h => by cases h⟩
  | succ k ih =>
    intro n l i hl0 hl1 h0 h1 hd hk
    obtain ⟨n, rfl⟩ := succ_fuel hk
    have hw : IntKind.wrap .i64 (i + 1) = i + 1 := w64 (by omega) (by omega)
    rw [hs, decide_eq_true (show i < (x.length : Int) by omega), decide_eq_true h0, hw]
    simp only [cond_true, Bool.and_self]
    rcases he _ (mem_getD x d i h0 (by omega)) l hl0 hl1 with h | ⟨l', h, a0, a1, a2⟩
    · rw [h]; exact .inl rfl
    · rw [h, Option.bind_some, decide_eq_false (show ¬ l' < 0 by omega), cond_false]
      rcases ih n l' (i + 1) a0 (by omega) (by omega) (by omega) (by omega) (by omega) with h2 | ⟨l2, h2, b0, b1, b2⟩
      · exact .inl h2
      · refine .inr ⟨l2, h2, b0, by omega, fun e hm => ?_⟩
        rw [drop_getD x d i h0 (by omega)] at hm
        rcases List.mem_cons.1 hm with rfl | hm
        · exact a2
        · exact b2 e hm
theorem lt_N {x : Nat} (h : x ≤ 1048576) : x < N := Nat.lt_of_le_of_lt h (Nat.lt_trans (by omega) big)
def rng (x m : Int) : Bool := decide ((0 : Int) ≤ x) && decide (x ≤ m)
theorem in_rng (x m : Int) : f_spec_l1In x 0 m = some (rng x m) := by
  unfold f_spec_l1In rng
  cases decide ((0 : Int) ≤ x) <;> rfl
theorem from_rng (x m : Int) : f_impl_from x 0 m = some (rng x m) := by
  unfold f_impl_from rng
  cases decide ((0 : Int) ≤ x) <;> rfl
theorem field_eq (x m : Int) (h : Bool) : f_spec_l8Field x m h = some (rng x m && (h || decide (x = 0))) := by
  unfold f_spec_l8Field
  rw [in_rng]
  simp only [Option.bind_some]
  cases rng x m <;> cases h <;> rfl
theorem chain (a b c d : Bool) : (bif a then (bif b then (bif c then some d else some false) else some false) else some false) = some (a && (b && (c && d))) := by
  cases a <;> cases b <;> cases c <;> rfl
/-- What the reference says of an instruction with these letters. -/
theorem spec_ins (x0 x1 x2 x3 x4 m : Int) (h1 h2 h3 h4 : Bool) (hm : f_spec_l8Has x0 = some m) (hin : f_spec_l1In x0 1 10 = some true)
    (b1 : (!(decide (bitI .and .i64 m (1 : Int) = (0 : Int)))) = h1) (b2 : (!(decide (bitI .and .i64 m (2 : Int) = (0 : Int)))) = h2) (b3 : (!(decide (bitI .and .i64 m (4 : Int) = (0 : Int)))) = h3) (b4 : (!(decide (bitI .and .i64 m (8 : Int) = (0 : Int)))) = h4) :
    f_spec_InsOk x0 x1 x2 x3 x4 = some ((rng x1 3 && (h1 || decide (x1 = 0))) && ((rng x2 3 && (h2 || decide (x2 = 0))) && ((rng x3 3 && (h3 || decide (x3 = 0))) && (rng x4 63 && (h4 || decide (x4 = 0)))))) := by
  unfold f_spec_InsOk
  simp only [hm, hin, Option.bind_some, b1, b2, b3, b4, field_eq, cond_true]
  rw [← chain]
theorem impl_ins (x0 x1 x2 x3 x4 r a b n : Int) (s : ByteArray) (hf : f_impl_form x0 = some (s, true))
    (hl : f_impl_InsOk.l0 N false s true (s.size : Int) 0 x0 x1 x2 x3 x4 x0 0 0 0 0 = some (false, true, x0, x1, x2, x3, x4, x0, r, a, b, n)) :
    f_impl_InsOk x0 x1 x2 x3 x4 = some ((decide (r = x1) && (decide (a = x2) && (decide (b = x3) && decide (n = x4)))) && (rng x1 3 && (rng x2 3 && (rng x3 3 && rng x4 63)))) := by
  unfold f_impl_InsOk
  simp only [hf, Option.bind_some, hl, cond_true, decide_true, Bool.true_and, from_rng]
  rw [chain]
  cases (decide (r = x1) && (decide (a = x2) && (decide (b = x3) && decide (n = x4)))) <;> rfl
theorem sym (x : Int) : decide ((0 : Int) = x) = decide (x = 0) := by
  by_cases h : x = 0
  · subst h; rfl
  · rw [decide_eq_false h, decide_eq_false (fun e => h e.symm)]
theorem alg : ∀ a b c d e f g h : Bool, ((a && (true || e)) && ((b && (true || f)) && ((c && (true || g)) && (d && (true || h))))) = ((true && (true && (true && true))) && (a && (b && (c && d)))) := by decide

theorem same_ins (x0 x1 x2 x3 x4 : Int) : ∃ b, f_spec_InsOk x0 x1 x2 x3 x4 = some b ∧ f_impl_InsOk x0 x1 x2 x3 x4 = some b := by
  obtain ⟨k, hk⟩ : ∃ k : Nat, N = k + 6 := ⟨1152921504606846970, rfl⟩
  by_cases hin : (1 : Int) ≤ x0 ∧ x0 ≤ 10
  · have hi : f_spec_l1In x0 1 10 = some true := by unfold f_spec_l1In; rw [decide_eq_true hin.1, decide_eq_true hin.2]; rfl
    have : x0 = 1 ∨ x0 = 2 ∨ x0 = 3 ∨ x0 = 4 ∨ x0 = 5 ∨ x0 = 6 ∨ x0 = 7 ∨ x0 = 8 ∨ x0 = 9 ∨ x0 = 10 := by omega
    rcases this with rfl | rfl | rfl | rfl | rfl | rfl | rfl | rfl | rfl | rfl
    · refine ⟨_, spec_ins 1 x1 x2 x3 x4 9 true false false true rfl hi (by decide) (by decide) (by decide) (by decide), ?_⟩
      rw [impl_ins 1 x1 x2 x3 x4 x1 0 0 x4 ⟨#[82, 78]⟩ rfl (by rw [hk]; rfl)]
      simp only [decide_true, sym]
      cases rng x1 3 <;> cases rng x2 3 <;> cases rng x3 3 <;> cases rng x4 63 <;> cases decide (x2 = 0) <;> cases decide (x3 = 0) <;> simp
    · refine ⟨_, spec_ins 2 x1 x2 x3 x4 7 true true true false rfl hi (by decide) (by decide) (by decide) (by decide), ?_⟩
      rw [impl_ins 2 x1 x2 x3 x4 x1 x2 x3 0 ⟨#[82, 65, 66]⟩ rfl (by rw [hk]; rfl)]
      simp only [decide_true, sym]
      cases rng x1 3 <;> cases rng x2 3 <;> cases rng x3 3 <;> cases rng x4 63 <;> cases decide (x4 = 0) <;> simp
    · refine ⟨_, spec_ins 3 x1 x2 x3 x4 11 true true false true rfl hi (by decide) (by decide) (by decide) (by decide), ?_⟩
      rw [impl_ins 3 x1 x2 x3 x4 x1 x2 0 x4 ⟨#[82, 65, 78]⟩ rfl (by rw [hk]; rfl)]
      simp only [decide_true, sym]
      cases rng x1 3 <;> cases rng x2 3 <;> cases rng x3 3 <;> cases rng x4 63 <;> cases decide (x3 = 0) <;> simp
    · refine ⟨_, spec_ins 4 x1 x2 x3 x4 11 true true false true rfl hi (by decide) (by decide) (by decide) (by decide), ?_⟩
      rw [impl_ins 4 x1 x2 x3 x4 x1 x2 0 x4 ⟨#[82, 65, 78]⟩ rfl (by rw [hk]; rfl)]
      simp only [decide_true, sym]
      cases rng x1 3 <;> cases rng x2 3 <;> cases rng x3 3 <;> cases rng x4 63 <;> cases decide (x3 = 0) <;> simp
    · refine ⟨_, spec_ins 5 x1 x2 x3 x4 14 false true true true rfl hi (by decide) (by decide) (by decide) (by decide), ?_⟩
      rw [impl_ins 5 x1 x2 x3 x4 0 x2 x3 x4 ⟨#[65, 66, 78]⟩ rfl (by rw [hk]; rfl)]
      simp only [decide_true, sym]
      cases rng x1 3 <;> cases rng x2 3 <;> cases rng x3 3 <;> cases rng x4 63 <;> cases decide (x1 = 0) <;> simp
    · refine ⟨_, spec_ins 6 x1 x2 x3 x4 15 true true true true rfl hi (by decide) (by decide) (by decide) (by decide), ?_⟩
      rw [impl_ins 6 x1 x2 x3 x4 x1 x2 x3 x4 ⟨#[82, 65, 66, 78]⟩ rfl (by rw [hk]; rfl)]
      simp only [decide_true]
      cases rng x1 3 <;> cases rng x2 3 <;> cases rng x3 3 <;> cases rng x4 63 <;> simp
    · refine ⟨_, spec_ins 7 x1 x2 x3 x4 10 false true false true rfl hi (by decide) (by decide) (by decide) (by decide), ?_⟩
      rw [impl_ins 7 x1 x2 x3 x4 0 x2 0 x4 ⟨#[65, 78]⟩ rfl (by rw [hk]; rfl)]
      simp only [decide_true, sym]
      cases rng x1 3 <;> cases rng x2 3 <;> cases rng x3 3 <;> cases rng x4 63 <;> cases decide (x1 = 0) <;> cases decide (x3 = 0) <;> simp
    · refine ⟨_, spec_ins 8 x1 x2 x3 x4 8 false false false true rfl hi (by decide) (by decide) (by decide) (by decide), ?_⟩
      rw [impl_ins 8 x1 x2 x3 x4 0 0 0 x4 ⟨#[78]⟩ rfl (by rw [hk]; rfl)]
      simp only [decide_true, sym]
      cases rng x1 3 <;> cases rng x2 3 <;> cases rng x3 3 <;> cases rng x4 63 <;> cases decide (x1 = 0) <;> cases decide (x2 = 0) <;> cases decide (x3 = 0) <;> simp
    · refine ⟨_, spec_ins 9 x1 x2 x3 x4 0 false false false false rfl hi (by decide) (by decide) (by decide) (by decide), ?_⟩
      rw [impl_ins 9 x1 x2 x3 x4 0 0 0 0 ⟨#[]⟩ rfl (by rw [hk]; rfl)]
      simp only [sym]
      cases rng x1 3 <;> cases rng x2 3 <;> cases rng x3 3 <;> cases rng x4 63 <;> cases decide (x1 = 0) <;> cases decide (x2 = 0) <;> cases decide (x3 = 0) <;> cases decide (x4 = 0) <;> simp
    · refine ⟨_, spec_ins 10 x1 x2 x3 x4 7 true true true false rfl hi (by decide) (by decide) (by decide) (by decide), ?_⟩
      rw [impl_ins 10 x1 x2 x3 x4 x1 x2 x3 0 ⟨#[82, 65, 66]⟩ rfl (by rw [hk]; rfl)]
      simp only [decide_true, sym]
      cases rng x1 3 <;> cases rng x2 3 <;> cases rng x3 3 <;> cases rng x4 63 <;> cases decide (x4 = 0) <;> simp
  · refine ⟨false, ?_, ?_⟩
    · have hi : f_spec_l1In x0 1 10 = some false := by
        unfold f_spec_l1In
        by_cases h1 : (1 : Int) ≤ x0
        · rw [decide_eq_true h1, decide_eq_false (fun h => hin ⟨h1, h⟩)]; rfl
        · rw [decide_eq_false h1]; rfl
      unfold f_spec_InsOk f_spec_l8Has
      simp only [hi, Option.bind_some, Bool.not_false, cond_true, cond_false]
    · have hf : f_impl_form x0 = some (⟨#[]⟩, false) := by
        unfold f_impl_form
        rw [decide_eq_false (by omega), decide_eq_false (by omega), decide_eq_false (by omega), decide_eq_false (by omega), decide_eq_false (by omega), decide_eq_false (by omega), decide_eq_false (by omega), decide_eq_false (by omega), decide_eq_false (by omega), decide_eq_false (by omega)]
        rfl
      have hl : f_impl_InsOk.l0 N false ⟨#[]⟩ false ((⟨#[]⟩ : ByteArray).size : Int) 0 x0 x1 x2 x3 x4 x0 0 0 0 0 = some (false, false, x0, x1, x2, x3, x4, x0, 0, 0, 0, 0) := by rw [hk]; rfl
      unfold f_impl_InsOk
      simp only [hf, Option.bind_some, hl, cond_false]

theorem same_addr (a0 : Int) : f_impl_address a0 = f_spec_l9Address a0 := by
  unfold f_impl_address f_spec_l9Address
  have h1 : -24 < Int.tmod a0 24 := by
    have := Int.tmod_lt_of_pos (-a0) (b := 24) (by omega)
    rw [Int.neg_tmod] at this
    omega
  have h2 : Int.tmod a0 24 < 24 := Int.tmod_lt_of_pos a0 (by omega)
  generalize Int.tmod a0 24 = m at *
  rw [w64 (by omega) (by omega), Int.tmod_eq_emod_of_nonneg (by omega)]
  by_cases hm : m < 0
  · rw [decide_eq_true hm, cond_true]
    congr 1
    omega
  · rw [decide_eq_false hm, cond_false]
    congr 1
    omega
theorem addr_some (a0 : Int) : ∃ r, f_spec_l9Address a0 = some r := by
  unfold f_spec_l9Address
  cases decide (Int.tmod a0 24 < 0) <;> exact ⟨_, rfl⟩
theorem has_some (x0 : Int) : ∃ m c, f_spec_l8Has x0 = some m ∧ f_spec_l1In x0 1 10 = some c := by
  unfold f_spec_l8Has
  by_cases h1 : (1 : Int) ≤ x0 ∧ x0 ≤ 10
  · have : f_spec_l1In x0 1 10 = some true := by unfold f_spec_l1In; rw [decide_eq_true h1.1, decide_eq_true h1.2]; rfl
    simp only [this, Option.bind_some, Bool.not_true, cond_false]
    rw [decide_eq_true (show (0 : Int) ≤ x0 by omega), decide_eq_true (show x0 < (([0, 9, 7, 11, 11, 14, 15, 10, 8, 0, 7] : List Int).length : Int) by show x0 < 11; omega)]
    exact ⟨_, _, rfl, rfl⟩
  · have : f_spec_l1In x0 1 10 = some false := by
      unfold f_spec_l1In
      by_cases h2 : (1 : Int) ≤ x0
      · rw [decide_eq_true h2, decide_eq_false (fun h => h1 ⟨h2, h⟩)]; rfl
      · rw [decide_eq_false h2]; rfl
    simp only [this, Option.bind_some, Bool.not_false, cond_true]
    exact ⟨_, _, rfl, rfl⟩
/-- An instruction that is right has its places in range. -/
theorem ins_all (x0 x1 x2 x3 x4 : Int) (h : f_spec_InsOk x0 x1 x2 x3 x4 = some true) : (0 ≤ x1 ∧ x1 ≤ 3) ∧ (0 ≤ x2 ∧ x2 ≤ 3) ∧ (0 ≤ x3 ∧ x3 ≤ 3) ∧ (0 ≤ x4 ∧ x4 ≤ 63) := by
  have key : rng x1 3 = true ∧ rng x2 3 = true ∧ rng x3 3 = true ∧ rng x4 63 = true := by
    unfold f_spec_InsOk at h
    obtain ⟨m, c, hm, hc⟩ := has_some x0
    simp only [hm, hc, Option.bind_some, field_eq] at h
    cases c with
    | false => simp at h
    | true =>
      simp only [cond_true] at h
      cases a1 : rng x1 3 <;> cases a2 : rng x2 3 <;> cases a3 : rng x3 3 <;> cases a4 : rng x4 63 <;> simp [a1, a2, a3, a4] at h ⊢
  unfold rng at key
  simpa using key
theorem addr_rng (n r : Int) (h : f_spec_l9Address n = some r) : 0 ≤ r ∧ r < 24 := by
  unfold f_spec_l9Address at h
  have h1 : -24 < Int.tmod n 24 := by
    have := Int.tmod_lt_of_pos (-n) (b := 24) (by omega)
    rw [Int.neg_tmod] at this
    omega
  have h2 : Int.tmod n 24 < 24 := Int.tmod_lt_of_pos n (by omega)
  generalize Int.tmod n 24 = m at *
  by_cases hm : m < 0
  · rw [decide_eq_true hm, cond_true, w64 (by omega) (by omega)] at h
    cases h; omega
  · rw [decide_eq_false hm, cond_false] at h
    cases h; omega
theorem same_target (x0 x1 x2 x3 x4 : Int) (x5 : List Int) : ∃ r, f_spec_Target x0 x1 x2 x3 x4 x5 = some r ∧ f_impl_Target x0 x1 x2 x3 x4 x5 = some r ∧ r < 24 ∧ (f_spec_InsOk x0 x1 x2 x3 x4 = some true → x5.length = 4 → x0 = 5 ∨ x0 = 6 → 0 ≤ r) ∧ -1 ≤ r ∧ (¬ (x0 = 4 ∨ x0 = 5 ∨ x0 = 6) → r = -1) := by
  obtain ⟨b, h1, h2⟩ := same_ins x0 x1 x2 x3 x4
  unfold f_spec_Target f_impl_Target f_impl_aims
  simp only [h1, h2, Option.bind_some, same_addr]
  cases b with
  | false => exact ⟨_, rfl, rfl, by omega, (fun h => by cases h), Int.le_refl _, fun _ => rfl⟩
  | true =>
    obtain ⟨-, hr, -, -⟩ := ins_all x0 x1 x2 x3 x4 h1
    by_cases h4 : (x5.length : Int) = 4
    · rw [decide_eq_true h4, decide_eq_true hr.1, decide_eq_true (show x2 < (x5.length : Int) by omega)]
      obtain ⟨r, hr2⟩ := addr_some (IntKind.wrap .i64 (x5.getD x2.toNat 0 + x4))
      have hr3 := addr_rng _ _ hr2
      simp only [hr2, Bool.not_true, cond_false, Bool.and_self, cond_true, Option.bind_some]
      by_cases e4 : x0 = 4
      · rw [decide_eq_true e4]; exact ⟨_, rfl, rfl, hr3.2, (fun _ _ _ => hr3.1), by omega, fun h => absurd (.inl e4) h⟩
      · rw [decide_eq_false e4]
        by_cases e5 : x0 = 5
        · rw [decide_eq_true e5]; exact ⟨_, rfl, rfl, hr3.2, (fun _ _ _ => hr3.1), by omega, fun h => absurd (.inr (.inl e5)) h⟩
        · rw [decide_eq_false e5]
          by_cases e6 : x0 = 6
          · rw [decide_eq_true e6]; exact ⟨_, rfl, rfl, hr3.2, (fun _ _ _ => hr3.1), by omega, fun h => absurd (.inr (.inr e6)) h⟩
          · rw [decide_eq_false e6]; exact ⟨_, rfl, rfl, by omega, (fun _ _ h => (h.elim e5 e6).elim), Int.le_refl _, fun _ => rfl⟩
    · rw [decide_eq_false h4]
      cases decide (x0 = 4) <;> cases decide (x0 = 5) <;> cases decide (x0 = 6) <;> exact ⟨_, rfl, rfl, by omega, (fun _ h => absurd h (by omega)), Int.le_refl _, fun _ => rfl⟩
theorem and8 (n : Int) : bitI .and .i64 n 255 = n % 256 := by
  have h : (BitVec.ofInt 64 n &&& BitVec.ofInt 64 255).toNat = (n % 18446744073709551616).toNat % 256 := by
    rw [BitVec.toNat_and, BitVec.toNat_ofInt]
    show (n % 18446744073709551616).toNat &&& (2 ^ 8 - 1) = _
    rw [Nat.and_two_pow_sub_one_eq_mod]
  show IntKind.wrap .i64 ((BitVec.ofInt 64 n &&& BitVec.ofInt 64 255).toNat : Int) = _
  rw [h, w64 (by omega) (by omega)]
  omega
theorem draw_byte (x : List Int) (hn : x.length ≤ 1048576) (p s : Int) (hp : 0 ≤ p) : ∃ b p' s', f_spec_l1Byte x p s = some (b, p', s') ∧ 0 ≤ b ∧ b ≤ 255 ∧ 0 ≤ p' := by
  unfold f_spec_l1Byte
  simp only [and8]
  by_cases h : p < (x.length : Int)
  · rw [decide_eq_true h, decide_eq_true hp, w64 (show -9223372036854775808 ≤ p + 1 by omega) (by omega)]
    exact ⟨_, _, _, rfl, by omega, by omega, by omega⟩
  · rw [decide_eq_false h]
    exact ⟨_, _, _, rfl, by omega, by omega, hp⟩
theorem draw_below (x : List Int) (hn : x.length ≤ 1048576) (p s n : Int) (hp : 0 ≤ p) : ∃ r p' s', f_spec_l1Below x p s n = some (r, p', s') ∧ 0 ≤ p' ∧ 0 ≤ r ∧ (0 < n → r < n) ∧ (n ≤ 0 → r = 0) := by
  unfold f_spec_l1Below
  by_cases h0 : n ≤ 0
  · rw [decide_eq_true h0]
    exact ⟨_, _, _, rfl, hp, Int.le_refl _, fun h => by omega, fun _ => rfl⟩
  · rw [decide_eq_false h0, cond_false, decide_eq_false (show ¬ n = 0 by omega)]
    have hm : ∀ b, 0 ≤ b → 0 ≤ Int.tmod b n ∧ Int.tmod b n < n := fun b hb => by
      rw [Int.tmod_eq_emod_of_nonneg hb]
      exact ⟨Int.emod_nonneg _ (by omega), Int.emod_lt_of_pos _ (by omega)⟩
    by_cases h1 : n ≤ 256
    · obtain ⟨b, p', s', e, b0, b1, q⟩ := draw_byte x hn p s hp
      rw [decide_eq_true h1, e]
      exact ⟨_, _, _, rfl, q, (hm b b0).1, fun _ => (hm b b0).2, fun h => absurd h h0⟩
    · obtain ⟨b, p1, s1, e1, b0, b1, q1⟩ := draw_byte x hn p s hp
      obtain ⟨c, p2, s2, e2, c0, c1, q2⟩ := draw_byte x hn p1 s1 q1
      obtain ⟨d, p3, s3, e3, d0, d1, q3⟩ := draw_byte x hn p2 s2 q2
      obtain ⟨e, p4, s4, e4, f0, f1, q4⟩ := draw_byte x hn p3 s3 q3
      rw [decide_eq_false h1, cond_false, e1, Option.bind_some]
      simp only [e2, e3, e4, Option.bind_some, cond_false]
      rw [w64 (show -9223372036854775808 ≤ b * 16777216 by omega) (by omega), w64 (show -9223372036854775808 ≤ c * 65536 by omega) (by omega), w64 (show -9223372036854775808 ≤ d * 256 by omega) (by omega), w64 (show -9223372036854775808 ≤ b * 16777216 + c * 65536 by omega) (by omega), w64 (show -9223372036854775808 ≤ b * 16777216 + c * 65536 + d * 256 by omega) (by omega), w64 (show -9223372036854775808 ≤ b * 16777216 + c * 65536 + d * 256 + e by omega) (by omega)]
      have := hm (b * 16777216 + c * 65536 + d * 256 + e) (by omega)
      exact ⟨_, _, _, rfl, q4, this.1, fun _ => this.2, fun h => absurd h h0⟩
/-- The head of a draw: the bytes that it was handed, and a number out of them. -/
theorem draw_new {τ : Type} {F : Nat → List Int → Int → Int → Option τ} {G : List Int → Int → τ}
    (hs : ∀ n x s i, F (n + 1) x s i = bif (decide (i < (x.length : Int))) then bif (decide (i < (4000 : Int))) then bif ((decide ((0 : Int) ≤ i)) && (decide (i < (x.length : Int)))) then
      F n x (bitI .and .i64 (IntKind.wrap .i64 ((IntKind.wrap .i64 ((IntKind.wrap .i64 (s * (131 : Int))) + (IntKind.wrap .i64 ((x.getD i.toNat 0))))) + (7 : Int))) (1073741823 : Int)) (IntKind.wrap .i64 (i + (1 : Int))) else none else some (G x s) else some (G x s))
    (x : List Int) (hn : x.length ≤ 1048576) : ∀ s, ∃ s', F N x s 0 = some (G x s') := by
  have key : ∀ (k n : Nat) (s i : Int), 0 ≤ i → (x.length : Int) - i ≤ k → k < n → ∃ s', F n x s i = some (G x s') := by
    intro k
    induction k with
    | zero =>
      intro n s i h0 h1 hk
      obtain ⟨n, rfl⟩ := succ_fuel hk
      rw [hs, decide_eq_false (by omega)]
      exact ⟨_, rfl⟩
    | succ k ih =>
      intro n s i h0 h1 hk
      obtain ⟨n, rfl⟩ := succ_fuel hk
      rw [hs]
      by_cases h : i < (x.length : Int)
      · rw [decide_eq_true h, decide_eq_true h0, w64 (show -9223372036854775808 ≤ i + 1 by omega) (by omega)]
        cases decide (i < 4000)
        · exact ⟨_, rfl⟩
        · exact ih n _ (i + 1) (by omega) (by omega) (by omega)
      · rw [decide_eq_false h]; exact ⟨_, rfl⟩
  intro s
  exact key x.length N s 0 (Int.le_refl _) (by omega) (Nat.lt_of_le_of_lt hn (Nat.lt_trans (by omega) big))
theorem draw_pick (x : List Int) (hn : x.length ≤ 1048576) (p s : Int) (hp : 0 ≤ p) (l : List Int) (hl : 0 < (l.length : Int)) : ∃ e p' s', f_spec_l1PickInt x p s l = some (e, p', s') ∧ e ∈ l ∧ 0 ≤ p' := by
  unfold f_spec_l1PickInt
  obtain ⟨r, p', s', e, q, r0, r1, -⟩ := draw_below x hn p s (l.length : Int) hp
  rw [e, Option.bind_some]
  have r2 := r1 hl
  have hlt : r.toNat < l.length := by omega
  simp only [decide_eq_true r0, decide_eq_true r2, Bool.and_self, cond_true]
  refine ⟨_, _, _, rfl, ?_, q⟩
  rw [List.getD_eq_getElem?_getD, List.getElem?_eq_getElem hlt]
  exact List.getElem_mem hlt
theorem drawIns (x : List Int) (hn : x.length ≤ 1048576) (p s : Int) (hp : 0 ≤ p) : ∃ a b c d e p' s', f_spec_l8DrawIns x p s = some (a, b, c, d, e, p', s') ∧ 0 ≤ p' := by
  unfold f_spec_l8DrawIns
  obtain ⟨a, p1, s1, e1, -, q1⟩ := draw_pick x hn p s hp ([1, 1, 2, 3, 3, 4, 4, 5, 5, 5, 6, 6, 7, 8, 9, 10] : List Int) (by simp)
  obtain ⟨m, c, hm, -⟩ := has_some a
  rw [e1, Option.bind_some]
  simp only [hm, Option.bind_some]
  have B := fun p s hp => draw_below x hn p s 4 hp
  have K := fun p s hp => draw_pick x hn p s hp ([0, 1, 2, 4, 8, 9, 12, 20, 23] : List Int) (by simp)
  cases !(decide (bitI .and .i64 m (1 : Int) = (0 : Int))) <;> cases !(decide (bitI .and .i64 m (2 : Int) = (0 : Int))) <;> cases !(decide (bitI .and .i64 m (4 : Int) = (0 : Int))) <;> cases !(decide (bitI .and .i64 m (8 : Int) = (0 : Int))) <;>
    simp only [cond_true, cond_false]
  · exact ⟨_, _, _, _, _, _, _, rfl, q1⟩
  · obtain ⟨v, p2, s2, e2, -, q2⟩ := K p1 s1 q1
    simp only [e2, Option.bind_some]; exact ⟨_, _, _, _, _, _, _, rfl, q2⟩
  · obtain ⟨v, p2, s2, e2, q2, -⟩ := B p1 s1 q1
    simp only [e2, Option.bind_some]; exact ⟨_, _, _, _, _, _, _, rfl, q2⟩
  · obtain ⟨v, p2, s2, e2, q2, -⟩ := B p1 s1 q1
    obtain ⟨w, p3, s3, e3, -, q3⟩ := K p2 s2 q2
    simp only [e2, e3, Option.bind_some]; exact ⟨_, _, _, _, _, _, _, rfl, q3⟩
  · obtain ⟨v, p2, s2, e2, q2, -⟩ := B p1 s1 q1
    simp only [e2, Option.bind_some]; exact ⟨_, _, _, _, _, _, _, rfl, q2⟩
  · obtain ⟨v, p2, s2, e2, q2, -⟩ := B p1 s1 q1
    obtain ⟨w, p3, s3, e3, -, q3⟩ := K p2 s2 q2
    simp only [e2, e3, Option.bind_some]; exact ⟨_, _, _, _, _, _, _, rfl, q3⟩
  · obtain ⟨v, p2, s2, e2, q2, -⟩ := B p1 s1 q1
    obtain ⟨w, p3, s3, e3, q3, -⟩ := B p2 s2 q2
    simp only [e2, e3, Option.bind_some]; exact ⟨_, _, _, _, _, _, _, rfl, q3⟩
  · obtain ⟨v, p2, s2, e2, q2, -⟩ := B p1 s1 q1
    obtain ⟨w, p3, s3, e3, q3, -⟩ := B p2 s2 q2
    obtain ⟨u, p4, s4, e4, -, q4⟩ := K p3 s3 q3
    simp only [e2, e3, e4, Option.bind_some]; exact ⟨_, _, _, _, _, _, _, rfl, q4⟩
  · obtain ⟨v, p2, s2, e2, q2, -⟩ := B p1 s1 q1
    simp only [e2, Option.bind_some]; exact ⟨_, _, _, _, _, _, _, rfl, q2⟩
  · obtain ⟨v, p2, s2, e2, q2, -⟩ := B p1 s1 q1
    obtain ⟨w, p3, s3, e3, -, q3⟩ := K p2 s2 q2
    simp only [e2, e3, Option.bind_some]; exact ⟨_, _, _, _, _, _, _, rfl, q3⟩
  · obtain ⟨v, p2, s2, e2, q2, -⟩ := B p1 s1 q1
    obtain ⟨w, p3, s3, e3, q3, -⟩ := B p2 s2 q2
    simp only [e2, e3, Option.bind_some]; exact ⟨_, _, _, _, _, _, _, rfl, q3⟩
  · obtain ⟨v, p2, s2, e2, q2, -⟩ := B p1 s1 q1
    obtain ⟨w, p3, s3, e3, q3, -⟩ := B p2 s2 q2
    obtain ⟨u, p4, s4, e4, -, q4⟩ := K p3 s3 q3
    simp only [e2, e3, e4, Option.bind_some]; exact ⟨_, _, _, _, _, _, _, rfl, q4⟩
  · obtain ⟨v, p2, s2, e2, q2, -⟩ := B p1 s1 q1
    obtain ⟨w, p3, s3, e3, q3, -⟩ := B p2 s2 q2
    simp only [e2, e3, Option.bind_some]; exact ⟨_, _, _, _, _, _, _, rfl, q3⟩
  · obtain ⟨v, p2, s2, e2, q2, -⟩ := B p1 s1 q1
    obtain ⟨w, p3, s3, e3, q3, -⟩ := B p2 s2 q2
    obtain ⟨u, p4, s4, e4, -, q4⟩ := K p3 s3 q3
    simp only [e2, e3, e4, Option.bind_some]; exact ⟨_, _, _, _, _, _, _, rfl, q4⟩
  · obtain ⟨v, p2, s2, e2, q2, -⟩ := B p1 s1 q1
    obtain ⟨w, p3, s3, e3, q3, -⟩ := B p2 s2 q2
    obtain ⟨u, p4, s4, e4, q4, -⟩ := B p3 s3 q3
    simp only [e2, e3, e4, Option.bind_some]; exact ⟨_, _, _, _, _, _, _, rfl, q4⟩
  · obtain ⟨v, p2, s2, e2, q2, -⟩ := B p1 s1 q1
    obtain ⟨w, p3, s3, e3, q3, -⟩ := B p2 s2 q2
    obtain ⟨u, p4, s4, e4, q4, -⟩ := B p3 s3 q3
    obtain ⟨t, p5, s5, e5, -, q5⟩ := K p4 s4 q4
    simp only [e2, e3, e4, e5, Option.bind_some]; exact ⟨_, _, _, _, _, _, _, rfl, q5⟩
theorem drawOne (x : List Int) (hn : x.length ≤ 1048576) : ∃ a b c d e, f_spec_l8DrawOne x = some (a, b, c, d, e) := by
  unfold f_spec_l8DrawOne
  obtain ⟨s', e⟩ := draw_new (F := fun n x s i => f_spec_l8DrawOne.l0 n x s i 0 0 0 0 0) (G := fun x s => (x, s, 0, 0, 0, 0, 0)) (fun _ _ _ _ => rfl) x hn (IntKind.wrap .i64 ((20404 : Int) + (x.length : Int)))
  obtain ⟨i1, i2, i3, i4, i5, p1, s1, e1, q1⟩ := drawIns x hn 0 s' (Int.le_refl _)
  obtain ⟨r, p2, s2, e2, q2, -⟩ := draw_below x hn p1 s1 8 q1
  obtain ⟨r3, p3, s3, e3, -⟩ := draw_below x hn p2 s2 13 q2
  obtain ⟨r4, p4, s4, e4, -⟩ := draw_pick x hn p2 s2 q2 ([-1, 3, 4] : List Int) (by simp)
  obtain ⟨r5, p5, s5, e5, -⟩ := draw_pick x hn p2 s2 q2 ([-1, 63, 64] : List Int) (by simp)
  rw [e, Option.bind_some]
  simp only [e1, e2, e3, e4, e5, Option.bind_some]
  cases decide (r = 0) <;> cases decide (r = 1) <;> cases decide (r = 2) <;> exact ⟨_, _, _, _, _, rfl⟩
theorem drawHart_loop (x : List Int) (hn : x.length ≤ 1048576) (a b c d : Int) (e : List Int) : ∀ (k n : Nat) (i p s : Int) (y : List Int), 0 ≤ i → 4 - i = k → k < n → 0 ≤ p → y.length = 4 →
    ∃ p' s' y', f_spec_l9DrawHart.l0 n i x p s a b c d e y = some (x, p', s', a, b, c, d, e, y') ∧ 0 ≤ p' ∧ y'.length = 4 := by
  intro k
  induction k with
  | zero =>
    intro n i p s y h0 hk hn' hp hy
    obtain ⟨n, rfl⟩ := succ_fuel hn'
    simp only [f_spec_l9DrawHart.l0, decide_eq_false (show ¬ i < 4 by omega), cond_false]
    exact ⟨_, _, _, rfl, hp, hy⟩
  | succ k ih =>
    intro n i p s y h0 hk hn' hp hy
    obtain ⟨n, rfl⟩ := succ_fuel hn'
    obtain ⟨v, p1, s1, e1, -, q1⟩ := draw_pick x hn p s hp ([0, 1, 2, 20, 65535] : List Int) (by simp)
    simp only [f_spec_l9DrawHart.l0, decide_eq_true (show i < 4 by omega), cond_true, e1, Option.bind_some, decide_eq_true h0, decide_eq_true (show i < (y.length : Int) by omega), Bool.and_self, w64 (show -9223372036854775808 ≤ i + 1 by omega) (by omega)]
    exact ih n (i + 1) p1 s1 _ (by omega) (by omega) (by omega) q1 (by rw [List.length_set]; exact hy)
theorem hartNew_some (n : Int) : ∃ a, f_spec_HartNew n = some (List.replicate 4 0, a, 0) := by
  unfold f_spec_HartNew
  obtain ⟨a, h⟩ := addr_some n
  rw [h]; exact ⟨_, rfl⟩
theorem drawHart (x : List Int) (hn : x.length ≤ 1048576) (p s : Int) (hp : 0 ≤ p) : ∃ y a b p' s', f_spec_l9DrawHart x p s = some (y, a, b, p', s') ∧ 0 ≤ p' ∧ y.length ≤ 4 := by
  unfold f_spec_l9DrawHart
  obtain ⟨r, p1, s1, e1, q1, -⟩ := draw_below x hn p s 20 hp
  obtain ⟨a, ea⟩ := hartNew_some r
  obtain ⟨p2, s2, y, e2, q2, hy⟩ := drawHart_loop x hn 0 0 a 0 [] 4 N 0 p1 s1 (List.replicate 4 0) (Int.le_refl _) rfl (Nat.lt_of_lt_of_le (by omega) (Nat.le_of_lt big)) q1 (by simp)
  obtain ⟨t, p3, s3, e3, q3, -⟩ := draw_below x hn p2 s2 12 q2
  obtain ⟨t4, p4, s4, e4, q4, -⟩ := draw_below x hn p3 s3 5 q3
  obtain ⟨t5, p5, s5, e5, -, q5⟩ := draw_pick x hn p3 s3 q3 ([-1, 65536] : List Int) (by simp)
  obtain ⟨t6, p6, s6, e6, -, q6⟩ := draw_pick x hn p3 s3 q3 ([-1, 24] : List Int) (by simp)
  rw [e1, Option.bind_some]
  simp only [ea, Option.bind_some, e2, e3, e4, e5, e6, decide_eq_true (show 0 < (y.length : Int) by omega), decide_eq_true (show 1 ≤ (y.length : Int) by omega), cond_true]
  cases decide (t = 0)
  · cases decide (t = 1)
    · cases decide (t = 2)
      · cases decide (t = 3)
        · exact ⟨_, _, _, _, _, rfl, q3, by omega⟩
        · exact ⟨_, _, _, _, _, rfl, q3, by rw [List.length_take, List.length_drop]; omega⟩
      · exact ⟨_, _, _, _, _, rfl, q6, by omega⟩
    · exact ⟨_, _, _, _, _, rfl, q5, by rw [List.length_set]; omega⟩
  · exact ⟨_, _, _, _, _, rfl, q4, by omega⟩
theorem drawTarget (x : List Int) (hn : x.length ≤ 1048576) : ∃ a b c d e y, f_spec_DrawTarget x = some (a, b, c, d, e, y) := by
  unfold f_spec_DrawTarget
  obtain ⟨a, b, c, d, e, h1⟩ := drawOne x hn
  obtain ⟨s', h2⟩ := draw_new (F := fun n x s i => f_spec_DrawTarget.l0 n x s i 0 0 0 0 0 a b c d e) (G := fun x s => (x, s, 0, 0, 0, 0, 0, a, b, c, d, e)) (fun _ _ _ _ => rfl) x hn (IntKind.wrap .i64 ((20404 : Int) + (x.length : Int)))
  obtain ⟨y, u, v, p, s, h3, -, -⟩ := drawHart x hn 0 s' (Int.le_refl _)
  rw [h1, Option.bind_some, h2, Option.bind_some]
  simp only [h3, Option.bind_some]
  exact ⟨_, _, _, _, _, _, rfl⟩
theorem targets (x0 : List Int) : f_laws_FnTargets x0 = some true := by
  unfold f_laws_FnTargets f_laws_big
  by_cases hb : (1048576 : Int) < (x0.length : Int)
  · rw [decide_eq_true hb]; rfl
  rw [decide_eq_false hb]
  have hn : x0.length ≤ 1048576 := by omega
  obtain ⟨a, b, c, d, e, y, h1⟩ := drawTarget x0 hn
  obtain ⟨r, h2, h3, h4, h5, h6, h7⟩ := same_target a b c d e y
  simp only [Option.bind_some, cond_false, h1, h2, h3, decide_true, Bool.not_true, decide_eq_false (show ¬ r < -1 by omega), decide_eq_false (show ¬ 24 ≤ r by omega)]
  by_cases e4 : a = 4
  · rw [decide_eq_true e4]; rfl
  · rw [decide_eq_false e4]
    by_cases e5 : a = 5
    · rw [decide_eq_true e5]; rfl
    · rw [decide_eq_false e5]
      by_cases e6 : a = 6
      · rw [decide_eq_true e6]; rfl
      · rw [decide_eq_false e6, h7 (fun h => h.elim e4 (fun h => h.elim e5 e6))]; rfl
theorem plain : Pure := fun x _ => targets x
end Go.Abs
