/- The law FnCodes returns true for all bytes that a draw is made of: a drawn place is read from its word as it was, and a word that is read is that of the place. More than 2^20 bytes are not asked for. -/
import Derived.Test.YtgifligfbjnmfaaMFnCodes
import Derived.Laws.BitsLemmas
namespace Go.Abs
open Go.RowKit

theorem w64 {n : Int} (h0 : -9223372036854775808 ≤ n) (h1 : n ≤ 9223372036854775807) : IntKind.wrap .i64 n = n := by
  rw [IntKind.wrap_i64]
  omega
theorem succ_fuel {n d : Nat} (h : d < n) : ∃ m, n = m + 1 := ⟨n - 1, by omega⟩
theorem big : (1048577 : Nat) < N := by decide
theorem mem_getD {α : Type} (x : List α) (d : α) (i : Int) (h0 : 0 ≤ i) (h1 : i < x.length) : x.getD i.toNat d ∈ x := by
  have hlt : i.toNat < x.length := by omega
  rw [List.getD_eq_getElem?_getD, List.getElem?_eq_getElem hlt]
  exact List.getElem_mem hlt
theorem drop_getD {α : Type} (x : List α) (d : α) (i : Int) (h0 : 0 ≤ i) (h1 : i < x.length) : x.drop i.toNat = x.getD i.toNat d :: x.drop (i + 1).toNat := by
  have hlt : i.toNat < x.length := by omega
  have e : (i + 1).toNat = i.toNat + 1 := by omega
  rw [e, List.drop_eq_getElem_cons hlt, List.getD_eq_getElem?_getD, List.getElem?_eq_getElem hlt]
  rfl
theorem to_gen {α : Type} {d : α} {F : Nat → List α → Int → List α → Option (List α)} {g : α → Option α}
    (hs : ∀ n x i y, F (n + 1) x i y = bif decide (i < (x.length : Int)) then (bif (decide ((0 : Int) ≤ i) && decide (i < (x.length : Int))) then (g (x.getD i.toNat d)).bind fun e => (bif (decide ((0 : Int) ≤ i) && decide (i < (y.length : Int))) then F n x (IntKind.wrap .i64 (i + 1)) (y.set i.toNat e) else none) else none) else some y)
    (x : List α) (hn : x.length ≤ 1048576) (hg : ∀ e ∈ x, g e = some e) (k : Nat) : ∀ (n : Nat) (y : List α) (i : Int), 0 ≤ i → i ≤ x.length → (x.length : Int) - i = k → k < n → y.length = x.length → y.take i.toNat = x.take i.toNat → F n x i y = some x := by
  induction k with
  | zero =>
    intro n y i h0 h1 hd hk hl ht
    obtain ⟨n, rfl⟩ := succ_fuel hk
    rw [hs, decide_eq_false (by omega), cond_false]
    rw [List.take_of_length_le (by omega), List.take_of_length_le (by omega)] at ht
    rw [ht]
  | succ k ih =>
    intro n y i h0 h1 hd hk hl ht
    obtain ⟨n, rfl⟩ := succ_fuel hk
    have hw : IntKind.wrap .i64 (i + 1) = i + 1 := w64 (by omega) (by omega)
    have hlt : i.toNat < x.length := by omega
    rw [hs, decide_eq_true (show i < (x.length : Int) by omega), decide_eq_true h0, decide_eq_true (show i < (y.length : Int) by omega), hw, hg _ (mem_getD x d i h0 (by omega))]
    simp only [cond_true, Bool.and_self, Option.bind_some]
    refine ih n _ (i + 1) (by omega) (by omega) (by omega) (by omega) (by rw [List.length_set]; exact hl) ?_
    have e : (i + 1).toNat = i.toNat + 1 := by omega
    rw [e, List.take_add_one, List.take_add_one, List.take_set, List.getElem?_set_self (by omega), List.getElem?_eq_getElem hlt]
    have : x.getD i.toNat d = x[i.toNat] := by rw [List.getD_eq_getElem?_getD, List.getElem?_eq_getElem hlt]; rfl
    rw [this, List.set_eq_of_length_le (by rw [List.length_take]; omega), ht]
theorem eq_gen {α : Type} {d : α} {F : Nat → List α → List α → Bool → Int → Option (Bool ⊕ Bool)} {q : α → α → Option Bool}
    (hs : ∀ n x y b i, F (n + 1) x y b i = bif decide (i < (x.length : Int)) then (bif (decide ((0 : Int) ≤ i) && decide (i < (x.length : Int))) then (bif (decide ((0 : Int) ≤ i) && decide (i < (y.length : Int))) then (q (x.getD i.toNat d) (y.getD i.toNat d)).bind fun r => (bif (!r) then some (.inl false) else F n x y b (IntKind.wrap .i64 (i + 1))) else none) else none) else some (.inr b))
    (x : List α) (hn : x.length ≤ 1048576) (hq : ∀ e ∈ x, q e e = some true) (b : Bool) (k : Nat) : ∀ (n : Nat) (i : Int), 0 ≤ i → i ≤ x.length → (x.length : Int) - i = k → k < n → F n x x b i = some (.inr b) := by
  induction k with
  | zero =>
    intro n i h0 h1 hd hk
    obtain ⟨n, rfl⟩ := succ_fuel hk
    rw [hs, decide_eq_false (by omega), cond_false]
  | succ k ih =>
    intro n i h0 h1 hd hk
    obtain ⟨n, rfl⟩ := succ_fuel hk
    have hw : IntKind.wrap .i64 (i + 1) = i + 1 := w64 (by omega) (by omega)
    rw [hs, decide_eq_true (show i < (x.length : Int) by omega), decide_eq_true h0, hw, hq _ (mem_getD x d i h0 (by omega))]
    simp only [cond_true, Bool.and_self, Option.bind_some, Bool.not_true, cond_false]
    exact ih n (i + 1) (by omega) (by omega) (by omega) (by omega)
theorem sz_gen {α : Type} {d : α} {F : Nat → List α → Int → Int → Int → Option (Int ⊕ (Int × Int))} {s : α → Int → Option Int} {Ok : α → Prop}
    (hs : ∀ n x l q i, F (n + 1) x l q i = bif decide (i < (x.length : Int)) then (bif (decide ((0 : Int) ≤ i) && decide (i < (x.length : Int))) then (s (x.getD i.toNat d) l).bind fun r => (bif decide (r < 0) then some (.inl (-1)) else F n x r q (IntKind.wrap .i64 (i + 1))) else none) else some (.inr (l, q)))
    (x : List α) (hn : x.length ≤ 1048576) (he : ∀ e ∈ x, ∀ l, 0 ≤ l → l ≤ 1048576 → s e l = some (-1) ∨ ∃ l', s e l = some l' ∧ 0 ≤ l' ∧ l' ≤ l ∧ Ok e) (q : Int) (k : Nat) :
    ∀ (n : Nat) (l i : Int), 0 ≤ l → l ≤ 1048576 → 0 ≤ i → i ≤ x.length → (x.length : Int) - i = k → k < n → F n x l q i = some (.inl (-1)) ∨ ∃ l', F n x l q i = some (.inr (l', q)) ∧ 0 ≤ l' ∧ l' ≤ l ∧ ∀ e ∈ x.drop i.toNat, Ok e := by
  induction k with
  | zero =>
    intro n l i hl0 hl1 h0 h1 hd hk
    obtain ⟨n, rfl⟩ := succ_fuel hk
    rw [hs, decide_eq_false (show ¬ i < (x.length : Int) by omega), cond_false, List.drop_eq_nil_of_le (by omega)]
    exact .inr ⟨l, rfl, hl0, Int.le_refl _, fun e h => by cases h⟩
  | succ k ih =>
    intro n l i hl0 hl1 h0 h1 hd hk
    obtain ⟨n, rfl⟩ := succ_fuel hk
    have hw : IntKind.wrap .i64 (i + 1) = i + 1 := w64 (by omega) (by omega)
    rw [hs, decide_eq_true (show i < (x.length : Int) by omega), decide_eq_true h0, hw]
    simp only [cond_true, Bool.and_self]
    rcases he _ (mem_getD x d i h0 (by omega)) l hl0 hl1 with h | ⟨l', h, a0, a1, a2⟩
    · rw [h]; exact .inl rfl
    · rw [h, Option.bind_some, decide_eq_false (show ¬ l' < 0 by omega), cond_false]
      rcases ih n l' (i + 1) a0 (by omega) (by omega) (by omega) (by omega) (by omega) with h2 | ⟨l2, h2, b0, b1, b2⟩
      · exact .inl h2
      · refine .inr ⟨l2, h2, b0, by omega, fun e hm => ?_⟩
        rw [drop_getD x d i h0 (by omega)] at hm
        rcases List.mem_cons.1 hm with rfl | hm
        · exact a2
        · exact b2 e hm
theorem lt_N {x : Nat} (h : x ≤ 1048576) : x < N := Nat.lt_of_le_of_lt h (Nat.lt_trans (by omega) big)
def rng (x m : Int) : Bool := decide ((0 : Int) ≤ x) && decide (x ≤ m)
theorem in_rng (x m : Int) : f_spec_l1In x 0 m = some (rng x m) := by
  unfold f_spec_l1In rng
  cases decide ((0 : Int) ≤ x) <;> rfl
theorem from_rng (x m : Int) : f_impl_from x 0 m = some (rng x m) := by
  unfold f_impl_from rng
  cases decide ((0 : Int) ≤ x) <;> rfl
theorem field_eq (x m : Int) (h : Bool) : f_spec_l8Field x m h = some (rng x m && (h || decide (x = 0))) := by
  unfold f_spec_l8Field
  rw [in_rng]
  simp only [Option.bind_some]
  cases rng x m <;> cases h <;> rfl
theorem chain (a b c d : Bool) : (bif a then (bif b then (bif c then some d else some false) else some false) else some false) = some (a && (b && (c && d))) := by
  cases a <;> cases b <;> cases c <;> rfl
/-- What the reference says of an instruction with these letters. -/
theorem spec_ins (x0 x1 x2 x3 x4 m : Int) (h1 h2 h3 h4 : Bool) (hm : f_spec_l8Has x0 = some m) (hin : f_spec_l1In x0 1 10 = some true)
    (b1 : (!(decide (bitI .and .i64 m (1 : Int) = (0 : Int)))) = h1) (b2 : (!(decide (bitI .and .i64 m (2 : Int) = (0 : Int)))) = h2) (b3 : (!(decide (bitI .and .i64 m (4 : Int) = (0 : Int)))) = h3) (b4 : (!(decide (bitI .and .i64 m (8 : Int) = (0 : Int)))) = h4) :
    f_spec_InsOk x0 x1 x2 x3 x4 = some ((rng x1 3 && (h1 || decide (x1 = 0))) && ((rng x2 3 && (h2 || decide (x2 = 0))) && ((rng x3 3 && (h3 || decide (x3 = 0))) && (rng x4 63 && (h4 || decide (x4 = 0)))))) := by
  unfold f_spec_InsOk
  simp only [hm, hin, Option.bind_some, b1, b2, b3, b4, field_eq, cond_true]
  rw [← chain]
theorem impl_ins (x0 x1 x2 x3 x4 r a b n : Int) (s : ByteArray) (hf : f_impl_form x0 = some (s, true))
    (hl : f_impl_InsOk.l0 N false s true (s.size : Int) 0 x0 x1 x2 x3 x4 x0 0 0 0 0 = some (false, true, x0, x1, x2, x3, x4, x0, r, a, b, n)) :
    f_impl_InsOk x0 x1 x2 x3 x4 = some ((decide (r = x1) && (decide (a = x2) && (decide (b = x3) && decide (n = x4)))) && (rng x1 3 && (rng x2 3 && (rng x3 3 && rng x4 63)))) := by
  unfold f_impl_InsOk
  simp only [hf, Option.bind_some, hl, cond_true, decide_true, Bool.true_and, from_rng]
  rw [chain]
  cases (decide (r = x1) && (decide (a = x2) && (decide (b = x3) && decide (n = x4)))) <;> rfl
theorem sym (x : Int) : decide ((0 : Int) = x) = decide (x = 0) := by
  by_cases h : x = 0
  · subst h; rfl
  · rw [decide_eq_false h, decide_eq_false (fun e => h e.symm)]
theorem alg : ∀ a b c d e f g h : Bool, ((a && (true || e)) && ((b && (true || f)) && ((c && (true || g)) && (d && (true || h))))) = ((true && (true && (true && true))) && (a && (b && (c && d)))) := by decide

theorem same_ins (x0 x1 x2 x3 x4 : Int) : ∃ b, f_spec_InsOk x0 x1 x2 x3 x4 = some b ∧ f_impl_InsOk x0 x1 x2 x3 x4 = some b := by
  obtain ⟨k, hk⟩ : ∃ k : Nat, N = k + 6 := ⟨1152921504606846970, rfl⟩
  by_cases hin : (1 : Int) ≤ x0 ∧ x0 ≤ 10
  · have hi : f_spec_l1In x0 1 10 = some true := by unfold f_spec_l1In; rw [decide_eq_true hin.1, decide_eq_true hin.2]; rfl
    have : x0 = 1 ∨ x0 = 2 ∨ x0 = 3 ∨ x0 = 4 ∨ x0 = 5 ∨ x0 = 6 ∨ x0 = 7 ∨ x0 = 8 ∨ x0 = 9 ∨ x0 = 10 := by omega
    rcases this with rfl | rfl | rfl | rfl | rfl | rfl | rfl | rfl | rfl | rfl
    · refine ⟨_, spec_ins 1 x1 x2 x3 x4 9 true false false true rfl hi (by decide) (by decide) (by decide) (by decide), ?_⟩
      rw [impl_ins 1 x1 x2 x3 x4 x1 0 0 x4 ⟨#[82, 78]⟩ rfl (by rw [hk]; rfl)]
      simp only [decide_true, sym]
      cases rng x1 3 <;> cases rng x2 3 <;> cases rng x3 3 <;> cases rng x4 63 <;> cases decide (x2 = 0) <;> cases decide (x3 = 0) <;> simp
    · refine ⟨_, spec_ins 2 x1 x2 x3 x4 7 true true true false rfl hi (by decide) (by decide) (by decide) (by decide), ?_⟩
      rw [impl_ins 2 x1 x2 x3 x4 x1 x2 x3 0 ⟨#[82, 65, 66]⟩ rfl (by rw [hk]; rfl)]
      simp only [decide_true, sym]
      cases rng x1 3 <;> cases rng x2 3 <;> cases rng x3 3 <;> cases rng x4 63 <;> cases decide (x4 = 0) <;> simp
    · refine ⟨_, spec_ins 3 x1 x2 x3 x4 11 true true false true rfl hi (by decide) (by decide) (by decide) (by decide), ?_⟩
      rw [impl_ins 3 x1 x2 x3 x4 x1 x2 0 x4 ⟨#[82, 65, 78]⟩ rfl (by rw [hk]; rfl)]
      simp only [decide_true, sym]
      cases rng x1 3 <;> cases rng x2 3 <;> cases rng x3 3 <;> cases rng x4 63 <;> cases decide (x3 = 0) <;> simp
    · refine ⟨_, spec_ins 4 x1 x2 x3 x4 11 true true false true rfl hi (by decide) (by decide) (by decide) (by decide), ?_⟩
      rw [impl_ins 4 x1 x2 x3 x4 x1 x2 0 x4 ⟨#[82, 65, 78]⟩ rfl (by rw [hk]; rfl)]
      simp only [decide_true, sym]
      cases rng x1 3 <;> cases rng x2 3 <;> cases rng x3 3 <;> cases rng x4 63 <;> cases decide (x3 = 0) <;> simp
    · refine ⟨_, spec_ins 5 x1 x2 x3 x4 14 false true true true rfl hi (by decide) (by decide) (by decide) (by decide), ?_⟩
      rw [impl_ins 5 x1 x2 x3 x4 0 x2 x3 x4 ⟨#[65, 66, 78]⟩ rfl (by rw [hk]; rfl)]
      simp only [decide_true, sym]
      cases rng x1 3 <;> cases rng x2 3 <;> cases rng x3 3 <;> cases rng x4 63 <;> cases decide (x1 = 0) <;> simp
    · refine ⟨_, spec_ins 6 x1 x2 x3 x4 15 true true true true rfl hi (by decide) (by decide) (by decide) (by decide), ?_⟩
      rw [impl_ins 6 x1 x2 x3 x4 x1 x2 x3 x4 ⟨#[82, 65, 66, 78]⟩ rfl (by rw [hk]; rfl)]
      simp only [decide_true]
      cases rng x1 3 <;> cases rng x2 3 <;> cases rng x3 3 <;> cases rng x4 63 <;> simp
    · refine ⟨_, spec_ins 7 x1 x2 x3 x4 10 false true false true rfl hi (by decide) (by decide) (by decide) (by decide), ?_⟩
      rw [impl_ins 7 x1 x2 x3 x4 0 x2 0 x4 ⟨#[65, 78]⟩ rfl (by rw [hk]; rfl)]
      simp only [decide_true, sym]
      cases rng x1 3 <;> cases rng x2 3 <;> cases rng x3 3 <;> cases rng x4 63 <;> cases decide (x1 = 0) <;> cases decide (x3 = 0) <;> simp
    · refine ⟨_, spec_ins 8 x1 x2 x3 x4 8 false false false true rfl hi (by decide) (by decide) (by decide) (by decide), ?_⟩
      rw [impl_ins 8 x1 x2 x3 x4 0 0 0 x4 ⟨#[78]⟩ rfl (by rw [hk]; rfl)]
      simp only [decide_true, sym]
      cases rng x1 3 <;> cases rng x2 3 <;> cases rng x3 3 <;> cases rng x4 63 <;> cases decide (x1 = 0) <;> cases decide (x2 = 0) <;> cases decide (x3 = 0) <;> simp
    · refine ⟨_, spec_ins 9 x1 x2 x3 x4 0 false false false false rfl hi (by decide) (by decide) (by decide) (by decide), ?_⟩
      rw [impl_ins 9 x1 x2 x3 x4 0 0 0 0 ⟨#[]⟩ rfl (by rw [hk]; rfl)]
      simp only [sym]
      cases rng x1 3 <;> cases rng x2 3 <;> cases rng x3 3 <;> cases rng x4 63 <;> cases decide (x1 = 0) <;> cases decide (x2 = 0) <;> cases decide (x3 = 0) <;> cases decide (x4 = 0) <;> simp
    · refine ⟨_, spec_ins 10 x1 x2 x3 x4 7 true true true false rfl hi (by decide) (by decide) (by decide) (by decide), ?_⟩
      rw [impl_ins 10 x1 x2 x3 x4 x1 x2 x3 0 ⟨#[82, 65, 66]⟩ rfl (by rw [hk]; rfl)]
      simp only [decide_true, sym]
      cases rng x1 3 <;> cases rng x2 3 <;> cases rng x3 3 <;> cases rng x4 63 <;> cases decide (x4 = 0) <;> simp
  · refine ⟨false, ?_, ?_⟩
    · have hi : f_spec_l1In x0 1 10 = some false := by
        unfold f_spec_l1In
        by_cases h1 : (1 : Int) ≤ x0
        · rw [decide_eq_true h1, decide_eq_false (fun h => hin ⟨h1, h⟩)]; rfl
        · rw [decide_eq_false h1]; rfl
      unfold f_spec_InsOk f_spec_l8Has
      simp only [hi, Option.bind_some, Bool.not_false, cond_true, cond_false]
    · have hf : f_impl_form x0 = some (⟨#[]⟩, false) := by
        unfold f_impl_form
        rw [decide_eq_false (by omega), decide_eq_false (by omega), decide_eq_false (by omega), decide_eq_false (by omega), decide_eq_false (by omega), decide_eq_false (by omega), decide_eq_false (by omega), decide_eq_false (by omega), decide_eq_false (by omega), decide_eq_false (by omega)]
        rfl
      have hl : f_impl_InsOk.l0 N false ⟨#[]⟩ false ((⟨#[]⟩ : ByteArray).size : Int) 0 x0 x1 x2 x3 x4 x0 0 0 0 0 = some (false, false, x0, x1, x2, x3, x4, x0, 0, 0, 0, 0) := by rw [hk]; rfl
      unfold f_impl_InsOk
      simp only [hf, Option.bind_some, hl, cond_false]

theorem has_some (x0 : Int) : ∃ m c, f_spec_l8Has x0 = some m ∧ f_spec_l1In x0 1 10 = some c := by
  unfold f_spec_l8Has
  by_cases h1 : (1 : Int) ≤ x0 ∧ x0 ≤ 10
  · have : f_spec_l1In x0 1 10 = some true := by unfold f_spec_l1In; rw [decide_eq_true h1.1, decide_eq_true h1.2]; rfl
    simp only [this, Option.bind_some, Bool.not_true, cond_false]
    rw [decide_eq_true (show (0 : Int) ≤ x0 by omega), decide_eq_true (show x0 < (([0, 9, 7, 11, 11, 14, 15, 10, 8, 0, 7] : List Int).length : Int) by show x0 < 11; omega)]
    exact ⟨_, _, rfl, rfl⟩
  · have : f_spec_l1In x0 1 10 = some false := by
      unfold f_spec_l1In
      by_cases h2 : (1 : Int) ≤ x0
      · rw [decide_eq_true h2, decide_eq_false (fun h => h1 ⟨h2, h⟩)]; rfl
      · rw [decide_eq_false h2]; rfl
    simp only [this, Option.bind_some, Bool.not_false, cond_true]
    exact ⟨_, _, rfl, rfl⟩
/-- An instruction that is right has its places in range. -/
theorem ins_all (x0 x1 x2 x3 x4 : Int) (h : f_spec_InsOk x0 x1 x2 x3 x4 = some true) : (0 ≤ x1 ∧ x1 ≤ 3) ∧ (0 ≤ x2 ∧ x2 ≤ 3) ∧ (0 ≤ x3 ∧ x3 ≤ 3) ∧ (0 ≤ x4 ∧ x4 ≤ 63) := by
  have key : rng x1 3 = true ∧ rng x2 3 = true ∧ rng x3 3 = true ∧ rng x4 63 = true := by
    unfold f_spec_InsOk at h
    obtain ⟨m, c, hm, hc⟩ := has_some x0
    simp only [hm, hc, Option.bind_some, field_eq] at h
    cases c with
    | false => simp at h
    | true =>
      simp only [cond_true] at h
      cases a1 : rng x1 3 <;> cases a2 : rng x2 3 <;> cases a3 : rng x3 3 <;> cases a4 : rng x4 63 <;> simp [a1, a2, a3, a4] at h ⊢
  unfold rng at key
  simpa using key
def ends1 (b : Bool) (x : Int) : Bool := !b || (decide (x = 7) || (decide (x = 8) || decide (x = 9)))
theorem same_ends (x0 x1 x2 x3 x4 : Int) : ∃ b, f_spec_InsOk x0 x1 x2 x3 x4 = some b ∧ f_impl_InsOk x0 x1 x2 x3 x4 = some b ∧ f_spec_Ends x0 x1 x2 x3 x4 = some (ends1 b x0) ∧ f_impl_Ends x0 x1 x2 x3 x4 = some (ends1 b x0) := by
  obtain ⟨b, h1, h2⟩ := same_ins x0 x1 x2 x3 x4
  refine ⟨b, h1, h2, ?_, ?_⟩
  · unfold f_spec_Ends ends1
    simp only [h1, Option.bind_some]
    cases b <;> cases decide (x0 = 7) <;> cases decide (x0 = 8) <;> cases decide (x0 = 9) <;> rfl
  · unfold f_impl_Ends ends1
    simp only [h2, Option.bind_some]
    cases b <;> cases decide (x0 = 7) <;> cases decide (x0 = 8) <;> cases decide (x0 = 9) <;> rfl
theorem ins_op (x0 x1 x2 x3 x4 : Int) (h : f_spec_InsOk x0 x1 x2 x3 x4 = some true) : 1 ≤ x0 ∧ x0 ≤ 10 := by
  by_cases hin : 1 ≤ x0 ∧ x0 ≤ 10
  · exact hin
  · exfalso
    have hi : f_spec_l1In x0 1 10 = some false := by
      unfold f_spec_l1In
      by_cases h1 : (1 : Int) ≤ x0
      · rw [decide_eq_true h1, decide_eq_false (fun h => hin ⟨h1, h⟩)]; rfl
      · rw [decide_eq_false h1]; rfl
    unfold f_spec_InsOk f_spec_l8Has at h
    simp only [hi, Option.bind_some, Bool.not_false, cond_true, cond_false] at h
    cases h
theorem same_code (x0 x1 x2 x3 x4 : Int) (b : Bool) (h : f_spec_InsOk x0 x1 x2 x3 x4 = some b) (h' : f_impl_InsOk x0 x1 x2 x3 x4 = some b) : ∃ r, f_spec_Code x0 x1 x2 x3 x4 = some r ∧ f_impl_Code x0 x1 x2 x3 x4 = some r ∧ r.2 = b ∧ (b = true → r.1 = x0 + 16 * x1 + 64 * x2 + 256 * x3 + 1024 * x4) := by
  unfold f_spec_Code f_impl_Code
  simp only [h, h', Option.bind_some]
  cases b with
  | false => exact ⟨_, rfl, rfl, rfl, fun h => by cases h⟩
  | true =>
    obtain ⟨⟨a1, a2⟩, ⟨a3, a4⟩, ⟨a5, a6⟩, ⟨a7, a8⟩⟩ := ins_all x0 x1 x2 x3 x4 h
    obtain ⟨a9, a10⟩ := ins_op x0 x1 x2 x3 x4 h
    refine ⟨_, rfl, rfl, rfl, fun _ => ?_⟩
    rw [w64 (show -9223372036854775808 ≤ 16 * x1 by omega) (by omega), w64 (show -9223372036854775808 ≤ 64 * x2 by omega) (by omega), w64 (show -9223372036854775808 ≤ 256 * x3 by omega) (by omega), w64 (show -9223372036854775808 ≤ 1024 * x4 by omega) (by omega),
      w64 (show -9223372036854775808 ≤ x0 + 16 * x1 by omega) (by omega), w64 (show -9223372036854775808 ≤ x0 + 16 * x1 + 64 * x2 by omega) (by omega), w64 (show -9223372036854775808 ≤ x0 + 16 * x1 + 64 * x2 + 256 * x3 by omega) (by omega), w64 (show -9223372036854775808 ≤ x0 + 16 * x1 + 64 * x2 + 256 * x3 + 1024 * x4 by omega) (by omega)]
/-- What is read from a word. -/
theorem dec_word (n : Int) (h0 : 0 ≤ n) (h1 : n ≤ 65535) (b : Bool) (h : f_spec_InsOk (n % 16) (n / 16 % 4) (n / 64 % 4) (n / 256 % 4) (n / 1024) = some b) (h' : f_impl_InsOk (n % 16) (n / 16 % 4) (n / 64 % 4) (n / 256 % 4) (n / 1024) = some b) :
    f_spec_Decode n = some (bif b then (n % 16, n / 16 % 4, n / 64 % 4, n / 256 % 4, n / 1024, true) else (0, 0, 0, 0, 0, false)) ∧ f_impl_Decode n = some (bif b then (n % 16, n / 16 % 4, n / 64 % 4, n / 256 % 4, n / 1024, true) else (0, 0, 0, 0, 0, false)) := by
  have hr : rng n 65535 = true := by unfold rng; rw [decide_eq_true h0, decide_eq_true h1]; rfl
  have t16 : Int.tdiv n 16 = n / 16 := Int.tdiv_eq_ediv_of_nonneg h0
  have t64 : Int.tdiv n 64 = n / 64 := Int.tdiv_eq_ediv_of_nonneg h0
  have t256 : Int.tdiv n 256 = n / 256 := Int.tdiv_eq_ediv_of_nonneg h0
  have t1024 : Int.tdiv n 1024 = n / 1024 := Int.tdiv_eq_ediv_of_nonneg h0
  have m16 : Int.tmod n 16 = n % 16 := Int.tmod_eq_emod_of_nonneg h0
  have q16 : Int.tmod (n / 16) 4 = n / 16 % 4 := Int.tmod_eq_emod_of_nonneg (by omega)
  have q64 : Int.tmod (n / 64) 4 = n / 64 % 4 := Int.tmod_eq_emod_of_nonneg (by omega)
  have q256 : Int.tmod (n / 256) 4 = n / 256 % 4 := Int.tmod_eq_emod_of_nonneg (by omega)
  unfold f_spec_Decode f_impl_Decode f_impl_isWord
  simp only [in_rng, from_rng, Option.bind_some, hr, Bool.not_true, cond_false, t16, t64, t256, t1024, m16, w64 (show -9223372036854775808 ≤ n / 16 by omega) (by omega), w64 (show -9223372036854775808 ≤ n / 64 by omega) (by omega), w64 (show -9223372036854775808 ≤ n / 256 by omega) (by omega), w64 (show -9223372036854775808 ≤ n / 1024 by omega) (by omega), q16, q64, q256, h, h']
  cases b <;> exact ⟨rfl, rfl⟩
theorem dec_cases (n : Int) : ∃ r, f_spec_Decode n = some r ∧ f_impl_Decode n = some r ∧ (r = (0, 0, 0, 0, 0, false) ∨ ∃ a b c d e, r = (a, b, c, d, e, true) ∧ f_spec_InsOk a b c d e = some true ∧ f_impl_InsOk a b c d e = some true ∧ n = a + 16 * b + 64 * c + 256 * d + 1024 * e) := by
  by_cases hr : 0 ≤ n ∧ n ≤ 65535
  · obtain ⟨b, h1, h2⟩ := same_ins (n % 16) (n / 16 % 4) (n / 64 % 4) (n / 256 % 4) (n / 1024)
    obtain ⟨d1, d2⟩ := dec_word n hr.1 hr.2 b h1 h2
    refine ⟨_, d1, d2, ?_⟩
    cases b with
    | false => exact .inl rfl
    | true => exact .inr ⟨_, _, _, _, _, rfl, h1, h2, by omega⟩
  · have hr : rng n 65535 = false := by
      unfold rng
      by_cases h : 0 ≤ n
      · rw [decide_eq_true h, decide_eq_false (fun h2 => hr ⟨h, h2⟩)]; rfl
      · rw [decide_eq_false h]; rfl
    unfold f_spec_Decode f_impl_Decode f_impl_isWord
    simp only [in_rng, from_rng, Option.bind_some, hr]
    exact ⟨_, rfl, rfl, .inl rfl⟩
/-- What was coded is read as it was. -/
theorem dec_code (a b c d e : Int) (h : f_spec_InsOk a b c d e = some true) (h' : f_impl_InsOk a b c d e = some true) : f_impl_Decode (a + 16 * b + 64 * c + 256 * d + 1024 * e) = some (a, b, c, d, e, true) ∧ 0 ≤ a + 16 * b + 64 * c + 256 * d + 1024 * e ∧ a + 16 * b + 64 * c + 256 * d + 1024 * e ≤ 65535 := by
  obtain ⟨⟨a1, a2⟩, ⟨a3, a4⟩, ⟨a5, a6⟩, ⟨a7, a8⟩⟩ := ins_all a b c d e h
  obtain ⟨a9, a10⟩ := ins_op a b c d e h
  have e1 : (a + 16 * b + 64 * c + 256 * d + 1024 * e) % 16 = a := by omega
  have e2 : (a + 16 * b + 64 * c + 256 * d + 1024 * e) / 16 % 4 = b := by omega
  have e3 : (a + 16 * b + 64 * c + 256 * d + 1024 * e) / 64 % 4 = c := by omega
  have e4 : (a + 16 * b + 64 * c + 256 * d + 1024 * e) / 256 % 4 = d := by omega
  have e5 : (a + 16 * b + 64 * c + 256 * d + 1024 * e) / 1024 = e := by omega
  have := (dec_word (a + 16 * b + 64 * c + 256 * d + 1024 * e) (by omega) (by omega) true (by rw [e1, e2, e3, e4, e5]; exact h) (by rw [e1, e2, e3, e4, e5]; exact h')).2
  rw [e1, e2, e3, e4, e5] at this
  exact ⟨this, by omega, by omega⟩
theorem and8 (n : Int) : bitI .and .i64 n 255 = n % 256 := by
  have h : (BitVec.ofInt 64 n &&& BitVec.ofInt 64 255).toNat = (n % 18446744073709551616).toNat % 256 := by
    rw [BitVec.toNat_and, BitVec.toNat_ofInt]
    show (n % 18446744073709551616).toNat &&& (2 ^ 8 - 1) = _
    rw [Nat.and_two_pow_sub_one_eq_mod]
  show IntKind.wrap .i64 ((BitVec.ofInt 64 n &&& BitVec.ofInt 64 255).toNat : Int) = _
  rw [h, w64 (by omega) (by omega)]
  omega
theorem draw_byte (x : List Int) (hn : x.length ≤ 1048576) (p s : Int) (hp : 0 ≤ p) : ∃ b p' s', f_spec_l1Byte x p s = some (b, p', s') ∧ 0 ≤ b ∧ b ≤ 255 ∧ 0 ≤ p' := by
  unfold f_spec_l1Byte
  simp only [and8]
  by_cases h : p < (x.length : Int)
  · rw [decide_eq_true h, decide_eq_true hp, w64 (show -9223372036854775808 ≤ p + 1 by omega) (by omega)]
    exact ⟨_, _, _, rfl, by omega, by omega, by omega⟩
  · rw [decide_eq_false h]
    exact ⟨_, _, _, rfl, by omega, by omega, hp⟩
theorem draw_below (x : List Int) (hn : x.length ≤ 1048576) (p s n : Int) (hp : 0 ≤ p) : ∃ r p' s', f_spec_l1Below x p s n = some (r, p', s') ∧ 0 ≤ p' ∧ 0 ≤ r ∧ (0 < n → r < n) ∧ (n ≤ 0 → r = 0) := by
  unfold f_spec_l1Below
  by_cases h0 : n ≤ 0
  · rw [decide_eq_true h0]
    exact ⟨_, _, _, rfl, hp, Int.le_refl _, fun h => by omega, fun _ => rfl⟩
  · rw [decide_eq_false h0, cond_false, decide_eq_false (show ¬ n = 0 by omega)]
    have hm : ∀ b, 0 ≤ b → 0 ≤ Int.tmod b n ∧ Int.tmod b n < n := fun b hb => by
      rw [Int.tmod_eq_emod_of_nonneg hb]
      exact ⟨Int.emod_nonneg _ (by omega), Int.emod_lt_of_pos _ (by omega)⟩
    by_cases h1 : n ≤ 256
    · obtain ⟨b, p', s', e, b0, b1, q⟩ := draw_byte x hn p s hp
      rw [decide_eq_true h1, e]
      exact ⟨_, _, _, rfl, q, (hm b b0).1, fun _ => (hm b b0).2, fun h => absurd h h0⟩
    · obtain ⟨b, p1, s1, e1, b0, b1, q1⟩ := draw_byte x hn p s hp
      obtain ⟨c, p2, s2, e2, c0, c1, q2⟩ := draw_byte x hn p1 s1 q1
      obtain ⟨d, p3, s3, e3, d0, d1, q3⟩ := draw_byte x hn p2 s2 q2
      obtain ⟨e, p4, s4, e4, f0, f1, q4⟩ := draw_byte x hn p3 s3 q3
      rw [decide_eq_false h1, cond_false, e1, Option.bind_some]
      simp only [e2, e3, e4, Option.bind_some, cond_false]
      rw [w64 (show -9223372036854775808 ≤ b * 16777216 by omega) (by omega), w64 (show -9223372036854775808 ≤ c * 65536 by omega) (by omega), w64 (show -9223372036854775808 ≤ d * 256 by omega) (by omega), w64 (show -9223372036854775808 ≤ b * 16777216 + c * 65536 by omega) (by omega), w64 (show -9223372036854775808 ≤ b * 16777216 + c * 65536 + d * 256 by omega) (by omega), w64 (show -9223372036854775808 ≤ b * 16777216 + c * 65536 + d * 256 + e by omega) (by omega)]
      have := hm (b * 16777216 + c * 65536 + d * 256 + e) (by omega)
      exact ⟨_, _, _, rfl, q4, this.1, fun _ => this.2, fun h => absurd h h0⟩
/-- The head of a draw: the bytes that it was handed, and a number out of them. -/
theorem draw_new {τ : Type} {F : Nat → List Int → Int → Int → Option τ} {G : List Int → Int → τ}
    (hs : ∀ n x s i, F (n + 1) x s i = bif (decide (i < (x.length : Int))) then bif (decide (i < (4000 : Int))) then bif ((decide ((0 : Int) ≤ i)) && (decide (i < (x.length : Int)))) then
      F n x (bitI .and .i64 (IntKind.wrap .i64 ((IntKind.wrap .i64 ((IntKind.wrap .i64 (s * (131 : Int))) + (IntKind.wrap .i64 ((x.getD i.toNat 0))))) + (7 : Int))) (1073741823 : Int)) (IntKind.wrap .i64 (i + (1 : Int))) else none else some (G x s) else some (G x s))
    (x : List Int) (hn : x.length ≤ 1048576) : ∀ s, ∃ s', F N x s 0 = some (G x s') := by
  have key : ∀ (k n : Nat) (s i : Int), 0 ≤ i → (x.length : Int) - i ≤ k → k < n → ∃ s', F n x s i = some (G x s') := by
    intro k
    induction k with
    | zero =>
      intro n s i h0 h1 hk
      obtain ⟨n, rfl⟩ := succ_fuel hk
      rw [hs, decide_eq_false (by omega)]
      exact ⟨_, rfl⟩
    | succ k ih =>
      intro n s i h0 h1 hk
      obtain ⟨n, rfl⟩ := succ_fuel hk
      rw [hs]
      by_cases h : i < (x.length : Int)
      · rw [decide_eq_true h, decide_eq_true h0, w64 (show -9223372036854775808 ≤ i + 1 by omega) (by omega)]
        cases decide (i < 4000)
        · exact ⟨_, rfl⟩
        · exact ih n _ (i + 1) (by omega) (by omega) (by omega)
      · rw [decide_eq_false h]; exact ⟨_, rfl⟩
  intro s
  exact key x.length N s 0 (Int.le_refl _) (by omega) (Nat.lt_of_le_of_lt hn (Nat.lt_trans (by omega) big))
theorem draw_pick (x : List Int) (hn : x.length ≤ 1048576) (p s : Int) (hp : 0 ≤ p) (l : List Int) (hl : 0 < (l.length : Int)) : ∃ e p' s', f_spec_l1PickInt x p s l = some (e, p', s') ∧ e ∈ l ∧ 0 ≤ p' := by
  unfold f_spec_l1PickInt
  obtain ⟨r, p', s', e, q, r0, r1, -⟩ := draw_below x hn p s (l.length : Int) hp
  rw [e, Option.bind_some]
  have r2 := r1 hl
  have hlt : r.toNat < l.length := by omega
  simp only [decide_eq_true r0, decide_eq_true r2, Bool.and_self, cond_true]
  refine ⟨_, _, _, rfl, ?_, q⟩
  rw [List.getD_eq_getElem?_getD, List.getElem?_eq_getElem hlt]
  exact List.getElem_mem hlt
theorem drawIns (x : List Int) (hn : x.length ≤ 1048576) (p s : Int) (hp : 0 ≤ p) : ∃ a b c d e p' s', f_spec_l8DrawIns x p s = some (a, b, c, d, e, p', s') ∧ 0 ≤ p' := by
  unfold f_spec_l8DrawIns
  obtain ⟨a, p1, s1, e1, -, q1⟩ := draw_pick x hn p s hp ([1, 1, 2, 3, 3, 4, 4, 5, 5, 5, 6, 6, 7, 8, 9, 10] : List Int) (by simp)
  obtain ⟨m, c, hm, -⟩ := has_some a
  rw [e1, Option.bind_some]
  simp only [hm, Option.bind_some]
  have B := fun p s hp => draw_below x hn p s 4 hp
  have K := fun p s hp => draw_pick x hn p s hp ([0, 1, 2, 4, 8, 9, 12, 20, 23] : List Int) (by simp)
  cases !(decide (bitI .and .i64 m (1 : Int) = (0 : Int))) <;> cases !(decide (bitI .and .i64 m (2 : Int) = (0 : Int))) <;> cases !(decide (bitI .and .i64 m (4 : Int) = (0 : Int))) <;> cases !(decide (bitI .and .i64 m (8 : Int) = (0 : Int))) <;>
    simp only [cond_true, cond_false]
  · exact ⟨_, _, _, _, _, _, _, rfl, q1⟩
  · obtain ⟨v, p2, s2, e2, -, q2⟩ := K p1 s1 q1
    simp only [e2, Option.bind_some]; exact ⟨_, _, _, _, _, _, _, rfl, q2⟩
  · obtain ⟨v, p2, s2, e2, q2, -⟩ := B p1 s1 q1
    simp only [e2, Option.bind_some]; exact ⟨_, _, _, _, _, _, _, rfl, q2⟩
  · obtain ⟨v, p2, s2, e2, q2, -⟩ := B p1 s1 q1
    obtain ⟨w, p3, s3, e3, -, q3⟩ := K p2 s2 q2
    simp only [e2, e3, Option.bind_some]; exact ⟨_, _, _, _, _, _, _, rfl, q3⟩
  · obtain ⟨v, p2, s2, e2, q2, -⟩ := B p1 s1 q1
    simp only [e2, Option.bind_some]; exact ⟨_, _, _, _, _, _, _, rfl, q2⟩
  · obtain ⟨v, p2, s2, e2, q2, -⟩ := B p1 s1 q1
    obtain ⟨w, p3, s3, e3, -, q3⟩ := K p2 s2 q2
    simp only [e2, e3, Option.bind_some]; exact ⟨_, _, _, _, _, _, _, rfl, q3⟩
  · obtain ⟨v, p2, s2, e2, q2, -⟩ := B p1 s1 q1
    obtain ⟨w, p3, s3, e3, q3, -⟩ := B p2 s2 q2
    simp only [e2, e3, Option.bind_some]; exact ⟨_, _, _, _, _, _, _, rfl, q3⟩
  · obtain ⟨v, p2, s2, e2, q2, -⟩ := B p1 s1 q1
    obtain ⟨w, p3, s3, e3, q3, -⟩ := B p2 s2 q2
    obtain ⟨u, p4, s4, e4, -, q4⟩ := K p3 s3 q3
    simp only [e2, e3, e4, Option.bind_some]; exact ⟨_, _, _, _, _, _, _, rfl, q4⟩
  · obtain ⟨v, p2, s2, e2, q2, -⟩ := B p1 s1 q1
    simp only [e2, Option.bind_some]; exact ⟨_, _, _, _, _, _, _, rfl, q2⟩
  · obtain ⟨v, p2, s2, e2, q2, -⟩ := B p1 s1 q1
    obtain ⟨w, p3, s3, e3, -, q3⟩ := K p2 s2 q2
    simp only [e2, e3, Option.bind_some]; exact ⟨_, _, _, _, _, _, _, rfl, q3⟩
  · obtain ⟨v, p2, s2, e2, q2, -⟩ := B p1 s1 q1
    obtain ⟨w, p3, s3, e3, q3, -⟩ := B p2 s2 q2
    simp only [e2, e3, Option.bind_some]; exact ⟨_, _, _, _, _, _, _, rfl, q3⟩
  · obtain ⟨v, p2, s2, e2, q2, -⟩ := B p1 s1 q1
    obtain ⟨w, p3, s3, e3, q3, -⟩ := B p2 s2 q2
    obtain ⟨u, p4, s4, e4, -, q4⟩ := K p3 s3 q3
    simp only [e2, e3, e4, Option.bind_some]; exact ⟨_, _, _, _, _, _, _, rfl, q4⟩
  · obtain ⟨v, p2, s2, e2, q2, -⟩ := B p1 s1 q1
    obtain ⟨w, p3, s3, e3, q3, -⟩ := B p2 s2 q2
    simp only [e2, e3, Option.bind_some]; exact ⟨_, _, _, _, _, _, _, rfl, q3⟩
  · obtain ⟨v, p2, s2, e2, q2, -⟩ := B p1 s1 q1
    obtain ⟨w, p3, s3, e3, q3, -⟩ := B p2 s2 q2
    obtain ⟨u, p4, s4, e4, -, q4⟩ := K p3 s3 q3
    simp only [e2, e3, e4, Option.bind_some]; exact ⟨_, _, _, _, _, _, _, rfl, q4⟩
  · obtain ⟨v, p2, s2, e2, q2, -⟩ := B p1 s1 q1
    obtain ⟨w, p3, s3, e3, q3, -⟩ := B p2 s2 q2
    obtain ⟨u, p4, s4, e4, q4, -⟩ := B p3 s3 q3
    simp only [e2, e3, e4, Option.bind_some]; exact ⟨_, _, _, _, _, _, _, rfl, q4⟩
  · obtain ⟨v, p2, s2, e2, q2, -⟩ := B p1 s1 q1
    obtain ⟨w, p3, s3, e3, q3, -⟩ := B p2 s2 q2
    obtain ⟨u, p4, s4, e4, q4, -⟩ := B p3 s3 q3
    obtain ⟨t, p5, s5, e5, -, q5⟩ := K p4 s4 q4
    simp only [e2, e3, e4, e5, Option.bind_some]; exact ⟨_, _, _, _, _, _, _, rfl, q5⟩
theorem drawOne (x : List Int) (hn : x.length ≤ 1048576) : ∃ a b c d e, f_spec_l8DrawOne x = some (a, b, c, d, e) := by
  unfold f_spec_l8DrawOne
  obtain ⟨s', e⟩ := draw_new (F := fun n x s i => f_spec_l8DrawOne.l0 n x s i 0 0 0 0 0) (G := fun x s => (x, s, 0, 0, 0, 0, 0)) (fun _ _ _ _ => rfl) x hn (IntKind.wrap .i64 ((20404 : Int) + (x.length : Int)))
  obtain ⟨i1, i2, i3, i4, i5, p1, s1, e1, q1⟩ := drawIns x hn 0 s' (Int.le_refl _)
  obtain ⟨r, p2, s2, e2, q2, -⟩ := draw_below x hn p1 s1 8 q1
  obtain ⟨r3, p3, s3, e3, -⟩ := draw_below x hn p2 s2 13 q2
  obtain ⟨r4, p4, s4, e4, -⟩ := draw_pick x hn p2 s2 q2 ([-1, 3, 4] : List Int) (by simp)
  obtain ⟨r5, p5, s5, e5, -⟩ := draw_pick x hn p2 s2 q2 ([-1, 63, 64] : List Int) (by simp)
  rw [e, Option.bind_some]
  simp only [e1, e2, e3, e4, e5, Option.bind_some]
  cases decide (r = 0) <;> cases decide (r = 1) <;> cases decide (r = 2) <;> exact ⟨_, _, _, _, _, rfl⟩
theorem drawDecode (x : List Int) (hn : x.length ≤ 1048576) : ∃ v, f_spec_DrawDecode x = some v := by
  unfold f_spec_DrawDecode
  obtain ⟨s', h⟩ := draw_new (F := f_spec_DrawDecode.l0) (G := fun x s => (x, s)) (fun _ _ _ _ => rfl) x hn (IntKind.wrap .i64 ((20404 : Int) + (x.length : Int)))
  obtain ⟨a, b, c, d, e, p1, s1, e1, q1⟩ := drawIns x hn 0 s' (Int.le_refl _)
  obtain ⟨o, o1, o2⟩ := same_ins a b c d e
  obtain ⟨r, r1, -, -, -⟩ := same_code a b c d e o o1 o2
  obtain ⟨t, p2, s2, e2, q2, -⟩ := draw_below x hn p1 s1 6 q1
  obtain ⟨u, p3, s3, e3, -, -⟩ := draw_pick x hn p2 s2 q2 ([1, 16, 64, 256, 1024] : List Int) (by simp)
  obtain ⟨v, p4, s4, e4, -, -⟩ := draw_pick x hn p2 s2 q2 ([-1, 0, 65535, 65536, 15] : List Int) (by simp)
  rw [h, Option.bind_some]
  simp only [e1, r1, e2, e3, e4, Option.bind_some]
  cases decide (t = 0) <;> cases decide (t = 1) <;> exact ⟨_, rfl⟩
theorem codes (x0 : List Int) : f_laws_FnCodes x0 = some true := by
  unfold f_laws_FnCodes f_laws_big f_spec_DrawCode f_spec_DrawInsOk f_spec_DrawEnds
  by_cases hb : (1048576 : Int) < (x0.length : Int)
  · rw [decide_eq_true hb]; rfl
  rw [decide_eq_false hb]
  have hn : x0.length ≤ 1048576 := by omega
  obtain ⟨a, b, c, d, e, h1⟩ := drawOne x0 hn
  obtain ⟨v, h2⟩ := drawDecode x0 hn
  obtain ⟨o, o1, o2, n1, n2⟩ := same_ends a b c d e
  obtain ⟨r, r1, r2, r3, r4⟩ := same_code a b c d e o o1 o2
  obtain ⟨q, q1, q2, q3⟩ := dec_cases v
  obtain ⟨o', p1, p2⟩ := same_ins q.1 q.2.1 q.2.2.1 q.2.2.2.1 q.2.2.2.2.1
  obtain ⟨rc, -, c2, c3, c4⟩ := same_code q.1 q.2.1 q.2.2.1 q.2.2.2.1 q.2.2.2.2.1 o' p1 p2
  have tail : (bif (!q.2.2.2.2.2) then bif decide (q.1 = 0) && (decide (q.2.1 = 0) && (decide (q.2.2.1 = 0) && (decide (q.2.2.2.1 = 0) && decide (q.2.2.2.2.1 = 0)))) then some true else bif q.2.2.2.2.2 then bif rc.2 then some (decide (rc.1 = v)) else some false else some false
      else bif q.2.2.2.2.2 then bif rc.2 then some (decide (rc.1 = v)) else some false else some false) = some true := by
    rcases q3 with rfl | ⟨a', b', c', d', e', rfl, g1, g2, g3⟩
    · rfl
    · have : o' = true := by rw [g1] at p1; cases p1; rfl
      subst this
      simp only [Bool.not_true, cond_false, cond_true, c3, c4 rfl]
      rw [decide_eq_true g3.symm]
  simp only [Option.bind_some, cond_false, h1, h2, o1, o2, n1, n2, r1, r2, r3, q1, q2, c2, beq_self_eq_true, Bool.not_true, decide_true, tail]
  cases o with
  | false => rfl
  | true =>
    obtain ⟨d1, d2, d3⟩ := dec_code a b c d e o1 o2
    rw [r4 rfl]
    simp only [cond_true, d1, Option.bind_some, Bool.not_true, cond_false, decide_true, Bool.and_self, decide_eq_false (show ¬ a + 16 * b + 64 * c + 256 * d + 1024 * e < 0 by omega), decide_eq_false (show ¬ 65535 < a + 16 * b + 64 * c + 256 * d + 1024 * e by omega)]
theorem plain : Pure := fun x _ => codes x
end Go.Abs
