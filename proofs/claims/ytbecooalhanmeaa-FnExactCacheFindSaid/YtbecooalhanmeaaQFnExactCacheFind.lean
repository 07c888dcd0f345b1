/- The law FnExactCacheFind returns true for every cache and place: the program's CacheFind finds what the reference's finds, and turns nothing. A cache of more than 2^20 blocks and instructions is not asked for. -/
import Derived.Test.YtbecooalhanmeaaMFnExactCacheFind
import Derived.Laws.BitsLemmas
namespace Go.Abs
open Go.RowKit

theorem w64 {n : Int} (h0 : -9223372036854775808 ≤ n) (h1 : n ≤ 9223372036854775807) : IntKind.wrap .i64 n = n := by
  rw [IntKind.wrap_i64]
  omega
theorem succ_fuel {n d : Nat} (h : d < n) : ∃ m, n = m + 1 := ⟨n - 1, by omega⟩
theorem big : (1048577 : Nat) < N := by decide
theorem mem_getD {α : Type} (x : List α) (d : α) (i : Int) (h0 : 0 ≤ i) (h1 : i < x.length) : x.getD i.toNat d ∈ x := by
  have hlt : i.toNat < x.length := by omega
  rw [List.getD_eq_getElem?_getD, List.getElem?_eq_getElem hlt]
  exact List.getElem_mem hlt
theorem drop_getD {α : Type} (x : List α) (d : α) (i : Int) (h0 : 0 ≤ i) (h1 : i < x.length) : x.drop i.toNat = x.getD i.toNat d :: x.drop (i + 1).toNat := by
  have hlt : i.toNat < x.length := by omega
  have e : (i + 1).toNat = i.toNat + 1 := by omega
  rw [e, List.drop_eq_getElem_cons hlt, List.getD_eq_getElem?_getD, List.getElem?_eq_getElem hlt]
  rfl
theorem to_gen {α : Type} {d : α} {F : Nat → List α → Int → List α → Option (List α)} {g : α → Option α}
    (hs : ∀ n x i y, F (n + 1) x i y = bif decide (i < (x.length : Int)) then (bif (decide ((0 : Int) ≤ i) && decide (i < (x.length : Int))) then (g (x.getD i.toNat d)).bind fun e => (bif (decide ((0 : Int) ≤ i) && decide (i < (y.length : Int))) then F n x (IntKind.wrap .i64 (i + 1)) (y.set i.toNat e) else none) else none) else some y)
    (x : List α) (hn : x.length ≤ 1048576) (hg : ∀ e ∈ x, g e = some e) (k : Nat) : ∀ (n : Nat) (y : List α) (i : Int), 0 ≤ i → i ≤ x.length → (x.length : Int) - i = k → k < n → y.length = x.length → y.take i.toNat = x.take i.toNat → F n x i y = some x := by
  induction k with
  | zero =>
    intro n y i h0 h1 hd hk hl ht
    obtain ⟨n, rfl⟩ := succ_fuel hk
    rw [hs, decide_eq_false (by omega), cond_false]
    rw [List.take_of_length_le (by omega), List.take_of_length_le (by omega)] at ht
    rw [ht]
  | succ k ih =>
    intro n y i h0 h1 hd hk hl ht
    obtain ⟨n, rfl⟩ := succ_fuel hk
    have hw : IntKind.wrap .i64 (i + 1) = i + 1 := w64 (by omega) (by omega)
    have hlt : i.toNat < x.length := by omega
    rw [hs, decide_eq_true (show i < (x.length : Int) by omega), decide_eq_true h0, decide_eq_true (show i < (y.length : Int) by omega), hw, hg _ (mem_getD x d i h0 (by omega))]
    simp only [cond_true, Bool.and_self, Option.bind_some]
    refine ih n _ (i + 1) (by omega) (by omega) (by omega) (by omega) (by rw [List.length_set]; exact hl) ?_
    have e : (i + 1).toNat = i.toNat + 1 := by omega
    rw [e, List.take_add_one, List.take_add_one, List.take_set, List.getElem?_set_self (by omega), List.getElem?_eq_getElem hlt]
    have : x.getD i.toNat d = x[i.toNat] := by rw [List.getD_eq_getElem?_getD, List.getElem?_eq_getElem hlt]; rfl
    rw [this, List.set_eq_of_length_le (by rw [List.length_take]; omega), ht]
theorem eq_gen {α : Type} {d : α} {F : Nat → List α → List α → Bool → Int → Option (Bool ⊕ Bool)} {q : α → α → Option Bool}
    (hs : ∀ n x y b i, F (n + 1) x y b i = bif decide (i < (x.length : Int)) then (bif (decide ((0 : Int) ≤ i) && decide (i < (x.length : Int))) then (bif (decide ((0 : Int) ≤ i) && decide (i < (y.length : Int))) then (q (x.getD i.toNat d) (y.getD i.toNat d)).bind fun r => (bif (!r) then some (.inl false) else F n x y b (IntKind.wrap .i64 (i + 1))) else none) else none) else some (.inr b))
    (x : List α) (hn : x.length ≤ 1048576) (hq : ∀ e ∈ x, q e e = some true) (b : Bool) (k : Nat) : ∀ (n : Nat) (i : Int), 0 ≤ i → i ≤ x.length → (x.length : Int) - i = k → k < n → F n x x b i = some (.inr b) := by
  induction k with
  | zero =>
    intro n i h0 h1 hd hk
    obtain ⟨n, rfl⟩ := succ_fuel hk
    rw [hs, decide_eq_false (by omega), cond_false]
  | succ k ih =>
    intro n i h0 h1 hd hk
    obtain ⟨n, rfl⟩ := succ_fuel hk
    have hw : IntKind.wrap .i64 (i + 1) = i + 1 := w64 (by omega) (by omega)
    rw [hs, decide_eq_true (show i < (x.length : Int) by omega), decide_eq_true h0, hw, hq _ (mem_getD x d i h0 (by omega))]
    simp only [cond_true, Bool.and_self, Option.bind_some, Bool.not_true, cond_false]
    exact ih n (i + 1) (by omega) (by omega) (by omega) (by omega)
theorem sz_gen {α : Type} {d : α} {F : Nat → List α → Int → Int → Int → Option (Int ⊕ (Int × Int))} {s : α → Int → Option Int} {Ok : α → Prop}
    (hs : ∀ n x l q i, F (n + 1) x l q i = bif decide (i < (x.length : Int)) then (bif (decide ((0 : Int) ≤ i) && decide (i < (x.length : Int))) then (s (x.getD i.toNat d) l).bind fun r => (bif decide (r < 0) then some (.inl (-1)) else F n x r q (IntKind.wrap .i64 (i + 1))) else none) else some (.inr (l, q)))
    (x : List α) (hn : x.length ≤ 1048576) (he : ∀ e ∈ x, ∀ l, 0 ≤ l → l ≤ 1048576 → s e l = some (-1) ∨ ∃ l', s e l = some l' ∧ 0 ≤ l' ∧ l' ≤ l ∧ Ok e) (q : Int) (k : Nat) :
    ∀ (n : Nat) (l i : Int), 0 ≤ l → l ≤ 1048576 → 0 ≤ i → i ≤ x.length → (x.length : Int) - i = k → k < n → F n x l q i = some (.inl (-1)) ∨ ∃ l', F n x l q i = some (.inr (l', q)) ∧ 0 ≤ l' ∧ l' ≤ l ∧ ∀ e ∈ x.drop i.toNat, Ok e := by
  induction k with
  | zero =>
    intro n l i hl0 hl1 h0 h1 hd hk
    obtain ⟨n, rfl⟩ := succ_fuel hk
    rw [hs, decide_eq_false (show ¬ i < (x.length : Int) by omega), cond_false, List.drop_eq_nil_of_le (by omega)]
    exact .inr ⟨l, rfl, hl0, Int.le_refl _, fun e h => by cases h⟩
  | succ k ih =>
    intro n l i hl0 hl1 h0 h1 hd hk
    obtain ⟨n, rfl⟩ := succ_fuel hk
    have hw : IntKind.wrap .i64 (i + 1) = i + 1 := w64 (by omega) (by omega)
    rw [hs, decide_eq_true (show i < (x.length : Int) by omega), decide_eq_true h0, hw]
    simp only [cond_true, Bool.and_self]
    rcases he _ (mem_getD x d i h0 (by omega)) l hl0 hl1 with h | ⟨l', h, a0, a1, a2⟩
    · rw [h]; exact .inl rfl
    · rw [h, Option.bind_some, decide_eq_false (show ¬ l' < 0 by omega), cond_false]
      rcases ih n l' (i + 1) a0 (by omega) (by omega) (by omega) (by omega) (by omega) with h2 | ⟨l2, h2, b0, b1, b2⟩
      · exact .inl h2
      · refine .inr ⟨l2, h2, b0, by omega, fun e hm => ?_⟩
        rw [drop_getD x d i h0 (by omega)] at hm
        rcases List.mem_cons.1 hm with rfl | hm
        · exact a2
        · exact b2 e hm
theorem lt_N {x : Nat} (h : x ≤ 1048576) : x < N := Nat.lt_of_le_of_lt h (Nat.lt_trans (by omega) big)
def rng (x m : Int) : Bool := decide ((0 : Int) ≤ x) && decide (x ≤ m)
theorem in_rng (x m : Int) : f_spec_l1In x 0 m = some (rng x m) := by
  unfold f_spec_l1In rng
  cases decide ((0 : Int) ≤ x) <;> rfl
theorem from_rng (x m : Int) : f_impl_from x 0 m = some (rng x m) := by
  unfold f_impl_from rng
  cases decide ((0 : Int) ≤ x) <;> rfl
theorem field_eq (x m : Int) (h : Bool) : f_spec_l8Field x m h = some (rng x m && (h || decide (x = 0))) := by
  unfold f_spec_l8Field
  rw [in_rng]
  simp only [Option.bind_some]
  cases rng x m <;> cases h <;> rfl
theorem chain (a b c d : Bool) : (bif a then (bif b then (bif c then some d else some false) else some false) else some false) = some (a && (b && (c && d))) := by
  cases a <;> cases b <;> cases c <;> rfl
/-- What the reference says of an instruction with these letters. -/
theorem spec_ins (x0 x1 x2 x3 x4 m : Int) (h1 h2 h3 h4 : Bool) (hm : f_spec_l8Has x0 = some m) (hin : f_spec_l1In x0 1 10 = some true)
    (b1 : (!(decide (bitI .and .i64 m (1 : Int) = (0 : Int)))) = h1) (b2 : (!(decide (bitI .and .i64 m (2 : Int) = (0 : Int)))) = h2) (b3 : (!(decide (bitI .and .i64 m (4 : Int) = (0 : Int)))) = h3) (b4 : (!(decide (bitI .and .i64 m (8 : Int) = (0 : Int)))) = h4) :
    f_spec_InsOk x0 x1 x2 x3 x4 = some ((rng x1 3 && (h1 || decide (x1 = 0))) && ((rng x2 3 && (h2 || decide (x2 = 0))) && ((rng x3 3 && (h3 || decide (x3 = 0))) && (rng x4 63 && (h4 || decide (x4 = 0)))))) := by
  unfold f_spec_InsOk
  simp only [hm, hin, Option.bind_some, b1, b2, b3, b4, field_eq, cond_true]
  rw [← chain]
theorem impl_ins (x0 x1 x2 x3 x4 r a b n : Int) (s : ByteArray) (hf : f_impl_form x0 = some (s, true))
    (hl : f_impl_InsOk.l0 N false s true (s.size : Int) 0 x0 x1 x2 x3 x4 x0 0 0 0 0 = some (false, true, x0, x1, x2, x3, x4, x0, r, a, b, n)) :
    f_impl_InsOk x0 x1 x2 x3 x4 = some ((decide (r = x1) && (decide (a = x2) && (decide (b = x3) && decide (n = x4)))) && (rng x1 3 && (rng x2 3 && (rng x3 3 && rng x4 63)))) := by
  unfold f_impl_InsOk
  simp only [hf, Option.bind_some, hl, cond_true, decide_true, Bool.true_and, from_rng]
  rw [chain]
  cases (decide (r = x1) && (decide (a = x2) && (decide (b = x3) && decide (n = x4)))) <;> rfl
theorem sym (x : Int) : decide ((0 : Int) = x) = decide (x = 0) := by
  by_cases h : x = 0
  · subst h; rfl
  · rw [decide_eq_false h, decide_eq_false (fun e => h e.symm)]
theorem alg : ∀ a b c d e f g h : Bool, ((a && (true || e)) && ((b && (true || f)) && ((c && (true || g)) && (d && (true || h))))) = ((true && (true && (true && true))) && (a && (b && (c && d)))) := by decide

theorem same_ins (x0 x1 x2 x3 x4 : Int) : ∃ b, f_spec_InsOk x0 x1 x2 x3 x4 = some b ∧ f_impl_InsOk x0 x1 x2 x3 x4 = some b := by
  obtain ⟨k, hk⟩ : ∃ k : Nat, N = k + 6 := ⟨1152921504606846970, rfl⟩
  by_cases hin : (1 : Int) ≤ x0 ∧ x0 ≤ 10
  · have hi : f_spec_l1In x0 1 10 = some true := by unfold f_spec_l1In; rw [decide_eq_true hin.1, decide_eq_true hin.2]; rfl
    have : x0 = 1 ∨ x0 = 2 ∨ x0 = 3 ∨ x0 = 4 ∨ x0 = 5 ∨ x0 = 6 ∨ x0 = 7 ∨ x0 = 8 ∨ x0 = 9 ∨ x0 = 10 := by omega
    rcases this with rfl | rfl | rfl | rfl | rfl | rfl | rfl | rfl | rfl | rfl
    · refine ⟨_, spec_ins 1 x1 x2 x3 x4 9 true false false true rfl hi (by decide) (by decide) (by decide) (by decide), ?_⟩
      rw [impl_ins 1 x1 x2 x3 x4 x1 0 0 x4 ⟨#[82, 78]⟩ rfl (by rw [hk]; rfl)]
      simp only [decide_true, sym]
      cases rng x1 3 <;> cases rng x2 3 <;> cases rng x3 3 <;> cases rng x4 63 <;> cases decide (x2 = 0) <;> cases decide (x3 = 0) <;> simp
    · refine ⟨_, spec_ins 2 x1 x2 x3 x4 7 true true true false rfl hi (by decide) (by decide) (by decide) (by decide), ?_⟩
      rw [impl_ins 2 x1 x2 x3 x4 x1 x2 x3 0 ⟨#[82, 65, 66]⟩ rfl (by rw [hk]; rfl)]
      simp only [decide_true, sym]
      cases rng x1 3 <;> cases rng x2 3 <;> cases rng x3 3 <;> cases rng x4 63 <;> cases decide (x4 = 0) <;> simp
    · refine ⟨_, spec_ins 3 x1 x2 x3 x4 11 true true false true rfl hi (by decide) (by decide) (by decide) (by decide), ?_⟩
      rw [impl_ins 3 x1 x2 x3 x4 x1 x2 0 x4 ⟨#[82, 65, 78]⟩ rfl (by rw [hk]; rfl)]
      simp only [decide_true, sym]
      cases rng x1 3 <;> cases rng x2 3 <;> cases rng x3 3 <;> cases rng x4 63 <;> cases decide (x3 = 0) <;> simp
    · refine ⟨_, spec_ins 4 x1 x2 x3 x4 11 true true false true rfl hi (by decide) (by decide) (by decide) (by decide), ?_⟩
      rw [impl_ins 4 x1 x2 x3 x4 x1 x2 0 x4 ⟨#[82, 65, 78]⟩ rfl (by rw [hk]; rfl)]
      simp only [decide_true, sym]
      cases rng x1 3 <;> cases rng x2 3 <;> cases rng x3 3 <;> cases rng x4 63 <;> cases decide (x3 = 0) <;> simp
    · refine ⟨_, spec_ins 5 x1 x2 x3 x4 14 false true true true rfl hi (by decide) (by decide) (by decide) (by decide), ?_⟩
      rw [impl_ins 5 x1 x2 x3 x4 0 x2 x3 x4 ⟨#[65, 66, 78]⟩ rfl (by rw [hk]; rfl)]
      simp only [decide_true, sym]
      cases rng x1 3 <;> cases rng x2 3 <;> cases rng x3 3 <;> cases rng x4 63 <;> cases decide (x1 = 0) <;> simp
    · refine ⟨_, spec_ins 6 x1 x2 x3 x4 15 true true true true rfl hi (by decide) (by decide) (by decide) (by decide), ?_⟩
      rw [impl_ins 6 x1 x2 x3 x4 x1 x2 x3 x4 ⟨#[82, 65, 66, 78]⟩ rfl (by rw [hk]; rfl)]
      simp only [decide_true]
      cases rng x1 3 <;> cases rng x2 3 <;> cases rng x3 3 <;> cases rng x4 63 <;> simp
    · refine ⟨_, spec_ins 7 x1 x2 x3 x4 10 false true false true rfl hi (by decide) (by decide) (by decide) (by decide), ?_⟩
      rw [impl_ins 7 x1 x2 x3 x4 0 x2 0 x4 ⟨#[65, 78]⟩ rfl (by rw [hk]; rfl)]
      simp only [decide_true, sym]
      cases rng x1 3 <;> cases rng x2 3 <;> cases rng x3 3 <;> cases rng x4 63 <;> cases decide (x1 = 0) <;> cases decide (x3 = 0) <;> simp
    · refine ⟨_, spec_ins 8 x1 x2 x3 x4 8 false false false true rfl hi (by decide) (by decide) (by decide) (by decide), ?_⟩
      rw [impl_ins 8 x1 x2 x3 x4 0 0 0 x4 ⟨#[78]⟩ rfl (by rw [hk]; rfl)]
      simp only [decide_true, sym]
      cases rng x1 3 <;> cases rng x2 3 <;> cases rng x3 3 <;> cases rng x4 63 <;> cases decide (x1 = 0) <;> cases decide (x2 = 0) <;> cases decide (x3 = 0) <;> simp
    · refine ⟨_, spec_ins 9 x1 x2 x3 x4 0 false false false false rfl hi (by decide) (by decide) (by decide) (by decide), ?_⟩
      rw [impl_ins 9 x1 x2 x3 x4 0 0 0 0 ⟨#[]⟩ rfl (by rw [hk]; rfl)]
      simp only [sym]
      cases rng x1 3 <;> cases rng x2 3 <;> cases rng x3 3 <;> cases rng x4 63 <;> cases decide (x1 = 0) <;> cases decide (x2 = 0) <;> cases decide (x3 = 0) <;> cases decide (x4 = 0) <;> simp
    · refine ⟨_, spec_ins 10 x1 x2 x3 x4 7 true true true false rfl hi (by decide) (by decide) (by decide) (by decide), ?_⟩
      rw [impl_ins 10 x1 x2 x3 x4 x1 x2 x3 0 ⟨#[82, 65, 66]⟩ rfl (by rw [hk]; rfl)]
      simp only [decide_true, sym]
      cases rng x1 3 <;> cases rng x2 3 <;> cases rng x3 3 <;> cases rng x4 63 <;> cases decide (x4 = 0) <;> simp
  · refine ⟨false, ?_, ?_⟩
    · have hi : f_spec_l1In x0 1 10 = some false := by
        unfold f_spec_l1In
        by_cases h1 : (1 : Int) ≤ x0
        · rw [decide_eq_true h1, decide_eq_false (fun h => hin ⟨h1, h⟩)]; rfl
        · rw [decide_eq_false h1]; rfl
      unfold f_spec_InsOk f_spec_l8Has
      simp only [hi, Option.bind_some, Bool.not_false, cond_true, cond_false]
    · have hf : f_impl_form x0 = some (⟨#[]⟩, false) := by
        unfold f_impl_form
        rw [decide_eq_false (by omega), decide_eq_false (by omega), decide_eq_false (by omega), decide_eq_false (by omega), decide_eq_false (by omega), decide_eq_false (by omega), decide_eq_false (by omega), decide_eq_false (by omega), decide_eq_false (by omega), decide_eq_false (by omega)]
        rfl
      have hl : f_impl_InsOk.l0 N false ⟨#[]⟩ false ((⟨#[]⟩ : ByteArray).size : Int) 0 x0 x1 x2 x3 x4 x0 0 0 0 0 = some (false, false, x0, x1, x2, x3, x4, x0, 0, 0, 0, 0) := by rw [hk]; rfl
      unfold f_impl_InsOk
      simp only [hf, Option.bind_some, hl, cond_false]

def rg (x a b : Int) : Bool := decide (a ≤ x) && decide (x ≤ b)
theorem in_rg (x a b : Int) : f_spec_l1In x a b = some (rg x a b) := by
  unfold f_spec_l1In rg
  cases decide (a ≤ x) <;> rfl
theorem from_rg (x a b : Int) : f_impl_from x a b = some (rg x a b) := by
  unfold f_impl_from rg
  cases decide (a ≤ x) <;> rfl
theorem eqIns_self (a b c d e : Int) : f_laws_eqIns a b c d e a b c d e = some true := by simp [f_laws_eqIns]
theorem toInsS (x : List (Int × Int × Int × Int × Int)) (hn : x.length ≤ 1048576) : f_laws_toInsS x = some x := by
  unfold f_laws_toInsS
  rw [decide_eq_true (by omega), show Nat.ble ((x.length : Int).toNat) 3518437208883 = true from Nat.ble_eq_true_of_le (by omega)]
  simp only [Bool.and_self, cond_true]
  rw [to_gen (F := f_laws_toInsS.l0) (g := fun e => f_laws_toIns e.1 e.2.1 e.2.2.1 e.2.2.2.1 e.2.2.2.2) (d := (0, 0, 0, 0, 0)) (fun n x i y => rfl) x hn (fun e _ => rfl) x.length N _ 0 (by omega) (by omega) (by omega) (lt_N hn) (by simp) (by simp)]
  rfl
theorem eqInsS (x : List (Int × Int × Int × Int × Int)) (hn : x.length ≤ 1048576) : f_laws_eqInsS x x = some true := by
  unfold f_laws_eqInsS
  simp only [decide_true, Bool.not_true, cond_false]
  rw [eq_gen (F := f_laws_eqInsS.l0) (q := fun e f => f_laws_eqIns e.1 e.2.1 e.2.2.1 e.2.2.2.1 e.2.2.2.2 f.1 f.2.1 f.2.2.1 f.2.2.2.1 f.2.2.2.2) (d := (0, 0, 0, 0, 0)) (fun n x y b i => rfl) x hn (fun e _ => eqIns_self _ _ _ _ _) false x.length N 0 (by omega) (by omega) (by omega) (lt_N hn)]
  rfl
theorem szInsS (x : List (Int × Int × Int × Int × Int)) (left : Int) (h0 : 0 ≤ left) (h1 : left ≤ 1048576) (hx : x.length ≤ 9223372036854775807) :
    (f_laws_szInsS x left = some (-1)) ∨ (f_laws_szInsS x left = some (left - x.length) ∧ (x.length : Int) ≤ left) := by
  unfold f_laws_szInsS
  rw [w64 (by omega) (by omega)]
  by_cases h : left - (x.length : Int) < 0
  · rw [decide_eq_true h]; exact .inl rfl
  · rw [decide_eq_false h]; exact .inr ⟨rfl, by omega⟩
theorem toBlock_self (a : Int) (x : List (Int × Int × Int × Int × Int)) (hn : x.length ≤ 1048576) : f_laws_toBlock a x = some (a, x) := by
  unfold f_laws_toBlock
  rw [toInsS x hn]; rfl
theorem eqBlock_self (a : Int) (x : List (Int × Int × Int × Int × Int)) (hn : x.length ≤ 1048576) : f_laws_eqBlock a x a x = some true := by
  unfold f_laws_eqBlock
  simp only [decide_true, Bool.not_true, cond_false, eqInsS x hn, Option.bind_some]
theorem szBlock (a : Int) (x : List (Int × Int × Int × Int × Int)) (left : Int) (h0 : 0 ≤ left) (h1 : left ≤ 1048576) (hx : x.length ≤ 9223372036854775807) :
    (f_laws_szBlock a x left = some (-1)) ∨ (f_laws_szBlock a x left = some (left - x.length) ∧ (x.length : Int) ≤ left) := by
  unfold f_laws_szBlock
  rcases szInsS x left h0 h1 hx with h | ⟨h, hl⟩
  · simp only [h, Option.bind_some]; exact .inl rfl
  · simp only [h, Option.bind_some]
    rw [decide_eq_false (by omega)]
    exact .inr ⟨rfl, hl⟩
def ends1 (b : Bool) (x : Int) : Bool := !b || (decide (x = 7) || (decide (x = 8) || decide (x = 9)))
theorem same_ends (x0 x1 x2 x3 x4 : Int) : ∃ b, f_spec_InsOk x0 x1 x2 x3 x4 = some b ∧ f_impl_InsOk x0 x1 x2 x3 x4 = some b ∧ f_spec_Ends x0 x1 x2 x3 x4 = some (ends1 b x0) ∧ f_impl_Ends x0 x1 x2 x3 x4 = some (ends1 b x0) := by
  obtain ⟨b, h1, h2⟩ := same_ins x0 x1 x2 x3 x4
  refine ⟨b, h1, h2, ?_, ?_⟩
  · unfold f_spec_Ends ends1
    simp only [h1, Option.bind_some]
    cases b <;> cases decide (x0 = 7) <;> cases decide (x0 = 8) <;> cases decide (x0 = 9) <;> rfl
  · unfold f_impl_Ends ends1
    simp only [h2, Option.bind_some]
    cases b <;> cases decide (x0 = 7) <;> cases decide (x0 = 8) <;> cases decide (x0 = 9) <;> rfl
def zeroI (e : Int × Int × Int × Int × Int) : Bool := decide (e.1 = 0) && (decide (e.2.1 = 0) && (decide (e.2.2.1 = 0) && (decide (e.2.2.2.1 = 0) && decide (e.2.2.2.2 = 0))))
theorem ends_zero (e : Int × Int × Int × Int × Int) (h : zeroI e = true) (b : Bool) (hb : f_spec_InsOk e.1 e.2.1 e.2.2.1 e.2.2.2.1 e.2.2.2.2 = some b) : b = false := by
  obtain ⟨a0, a1, a2, a3, a4⟩ := e
  unfold zeroI at h
  simp only [Bool.and_eq_true, decide_eq_true_eq] at h
  obtain ⟨rfl, rfl, rfl, rfl, rfl⟩ := h
  have : f_spec_InsOk 0 0 0 0 0 = some false := rfl
  rw [this] at hb
  exact (Option.some.inj hb).symm
theorem blockOk_loop (x : List (Int × Int × Int × Int × Int)) (hn : x.length ≤ 1048576) (a0 : Int) (c : Bool) (k : Nat) : ∀ (n : Nat) (i : Int), 0 ≤ i → i ≤ x.length → (x.length : Int) - i = k → k < n →
    (f_spec_BlockOk.l0 n c i a0 x = some (.inl false) ∧ f_impl_BlockOk.l0 n c x (x.length : Int) i a0 x = some (.inl false)) ∨ (f_spec_BlockOk.l0 n c i a0 x = some (.inr c) ∧ f_impl_BlockOk.l0 n c x (x.length : Int) i a0 x = some (.inr c)) := by
  induction k with
  | zero =>
    intro n i h0 h1 hd hk
    obtain ⟨n, rfl⟩ := succ_fuel hk
    simp only [f_spec_BlockOk.l0, f_impl_BlockOk.l0]
    rw [decide_eq_false (show ¬ i < (x.length : Int) by omega)]
    exact .inr ⟨rfl, rfl⟩
  | succ k ih =>
    intro n i h0 h1 hd hk
    obtain ⟨n, rfl⟩ := succ_fuel hk
    have hw : IntKind.wrap .i64 (i + 1) = i + 1 := w64 (by omega) (by omega)
    have hw2 : IntKind.wrap .i64 ((x.length : Int) - 1) = (x.length : Int) - 1 := w64 (by omega) (by omega)
    have ih2 := ih n (i + 1) (by omega) (by omega) (by omega) (by omega)
    simp only [f_spec_BlockOk.l0, f_impl_BlockOk.l0]
    rw [decide_eq_true (show i < (x.length : Int) by omega), decide_eq_true h0, hw, hw2]
    generalize hE : x.getD i.toNat (0, 0, 0, 0, 0) = e
    obtain ⟨b, s1, s2, s3, s4⟩ := same_ends e.1 e.2.1 e.2.2.1 e.2.2.2.1 e.2.2.2.2
    have hz := ends_zero e
    unfold zeroI at hz
    simp only [cond_true, Bool.and_self, s1, s2, s3, s4, Option.bind_some]
    have hlast : decide (i < (x.length : Int) - 1) = decide (i + 1 < (x.length : Int)) := by
      by_cases h : i < (x.length : Int) - 1
      · rw [decide_eq_true h, decide_eq_true (by omega)]
      · rw [decide_eq_false h, decide_eq_false (by omega)]
    rw [hlast]
    cases hzz : (decide (e.1 = 0) && (decide (e.2.1 = 0) && (decide (e.2.2.1 = 0) && (decide (e.2.2.2.1 = 0) && decide (e.2.2.2.2 = 0))))) with
    | true =>
      have := hz hzz b s1
      subst this
      simp only [ends1, Bool.not_true, Bool.not_false, cond_true, cond_false, Bool.true_or]
      cases decide (i + 1 < (x.length : Int)) with
      | true => exact .inl ⟨rfl, rfl⟩
      | false => exact ih2
    | false =>
      cases b with
      | false => exact .inl ⟨rfl, rfl⟩
      | true =>
        simp only [Bool.not_true, Bool.not_false, cond_true, cond_false]
        cases ends1 true e.1 with
        | false =>
          cases decide (i + 1 < (x.length : Int)) with
          | true => exact ih2
          | false => exact ih2
        | true =>
          cases decide (i + 1 < (x.length : Int)) with
          | true => exact .inl ⟨rfl, rfl⟩
          | false => exact ih2
theorem same_blockOk (a0 : Int) (x : List (Int × Int × Int × Int × Int)) (hn : x.length ≤ 1048576) : ∃ b, f_spec_BlockOk a0 x = some b ∧ f_impl_BlockOk a0 x = some b := by
  unfold f_spec_BlockOk f_impl_BlockOk f_impl_isCell
  simp only [in_rg, from_rg, Option.bind_some]
  cases hr : rg a0 0 23 with
  | false => exact ⟨_, rfl, rfl⟩
  | true =>
    unfold rg at hr
    simp only [Bool.and_eq_true, decide_eq_true_eq] at hr
    have hm : Int.tmod a0 4 = a0 % 4 := Int.tmod_eq_emod_of_nonneg hr.1
    rw [hm, w64 (by omega) (by omega)]
    have hmin : (bif decide (4 - a0 % 4 < (4 : Int)) then 4 - a0 % 4 else 4) = 4 - a0 % 4 := by
      by_cases h : 4 - a0 % 4 < (4 : Int)
      · rw [decide_eq_true h, cond_true]
      · rw [decide_eq_false h, cond_false]; omega
    rw [hmin]
    cases rg (x.length : Int) 1 (4 - a0 % 4) with
    | false => exact ⟨_, rfl, rfl⟩
    | true =>
      simp only [Bool.not_true, cond_false]
      rcases blockOk_loop x hn a0 false x.length N 0 (by omega) (by omega) (by omega) (lt_N hn) with ⟨h1, h2⟩ | ⟨h1, h2⟩
      · rw [h1, h2]; exact ⟨_, rfl, rfl⟩
      · rw [h1, h2]; exact ⟨_, rfl, rfl⟩
theorem blockOk_start (a : Int) (x : List (Int × Int × Int × Int × Int)) (h : f_spec_BlockOk a x = some true) : 0 ≤ a ∧ a ≤ 23 := by
  unfold f_spec_BlockOk at h
  simp only [in_rg, Option.bind_some] at h
  cases hr : rg a 0 23 with
  | false => rw [hr] at h; simp at h
  | true =>
    unfold rg at hr
    simp only [Bool.and_eq_true, decide_eq_true_eq] at hr
    exact hr
theorem same_at (a : Int) (x : List (Int × Int × Int × Int × Int)) (p : Int) (hn : x.length ≤ 1048576) : ∃ r, f_spec_At a x p = some r ∧ f_impl_At a x p = some r := by
  obtain ⟨b, h1, h2⟩ := same_blockOk a x hn
  unfold f_spec_At f_impl_At
  simp only [h1, h2, Option.bind_some, from_rg]
  cases b with
  | false => exact ⟨_, rfl, rfl⟩
  | true =>
    obtain ⟨ha0, ha1⟩ := blockOk_start a x h1
    rw [w64 (show -9223372036854775808 ≤ a + (x.length : Int) by omega) (by omega), w64 (show -9223372036854775808 ≤ a + (x.length : Int) - 1 by omega) (by omega)]
    unfold rg
    by_cases h3 : p < a
    · rw [decide_eq_true h3, decide_eq_false (show ¬ a ≤ p by omega)]; exact ⟨_, rfl, rfl⟩
    · rw [decide_eq_false h3, decide_eq_true (show a ≤ p by omega)]
      by_cases h4 : a + (x.length : Int) ≤ p
      · rw [decide_eq_true h4, decide_eq_false (show ¬ p ≤ a + (x.length : Int) - 1 by omega)]; exact ⟨_, rfl, rfl⟩
      · rw [decide_eq_false h4, decide_eq_true (show p ≤ a + (x.length : Int) - 1 by omega), w64 (show -9223372036854775808 ≤ p - a by omega) (by omega), decide_eq_true (show 0 ≤ p - a by omega), decide_eq_true (show p - a < (x.length : Int) by omega)]
        exact ⟨_, rfl, rfl⟩
theorem all_getD {α : Type} {x : List α} {d : α} {Pr : α → Prop} (h : ∀ i, i < x.length → Pr (x.getD i d)) : ∀ e ∈ x, Pr e := by
  intro e he
  obtain ⟨i, hi, rfl⟩ := List.getElem_of_mem he
  have := h i hi
  rw [List.getD_eq_getElem?_getD, List.getElem?_eq_getElem hi] at this
  exact this
abbrev BlockL := Int × List (Int × Int × Int × Int × Int)
theorem szBlockS (x : List BlockL) (left : Int) (h0 : 0 ≤ left) (h1 : left ≤ 1048576) (hx : x.length ≤ 9223372036854775807) (he : ∀ e ∈ x, e.2.length ≤ 9223372036854775807) :
    f_laws_szBlockS x left = some (-1) ∨ ∃ l, f_laws_szBlockS x left = some l ∧ 0 ≤ l ∧ l ≤ left ∧ x.length ≤ 1048576 ∧ ∀ e ∈ x, e.2.length ≤ 1048576 := by
  unfold f_laws_szBlockS
  rw [w64 (by omega) (by omega)]
  by_cases h : left - (x.length : Int) < 0
  · rw [decide_eq_true h]; exact .inl rfl
  · rw [decide_eq_false h, cond_false]
    have hn : x.length ≤ 1048576 := by omega
    rcases sz_gen (F := f_laws_szBlockS.l0) (s := fun e l => f_laws_szBlock e.1 e.2 l) (Ok := fun e : BlockL => e.2.length ≤ 1048576) (d := (0, [])) (fun n x l q i => rfl) x hn (fun e hm l a0 a1 => by
        rcases szBlock e.1 e.2 l a0 a1 (he e hm) with h2 | ⟨h2, h3⟩
        · exact .inl h2
        · exact .inr ⟨_, h2, by omega, by omega, by omega⟩) 0 x.length N (left - (x.length : Int)) 0 (by omega) (by omega) (by omega) (by omega) (by omega) (lt_N hn) with h2 | ⟨l, h2, b0, b1, b2⟩
    · rw [h2]; exact .inl rfl
    · rw [h2]
      exact .inr ⟨l, rfl, b0, by omega, hn, fun e hm => b2 e (by simpa using hm)⟩
theorem toBlockS (x : List BlockL) (hn : x.length ≤ 1048576) (he : ∀ e ∈ x, e.2.length ≤ 1048576) : f_laws_toBlockS x = some x := by
  unfold f_laws_toBlockS
  rw [decide_eq_true (by omega), show Nat.ble ((x.length : Int).toNat) 4398046511104 = true from Nat.ble_eq_true_of_le (by omega)]
  simp only [Bool.and_self, cond_true]
  rw [to_gen (F := f_laws_toBlockS.l0) (g := fun e => f_laws_toBlock e.1 e.2) (d := (0, [])) (fun n x i y => rfl) x hn (fun e hm => toBlock_self _ _ (he e hm)) x.length N _ 0 (by omega) (by omega) (by omega) (lt_N hn) (by simp) (by simp)]
  rfl
theorem eqBlockS (x : List BlockL) (hn : x.length ≤ 1048576) (he : ∀ e ∈ x, e.2.length ≤ 1048576) : f_laws_eqBlockS x x = some true := by
  unfold f_laws_eqBlockS
  simp only [decide_true, Bool.not_true, cond_false]
  rw [eq_gen (F := f_laws_eqBlockS.l0) (q := fun e f => f_laws_eqBlock e.1 e.2 f.1 f.2) (d := (0, [])) (fun n x y b i => rfl) x hn (fun e hm => eqBlock_self _ _ (he e hm)) false x.length N 0 (by omega) (by omega) (by omega) (lt_N hn)]
  rfl
theorem find_loop (x : List BlockL) (p : Int) (hn : x.length ≤ 1048576) (he : ∀ e ∈ x, e.2.length ≤ 1048576) (c : Bool) (q0 q1 q2 q3 q4 : Int) (k : Nat) : ∀ (n : Nat) (i : Int), 0 ≤ i → i ≤ x.length → (x.length : Int) - i = k → k < n →
    ∃ r, f_spec_CacheFind.l0 n x p c i q0 q1 q2 q3 q4 = some r ∧ f_impl_CacheFind.l0 n p c x (x.length : Int) i q0 q1 q2 q3 q4 = some r := by
  induction k with
  | zero =>
    intro n i h0 h1 hd hk
    obtain ⟨n, rfl⟩ := succ_fuel hk
    simp only [f_spec_CacheFind.l0, f_impl_CacheFind.l0]
    rw [decide_eq_false (show ¬ i < (x.length : Int) by omega)]
    exact ⟨_, rfl, rfl⟩
  | succ k ih =>
    intro n i h0 h1 hd hk
    obtain ⟨n, rfl⟩ := succ_fuel hk
    have hw : IntKind.wrap .i64 (i + 1) = i + 1 := w64 (by omega) (by omega)
    simp only [f_spec_CacheFind.l0, f_impl_CacheFind.l0]
    rw [decide_eq_true (show i < (x.length : Int) by omega), decide_eq_true h0, hw]
    obtain ⟨r, h2, h3⟩ := same_at (x.getD i.toNat (0, [])).1 (x.getD i.toNat (0, [])).2 p (he _ (mem_getD x (0, []) i h0 (by omega)))
    simp only [cond_true, Bool.and_self, h2, h3, Option.bind_some]
    cases r.2.2.2.2.2 with
    | true => exact ⟨_, rfl, rfl⟩
    | false => exact ih n (i + 1) (by omega) (by omega) (by omega) (by omega)
theorem cacheFind (x : List BlockL) (p : Int) (hx : x.length ≤ 9223372036854775807) (he : ∀ e ∈ x, e.2.length ≤ 9223372036854775807) : f_laws_FnExactCacheFind x p = some true := by
  unfold f_laws_FnExactCacheFind
  rcases szBlockS x 1048576 (by omega) (by omega) hx he with h | ⟨l, h, l0, l1, hn, hb⟩
  · simp only [h, Option.bind_some]; rfl
  · have hs : ∃ r, f_spec_CacheFind x p = some r ∧ f_impl_CacheFind x p = some r := by
      obtain ⟨r, h1, h2⟩ := find_loop x p hn hb false 0 0 0 0 0 x.length N 0 (by omega) (by omega) (by omega) (lt_N hn)
      unfold f_spec_CacheFind f_impl_CacheFind
      rw [h1, h2]
      cases r <;> exact ⟨_, rfl, rfl⟩
    obtain ⟨r, h1, h2⟩ := hs
    simp only [h, cond_false, Option.bind_some, decide_eq_false (show ¬ l < 0 by omega), toBlockS x hn hb, h1, h2, eqBlockS x hn hb, eqIns_self, beq_self_eq_true, Bool.not_true]
theorem plain : Pure := fun x h => cacheFind x.1 x.2 h.1.1 (all_getD (d := (0, [])) fun i hi => (h.1.2 i hi).2.1)
end Go.Abs
