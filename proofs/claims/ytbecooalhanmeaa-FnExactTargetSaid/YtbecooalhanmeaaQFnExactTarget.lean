/- The law FnExactTarget returns true for every instruction and every row of words: the program's Target gives what the reference's gives, and turns nothing. A row of more than 2^20 words is not asked for. -/
import Derived.Test.YtbecooalhanmeaaMFnExactTarget
import Derived.Laws.BitsLemmas
namespace Go.Abs
open Go.RowKit

theorem w64 {n : Int} (h0 : -9223372036854775808 ≤ n) (h1 : n ≤ 9223372036854775807) : IntKind.wrap .i64 n = n := by
  rw [IntKind.wrap_i64]
  omega
theorem succ_fuel {n d : Nat} (h : d < n) : ∃ m, n = m + 1 := ⟨n - 1, by omega⟩
theorem big : (1048577 : Nat) < N := by decide
def rng (x m : Int) : Bool := decide ((0 : Int) ≤ x) && decide (x ≤ m)
theorem in_rng (x m : Int) : f_spec_l1In x 0 m = some (rng x m) := by
  unfold f_spec_l1In rng
  cases decide ((0 : Int) ≤ x) <;> rfl
theorem from_rng (x m : Int) : f_impl_from x 0 m = some (rng x m) := by
  unfold f_impl_from rng
  cases decide ((0 : Int) ≤ x) <;> rfl
theorem field_eq (x m : Int) (h : Bool) : f_spec_l8Field x m h = some (rng x m && (h || decide (x = 0))) := by
  unfold f_spec_l8Field
  rw [in_rng]
  simp only [Option.bind_some]
  cases rng x m <;> cases h <;> rfl
theorem chain (a b c d : Bool) : (bif a then (bif b then (bif c then some d else some false) else some false) else some false) = some (a && (b && (c && d))) := by
  cases a <;> cases b <;> cases c <;> rfl
/-- What the reference says of an instruction with these letters. -/
theorem spec_ins (x0 x1 x2 x3 x4 m : Int) (h1 h2 h3 h4 : Bool) (hm : f_spec_l8Has x0 = some m) (hin : f_spec_l1In x0 1 10 = some true)
    (b1 : (!(decide (bitI .and .i64 m (1 : Int) = (0 : Int)))) = h1) (b2 : (!(decide (bitI .and .i64 m (2 : Int) = (0 : Int)))) = h2) (b3 : (!(decide (bitI .and .i64 m (4 : Int) = (0 : Int)))) = h3) (b4 : (!(decide (bitI .and .i64 m (8 : Int) = (0 : Int)))) = h4) :
    f_spec_InsOk x0 x1 x2 x3 x4 = some ((rng x1 3 && (h1 || decide (x1 = 0))) && ((rng x2 3 && (h2 || decide (x2 = 0))) && ((rng x3 3 && (h3 || decide (x3 = 0))) && (rng x4 63 && (h4 || decide (x4 = 0)))))) := by
  unfold f_spec_InsOk
  simp only [hm, hin, Option.bind_some, b1, b2, b3, b4, field_eq, cond_true]
  rw [← chain]
theorem impl_ins (x0 x1 x2 x3 x4 r a b n : Int) (s : ByteArray) (hf : f_impl_form x0 = some (s, true))
    (hl : f_impl_InsOk.l0 N false s true (s.size : Int) 0 x0 x1 x2 x3 x4 x0 0 0 0 0 = some (false, true, x0, x1, x2, x3, x4, x0, r, a, b, n)) :
    f_impl_InsOk x0 x1 x2 x3 x4 = some ((decide (r = x1) && (decide (a = x2) && (decide (b = x3) && decide (n = x4)))) && (rng x1 3 && (rng x2 3 && (rng x3 3 && rng x4 63)))) := by
  unfold f_impl_InsOk
  simp only [hf, Option.bind_some, hl, cond_true, decide_true, Bool.true_and, from_rng]
  rw [chain]
  cases (decide (r = x1) && (decide (a = x2) && (decide (b = x3) && decide (n = x4)))) <;> rfl
theorem sym (x : Int) : decide ((0 : Int) = x) = decide (x = 0) := by
  by_cases h : x = 0
  · subst h; rfl
  · rw [decide_eq_false h, decide_eq_false (fun e => h e.symm)]
theorem alg : ∀ a b c d e f g h : Bool, ((a && (true || e)) && ((b && (true || f)) && ((c && (true || g)) && (d && (true || h))))) = ((true && (true && (true && true))) && (a && (b && (c && d)))) := by decide

theorem same_ins (x0 x1 x2 x3 x4 : Int) : ∃ b, f_spec_InsOk x0 x1 x2 x3 x4 = some b ∧ f_impl_InsOk x0 x1 x2 x3 x4 = some b := by
  obtain ⟨k, hk⟩ : ∃ k : Nat, N = k + 6 := ⟨1152921504606846970, rfl⟩
  by_cases hin : (1 : Int) ≤ x0 ∧ x0 ≤ 10
  · have hi : f_spec_l1In x0 1 10 = some true := by unfold f_spec_l1In; rw [decide_eq_true hin.1, decide_eq_true hin.2]; rfl
    have : x0 = 1 ∨ x0 = 2 ∨ x0 = 3 ∨ x0 = 4 ∨ x0 = 5 ∨ x0 = 6 ∨ x0 = 7 ∨ x0 = 8 ∨ x0 = 9 ∨ x0 = 10 := by omega
    rcases this with rfl | rfl | rfl | rfl | rfl | rfl | rfl | rfl | rfl | rfl
    · refine ⟨_, spec_ins 1 x1 x2 x3 x4 9 true false false true rfl hi (by decide) (by decide) (by decide) (by decide), ?_⟩
      rw [impl_ins 1 x1 x2 x3 x4 x1 0 0 x4 ⟨#[82, 78]⟩ rfl (by rw [hk]; rfl)]
      simp only [decide_true, sym]
      cases rng x1 3 <;> cases rng x2 3 <;> cases rng x3 3 <;> cases rng x4 63 <;> cases decide (x2 = 0) <;> cases decide (x3 = 0) <;> simp
    · refine ⟨_, spec_ins 2 x1 x2 x3 x4 7 true true true false rfl hi (by decide) (by decide) (by decide) (by decide), ?_⟩
      rw [impl_ins 2 x1 x2 x3 x4 x1 x2 x3 0 ⟨#[82, 65, 66]⟩ rfl (by rw [hk]; rfl)]
      simp only [decide_true, sym]
      cases rng x1 3 <;> cases rng x2 3 <;> cases rng x3 3 <;> cases rng x4 63 <;> cases decide (x4 = 0) <;> simp
    · refine ⟨_, spec_ins 3 x1 x2 x3 x4 11 true true false true rfl hi (by decide) (by decide) (by decide) (by decide), ?_⟩
      rw [impl_ins 3 x1 x2 x3 x4 x1 x2 0 x4 ⟨#[82, 65, 78]⟩ rfl (by rw [hk]; rfl)]
      simp only [decide_true, sym]
      cases rng x1 3 <;> cases rng x2 3 <;> cases rng x3 3 <;> cases rng x4 63 <;> cases decide (x3 = 0) <;> simp
    · refine ⟨_, spec_ins 4 x1 x2 x3 x4 11 true true false true rfl hi (by decide) (by decide) (by decide) (by decide), ?_⟩
      rw [impl_ins 4 x1 x2 x3 x4 x1 x2 0 x4 ⟨#[82, 65, 78]⟩ rfl (by rw [hk]; rfl)]
      simp only [decide_true, sym]
      cases rng x1 3 <;> cases rng x2 3 <;> cases rng x3 3 <;> cases rng x4 63 <;> cases decide (x3 = 0) <;> simp
    · refine ⟨_, spec_ins 5 x1 x2 x3 x4 14 false true true true rfl hi (by decide) (by decide) (by decide) (by decide), ?_⟩
      rw [impl_ins 5 x1 x2 x3 x4 0 x2 x3 x4 ⟨#[65, 66, 78]⟩ rfl (by rw [hk]; rfl)]
      simp only [decide_true, sym]
      cases rng x1 3 <;> cases rng x2 3 <;> cases rng x3 3 <;> cases rng x4 63 <;> cases decide (x1 = 0) <;> simp
    · refine ⟨_, spec_ins 6 x1 x2 x3 x4 15 true true true true rfl hi (by decide) (by decide) (by decide) (by decide), ?_⟩
      rw [impl_ins 6 x1 x2 x3 x4 x1 x2 x3 x4 ⟨#[82, 65, 66, 78]⟩ rfl (by rw [hk]; rfl)]
      simp only [decide_true]
      cases rng x1 3 <;> cases rng x2 3 <;> cases rng x3 3 <;> cases rng x4 63 <;> simp
    · refine ⟨_, spec_ins 7 x1 x2 x3 x4 10 false true false true rfl hi (by decide) (by decide) (by decide) (by decide), ?_⟩
      rw [impl_ins 7 x1 x2 x3 x4 0 x2 0 x4 ⟨#[65, 78]⟩ rfl (by rw [hk]; rfl)]
      simp only [decide_true, sym]
      cases rng x1 3 <;> cases rng x2 3 <;> cases rng x3 3 <;> cases rng x4 63 <;> cases decide (x1 = 0) <;> cases decide (x3 = 0) <;> simp
    · refine ⟨_, spec_ins 8 x1 x2 x3 x4 8 false false false true rfl hi (by decide) (by decide) (by decide) (by decide), ?_⟩
      rw [impl_ins 8 x1 x2 x3 x4 0 0 0 x4 ⟨#[78]⟩ rfl (by rw [hk]; rfl)]
      simp only [decide_true, sym]
      cases rng x1 3 <;> cases rng x2 3 <;> cases rng x3 3 <;> cases rng x4 63 <;> cases decide (x1 = 0) <;> cases decide (x2 = 0) <;> cases decide (x3 = 0) <;> simp
    · refine ⟨_, spec_ins 9 x1 x2 x3 x4 0 false false false false rfl hi (by decide) (by decide) (by decide) (by decide), ?_⟩
      rw [impl_ins 9 x1 x2 x3 x4 0 0 0 0 ⟨#[]⟩ rfl (by rw [hk]; rfl)]
      simp only [sym]
      cases rng x1 3 <;> cases rng x2 3 <;> cases rng x3 3 <;> cases rng x4 63 <;> cases decide (x1 = 0) <;> cases decide (x2 = 0) <;> cases decide (x3 = 0) <;> cases decide (x4 = 0) <;> simp
    · refine ⟨_, spec_ins 10 x1 x2 x3 x4 7 true true true false rfl hi (by decide) (by decide) (by decide) (by decide), ?_⟩
      rw [impl_ins 10 x1 x2 x3 x4 x1 x2 x3 0 ⟨#[82, 65, 66]⟩ rfl (by rw [hk]; rfl)]
      simp only [decide_true, sym]
      cases rng x1 3 <;> cases rng x2 3 <;> cases rng x3 3 <;> cases rng x4 63 <;> cases decide (x4 = 0) <;> simp
  · refine ⟨false, ?_, ?_⟩
    · have hi : f_spec_l1In x0 1 10 = some false := by
        unfold f_spec_l1In
        by_cases h1 : (1 : Int) ≤ x0
        · rw [decide_eq_true h1, decide_eq_false (fun h => hin ⟨h1, h⟩)]; rfl
        · rw [decide_eq_false h1]; rfl
      unfold f_spec_InsOk f_spec_l8Has
      simp only [hi, Option.bind_some, Bool.not_false, cond_true, cond_false]
    · have hf : f_impl_form x0 = some (⟨#[]⟩, false) := by
        unfold f_impl_form
        rw [decide_eq_false (by omega), decide_eq_false (by omega), decide_eq_false (by omega), decide_eq_false (by omega), decide_eq_false (by omega), decide_eq_false (by omega), decide_eq_false (by omega), decide_eq_false (by omega), decide_eq_false (by omega), decide_eq_false (by omega)]
        rfl
      have hl : f_impl_InsOk.l0 N false ⟨#[]⟩ false ((⟨#[]⟩ : ByteArray).size : Int) 0 x0 x1 x2 x3 x4 x0 0 0 0 0 = some (false, false, x0, x1, x2, x3, x4, x0, 0, 0, 0, 0) := by rw [hk]; rfl
      unfold f_impl_InsOk
      simp only [hf, Option.bind_some, hl, cond_false]

theorem toIntS_loop (x : List Int) (hn : x.length ≤ 1048576) (d : Nat) : ∀ (n : Nat) (y : List Int) (i : Int), 0 ≤ i → i ≤ x.length → (x.length : Int) - i = d → d < n → y.length = x.length → y.take i.toNat = x.take i.toNat → f_laws_toIntS.l0 n x i y = some x := by
  induction d with
  | zero =>
    intro n y i h0 h1 hd hk hl ht
    obtain ⟨n, rfl⟩ := succ_fuel hk
    simp only [f_laws_toIntS.l0]
    rw [decide_eq_false (by omega), cond_false]
    rw [List.take_of_length_le (by omega), List.take_of_length_le (by omega)] at ht
    rw [ht]
  | succ d ih =>
    intro n y i h0 h1 hd hk hl ht
    obtain ⟨n, rfl⟩ := succ_fuel hk
    have hw : IntKind.wrap .i64 (i + 1) = i + 1 := w64 (by omega) (by omega)
    have hlt : i.toNat < x.length := by omega
    simp only [f_laws_toIntS.l0]
    rw [decide_eq_true (show i < (x.length : Int) by omega), decide_eq_true h0, decide_eq_true (show i < (y.length : Int) by omega), hw]
    simp only [cond_true, Bool.and_self, Option.bind_some]
    refine ih n _ (i + 1) (by omega) (by omega) (by omega) (by omega) (by rw [List.length_set]; exact hl) ?_
    have e : (i + 1).toNat = i.toNat + 1 := by omega
    rw [e, List.take_add_one, List.take_add_one, List.take_set, List.getElem?_set_self (by omega), List.getElem?_eq_getElem hlt]
    have : x.getD i.toNat 0 = x[i.toNat] := by rw [List.getD_eq_getElem?_getD, List.getElem?_eq_getElem hlt]; rfl
    rw [this, List.set_eq_of_length_le (by rw [List.length_take]; omega), ht]
theorem toIntS (x : List Int) (hn : x.length ≤ 1048576) : f_laws_toIntS x = some x := by
  unfold f_laws_toIntS
  rw [decide_eq_true (by omega), show Nat.ble ((x.length : Int).toNat) 17592186044416 = true from Nat.ble_eq_true_of_le (by omega)]
  simp only [Bool.and_self, cond_true]
  rw [toIntS_loop x hn x.length N _ 0 (by omega) (by omega) (by omega) (Nat.lt_of_le_of_lt (by omega) big) (by simp) (by simp)]
  rfl
theorem eqIntS_loop (x : List Int) (hn : x.length ≤ 1048576) (b : Bool) (d : Nat) : ∀ (n : Nat) (i : Int), 0 ≤ i → i ≤ x.length → (x.length : Int) - i = d → d < n → f_laws_eqIntS.l0 n x x b i = some (.inr b) := by
  induction d with
  | zero =>
    intro n i h0 h1 hd hk
    obtain ⟨n, rfl⟩ := succ_fuel hk
    simp only [f_laws_eqIntS.l0]
    rw [decide_eq_false (by omega), cond_false]
  | succ d ih =>
    intro n i h0 h1 hd hk
    obtain ⟨n, rfl⟩ := succ_fuel hk
    have hw : IntKind.wrap .i64 (i + 1) = i + 1 := w64 (by omega) (by omega)
    simp only [f_laws_eqIntS.l0]
    rw [decide_eq_true (show i < (x.length : Int) by omega), decide_eq_true h0, hw]
    simp only [cond_true, Bool.and_self, decide_true, Bool.not_true, cond_false]
    exact ih n (i + 1) (by omega) (by omega) (by omega) (by omega)
theorem eqIntS (x : List Int) (hn : x.length ≤ 1048576) : f_laws_eqIntS x x = some true := by
  unfold f_laws_eqIntS
  simp only [decide_true, Bool.not_true, cond_false]
  rw [eqIntS_loop x hn false x.length N 0 (by omega) (by omega) (by omega) (Nat.lt_of_le_of_lt (by omega) big)]
  rfl
theorem same_addr (a0 : Int) : f_impl_address a0 = f_spec_l9Address a0 := by
  unfold f_impl_address f_spec_l9Address
  have h1 : -24 < Int.tmod a0 24 := by
    have := Int.tmod_lt_of_pos (-a0) (b := 24) (by omega)
    rw [Int.neg_tmod] at this
    omega
  have h2 : Int.tmod a0 24 < 24 := Int.tmod_lt_of_pos a0 (by omega)
  generalize Int.tmod a0 24 = m at *
  rw [w64 (by omega) (by omega), Int.tmod_eq_emod_of_nonneg (by omega)]
  by_cases hm : m < 0
  · rw [decide_eq_true hm, cond_true]
    congr 1
    omega
  · rw [decide_eq_false hm, cond_false]
    congr 1
    omega
theorem addr_some (a0 : Int) : ∃ r, f_spec_l9Address a0 = some r := by
  unfold f_spec_l9Address
  cases decide (Int.tmod a0 24 < 0) <;> exact ⟨_, rfl⟩
theorem ins_a (x0 x1 x2 x3 x4 : Int) (h : f_spec_InsOk x0 x1 x2 x3 x4 = some true) : rng x2 3 = true := by
  unfold f_spec_InsOk at h
  have hm : ∃ m, f_spec_l8Has x0 = some m := by
    unfold f_spec_l8Has
    by_cases h1 : (1 : Int) ≤ x0 ∧ x0 ≤ 10
    · have : f_spec_l1In x0 1 10 = some true := by unfold f_spec_l1In; rw [decide_eq_true h1.1, decide_eq_true h1.2]; rfl
      simp only [this, Option.bind_some, Bool.not_true, cond_false]
      rw [decide_eq_true (show (0 : Int) ≤ x0 by omega), decide_eq_true (show x0 < (([0, 9, 7, 11, 11, 14, 15, 10, 8, 0, 7] : List Int).length : Int) by show x0 < 11; omega)]
      exact ⟨_, rfl⟩
    · have : f_spec_l1In x0 1 10 = some false := by
        unfold f_spec_l1In
        by_cases h2 : (1 : Int) ≤ x0
        · rw [decide_eq_true h2, decide_eq_false (fun h => h1 ⟨h2, h⟩)]; rfl
        · rw [decide_eq_false h2]; rfl
      simp only [this, Option.bind_some, Bool.not_false, cond_true]
      exact ⟨_, rfl⟩
  obtain ⟨m, hm⟩ := hm
  have hc : ∃ c, f_spec_l1In x0 1 10 = some c := by
    unfold f_spec_l1In
    cases decide ((1 : Int) ≤ x0) <;> exact ⟨_, rfl⟩
  obtain ⟨c, hc⟩ := hc
  simp only [hm, hc, Option.bind_some, field_eq] at h
  cases hr : rng x2 3 with
  | true => rfl
  | false =>
    rw [hr] at h
    cases c with
    | false => simp at h
    | true =>
      simp only [cond_true, Bool.false_and, cond_false] at h
      cases hq : (rng x1 3 && (!decide (bitI .and .i64 m 1 = 0) || decide (x1 = 0))) with
      | false => rw [hq] at h; simp at h
      | true => rw [hq] at h; simp at h
theorem target (x0 x1 x2 x3 x4 : Int) (x5 : List Int) : f_laws_FnExactTarget x0 x1 x2 x3 x4 x5 = some true := by
  unfold f_laws_FnExactTarget
  by_cases hl : (1048576 : Int) < (x5.length : Int)
  · rw [decide_eq_true hl]; rfl
  · rw [decide_eq_false hl, cond_false]
    have hn : x5.length ≤ 1048576 := by omega
    have hs : ∃ r, f_spec_Target x0 x1 x2 x3 x4 x5 = some r ∧ f_impl_Target x0 x1 x2 x3 x4 x5 = some r := by
      obtain ⟨b, h1, h2⟩ := same_ins x0 x1 x2 x3 x4
      unfold f_spec_Target f_impl_Target f_impl_aims
      simp only [h1, h2, Option.bind_some, same_addr]
      cases b with
      | false => exact ⟨_, rfl, rfl⟩
      | true =>
        have hr := ins_a x0 x1 x2 x3 x4 h1
        unfold rng at hr
        simp only [Bool.and_eq_true, decide_eq_true_eq] at hr
        by_cases h4 : (x5.length : Int) = 4
        · rw [decide_eq_true h4, decide_eq_true hr.1, decide_eq_true (show x2 < (x5.length : Int) by omega)]
          obtain ⟨r, hr2⟩ := addr_some (IntKind.wrap .i64 (x5.getD x2.toNat 0 + x4))
          simp only [hr2, Bool.not_true, cond_false, Bool.and_self, cond_true, Option.bind_some]
          by_cases e4 : x0 = 4
          · rw [decide_eq_true e4]; exact ⟨_, rfl, rfl⟩
          · rw [decide_eq_false e4]
            by_cases e5 : x0 = 5
            · rw [decide_eq_true e5]; exact ⟨_, rfl, rfl⟩
            · rw [decide_eq_false e5]
              by_cases e6 : x0 = 6
              · rw [decide_eq_true e6]; exact ⟨_, rfl, rfl⟩
              · rw [decide_eq_false e6]; exact ⟨_, rfl, rfl⟩
        · rw [decide_eq_false h4]
          cases decide (x0 = 4) <;> cases decide (x0 = 5) <;> cases decide (x0 = 6) <;> exact ⟨_, rfl, rfl⟩
    obtain ⟨r, h1, h2⟩ := hs
    unfold f_laws_toIns
    simp only [Option.bind_some, toIntS x5 hn, h1, h2, decide_true, Bool.not_true, cond_false, eqIntS x5 hn]
theorem plain : Pure := fun x _ => target x.1 x.2.1 x.2.2.1 x.2.2.2.1 x.2.2.2.2.1 x.2.2.2.2.2
end Go.Abs
