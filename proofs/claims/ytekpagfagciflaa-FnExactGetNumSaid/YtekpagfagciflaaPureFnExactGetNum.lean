/- The law FnExactGetNum returns true for every row of bytes and every place: the program's GetNum reads what the reference's reads, and turns no byte of the row. A row of more than 2^20 bytes is not asked for. -/
import Derived.Test.YtekpagfagciflaaPFnExactGetNumx2
import Derived.Laws.BitsLemmas
import Derived.Test.YtekpagfagciflaaWSized
namespace Go.Proofs.Ytekpagfagciflaa
/-- The name by which the row's text asks for it. -/
abbrev PrintWords.sized_ints := @Go.Proofs.YtekpagfagciflaaW.PrintWords.sized_ints
end Go.Proofs.Ytekpagfagciflaa
namespace Go.Proofs.Ytekpagfagciflaa.Pure
open Go.RowKit Go.Proofs.Ytekpagfagciflaa.PFnExactGetNum Go.Proofs.YtekpagfagciflaaW.PrintWords Go.Proofs.YtekpagfagciflaaW.PrintLast Go.Proofs.YtekpagfagciflaaW.PrintMore

theorem get_eq (x : List Int) (hn : x.length ≤ 1048576) (d : Nat) : ∀ (k : Nat) (i : Int), 0 ≤ i → i ≤ x.length → (x.length : Int) - i = d → d < k → laws_eqByteS.l0 k x x i = some true := by
  induction d with
  | zero =>
    intro k i h0 h1 hd hk
    obtain ⟨k, rfl⟩ : ∃ m, k = m + 1 := ⟨k - 1, by omega⟩
    simp only [laws_eqByteS.l0]
    rw [if_neg (by omega)]
  | succ d ih =>
    intro k i h0 h1 hd hk
    obtain ⟨k, rfl⟩ : ∃ m, k = m + 1 := ⟨k - 1, by omega⟩
    have hw : wrap64 (i + 1) = i + 1 := by unfold wrap64; omega
    simp only [laws_eqByteS.l0]
    rw [if_pos (by omega), if_pos h0, if_pos (by omega)]
    simp only [if_true]
    rw [hw]
    exact ih k (i + 1) (by omega) (by omega) (by omega) (by omega)

theorem get_copy (x : List Int) (hn : x.length ≤ 1048576) (d : Nat) : ∀ (k : Nat) (y : List Int) (i : Int), 0 ≤ i → i ≤ x.length → (x.length : Int) - i = d → d < k → y.length = x.length → y.take i.toNat = x.take i.toNat → laws_toByteS.l0 k x y i = some x := by
  induction d with
  | zero =>
    intro k y i h0 h1 hd hk hl ht
    obtain ⟨k, rfl⟩ : ∃ m, k = m + 1 := ⟨k - 1, by omega⟩
    simp only [laws_toByteS.l0]
    rw [if_neg (by omega)]
    rw [List.take_of_length_le (by omega), List.take_of_length_le (by omega)] at ht
    rw [ht]
  | succ d ih =>
    intro k y i h0 h1 hd hk hl ht
    obtain ⟨k, rfl⟩ : ∃ m, k = m + 1 := ⟨k - 1, by omega⟩
    have hw : wrap64 (i + 1) = i + 1 := by unfold wrap64; omega
    simp only [laws_toByteS.l0]
    rw [if_pos (by omega), if_pos h0, if_pos (by omega), hw]
    refine ih k _ (i + 1) (by omega) (by omega) (by omega) (by omega) (by rw [List.length_set]; exact hl) ?_
    have e : (i + 1).toNat = i.toNat + 1 := by omega
    have hlt : i.toNat < x.length := by omega
    rw [e, List.take_add_one, List.take_add_one, List.take_set, List.getElem?_set_self (by omega), List.getElem?_eq_getElem hlt]
    have : rd x i = x[i.toNat] := by
      unfold rd
      rw [List.getD_eq_getElem?_getD, List.getElem?_eq_getElem hlt]
      rfl
    rw [this, List.set_eq_of_length_le (by rw [List.length_take]; omega), ht]

theorem copy_f (x : List Int) (hn : x.length ≤ 1048576) (k : Nat) (hk : x.length < k) : laws_toByteS.f k x = some x := by
  unfold laws_toByteS.f
  rw [if_pos (by omega), if_pos (by omega)]
  exact get_copy x hn x.length k _ 0 (by omega) (by omega) (by omega) hk (by simp) (by simp)
theorem eq_f (x : List Int) (hn : x.length ≤ 1048576) (k : Nat) (hk : x.length < k) : laws_eqByteS.f k x x = some true := by
  unfold laws_eqByteS.f
  rw [if_pos rfl]
  exact get_eq x hn x.length k 0 (by omega) (by omega) (by omega) hk

/-- Seven bits more. -/
theorem wraps_i64 (n : Int) (h₀ : 0 ≤ n) (h₁ : n < 2 ^ 30) : IntKind.i64.wrap n = n := by
  rw [IntKind.wrap_i64]
  have : (2 : Int) ^ 30 = 1073741824 := by decide
  omega
theorem or_more (v m : Int) (t : Nat) (ht : t ≤ 2) (h0 : 0 ≤ v) (h1 : v < 2 ^ (7 * t)) (hm0 : 0 ≤ m) (hm : m < 128) : Go.bits .or .i64 v (m * 2 ^ (7 * t)) = v + m * 2 ^ (7 * t) := by
  obtain ⟨a, rfl⟩ := Int.eq_ofNat_of_zero_le h0
  obtain ⟨b, rfl⟩ := Int.eq_ofNat_of_zero_le hm0
  have ha : a < 2 ^ (7 * t) := by exact_mod_cast h1
  have hp : 2 ^ (7 * t) ≤ 2 ^ 14 := Nat.pow_le_pow_right (by omega) (by omega)
  have e14 : 2 ^ 14 = 16384 := by decide
  have e30 : 2 ^ 30 = 1073741824 := by decide
  have hb : b * 2 ^ (7 * t) ≤ 127 * 2 ^ 14 := Nat.mul_le_mul (by omega) hp
  have hc : ((b : Int) * 2 ^ (7 * t)) = ((b * 2 ^ (7 * t) : Nat) : Int) := by simp
  rw [hc, (bits_nat .i64 30 (by decide) wraps_i64 a (b * 2 ^ (7 * t)) (by omega) (by omega)).2, Nat.or_comm, Nat.mul_comm, ← Nat.two_pow_add_eq_or_of_lt ha b]
  omega

theorem shl_more (m : Int) (t : Nat) (ht : t ≤ 2) (hm0 : 0 ≤ m) (hm : m < 128) : shl .i64 m (7 * t) = m * 2 ^ (7 * t) := by
  unfold shl
  have e : min (7 * (t : Int)).toNat IntKind.i64.bits = 7 * t := by
    have : IntKind.i64.bits = 64 := rfl
    omega
  rw [e]
  obtain ⟨b, rfl⟩ := Int.eq_ofNat_of_zero_le hm0
  have hp : 2 ^ (7 * t) ≤ 2 ^ 14 := Nat.pow_le_pow_right (by omega) (by omega)
  have hb : b * 2 ^ (7 * t) ≤ 127 * 2 ^ 14 := Nat.mul_le_mul (by omega) hp
  have e14 : 2 ^ 14 = 16384 := by decide
  have e30 : (2 : Int) ^ 30 = 1073741824 := by decide
  have hc : ((b : Int) * 2 ^ (7 * t)) = ((b * 2 ^ (7 * t) : Nat) : Int) := by simp
  rw [hc]
  exact wraps_i64 _ (by omega) (by omega)

theorem get_round {x : List Int} {a v b P P' : Int} {t k : Nat} (ih : ∀ u : Int, 0 ≤ u → u < P' → ∃ r, impl_GetNum.l0 k x a u (t + 1 : Nat) = some r ∧ spec_GetNum.l0 k x a u (t + 1 : Nat) = some r)
    (hc : a < (x.length : Int) - t) (hc2 : ¬ a ≥ (x.length : Int) - t) (A1 : 0 ≤ a + (t : Int)) (A2 : a + (t : Int) < x.length) (A3 : 0 ≤ 7 * (t : Int)) (hb0 : 0 ≤ b) (hb1 : b < 256) (h0 : 0 ≤ v) (h1 : v < P) (hp0 : P ≤ 16384) (hp1 : 0 < P)
    (hup : ∀ u : Int, u < 128 * P → u < P') (hsl : ∀ m : Int, 0 ≤ m → m < 128 → shl .i64 m (7 * (t : Int)) = m * P) (hor : ∀ m : Int, 0 ≤ m → m < 128 → Go.bits .or .i64 v (m * P) = v + m * P) :
    ∃ r, (if decide (a < (x.length : Int) - t) = true then (if 0 ≤ a + (t : Int) then (if a + (t : Int) < (x.length : Int) then (if 0 ≤ 7 * (t : Int) then (if b ≥ 128 then (impl_GetNum.l0 k x a (wrap64 (v + (shl .i64 (wrap64 (Int.tmod b 128)) (7 * (t : Int))))) ((t + 1 : Nat) : Int)) else (if (wrap64 (v + (shl .i64 (wrap64 (Int.tmod b 128)) (7 * (t : Int))))) > 100000 then (some (0, 0, false)) else (if b = 0 then (if (t : Int) > 0 then (some (0, 0, false)) else (some (wrap64 (v + (shl .i64 (wrap64 (Int.tmod b 128)) (7 * (t : Int)))), a + t + 1, true))) else (some (wrap64 (v + (shl .i64 (wrap64 (Int.tmod b 128)) (7 * (t : Int)))), a + t + 1, true))))) else (none)) else (none)) else (none)) else (some (0, 0, false))) = some r ∧
      (if decide (a ≥ (x.length : Int) - t) = true then (some (0, 0, false)) else (if 0 ≤ a + (t : Int) then (if a + (t : Int) < (x.length : Int) then (if 0 ≤ 7 * (t : Int) then (if (wrap64 b) < 128 then (if (t : Int) > 0 then (if (wrap64 b) = 0 then (some (0, 0, false)) else (if (Go.bits .or .i64 v (shl .i64 (Int.tmod (wrap64 b) 128) (7 * (t : Int)))) > 100000 then (some (0, 0, false)) else (some (Go.bits .or .i64 v (shl .i64 (Int.tmod (wrap64 b) 128) (7 * (t : Int))), a + t + 1, true)))) else (if (Go.bits .or .i64 v (shl .i64 (Int.tmod (wrap64 b) 128) (7 * (t : Int)))) > 100000 then (some (0, 0, false)) else (some (Go.bits .or .i64 v (shl .i64 (Int.tmod (wrap64 b) 128) (7 * (t : Int))), a + t + 1, true)))) else (spec_GetNum.l0 k x a (Go.bits .or .i64 v (shl .i64 (Int.tmod (wrap64 b) 128) (7 * (t : Int)))) ((t + 1 : Nat) : Int))) else (none)) else (none)) else (none))) = some r := by
  have hw4 : wrap64 b = b := by unfold wrap64; omega
  have hm : Int.tmod b 128 = b % 128 := Int.tmod_eq_emod_of_nonneg hb0
  have hm0 : 0 ≤ b % 128 := by omega
  have hm1 : b % 128 < 128 := by omega
  have hw5 : wrap64 (b % 128) = b % 128 := by unfold wrap64; omega
  have hS0 : 0 ≤ (b % 128) * P := Int.mul_nonneg hm0 (by omega)
  have hS1 : (b % 128) * P ≤ 127 * P := Int.mul_le_mul_of_nonneg_right (by omega) (by omega)
  rw [hw4, hm, hw5, hsl _ hm0 hm1, hor _ hm0 hm1]
  clear hsl hor hw5 hm
  generalize (b % 128) * P = S at *
  have hw7 : wrap64 (v + S) = v + S := by unfold wrap64; omega
  rw [hw7]
  simp only [hc, hc2, decide_true, decide_false, if_true, Bool.false_eq_true, if_false, A1, A2, A3]
  have hlt : v + S < 128 * P := by omega
  by_cases h128 : b ≥ 128
  · rw [if_pos h128, if_neg (show ¬ b < 128 by omega)]
    exact ih (v + S) (by omega) (hup _ hlt)
  · rw [if_neg h128, if_pos (show b < 128 by omega)]
    by_cases hbig : v + S > 100000
    · rw [if_pos hbig]
      refine ⟨(0, 0, false), rfl, ?_⟩
      by_cases h5 : (t : Int) > 0
      · rw [if_pos h5]
        by_cases h6 : b = 0
        · rw [if_pos h6]
        · rw [if_neg h6, if_pos hbig]
      · rw [if_neg h5, if_pos hbig]
    · rw [if_neg hbig]
      by_cases h5 : (t : Int) > 0
      · simp only [if_pos h5]
        by_cases h6 : b = 0
        · simp only [if_pos h6]; exact ⟨_, rfl, rfl⟩
        · simp only [if_neg h6, if_neg hbig]; exact ⟨_, rfl, rfl⟩
      · simp only [if_neg h5, if_neg hbig]
        by_cases h6 : b = 0
        · simp only [if_pos h6]; exact ⟨_, rfl, rfl⟩
        · simp only [if_neg h6]; exact ⟨_, rfl, rfl⟩

theorem get_same (x : List Int) (hn : x.length ≤ 1048576) (hx : ∀ y ∈ x, 0 ≤ y ∧ y < 256) (a : Int) (ha : 0 ≤ a) : ∀ (d k t : Nat) (v : Int), t + d = 3 → 2 * d + 1 < k → 0 ≤ v → v < 2 ^ (7 * t) →
    ∃ r, impl_GetNum.l0 k x a v t = some r ∧ spec_GetNum.l0 k x a v t = some r
  | 0, k, t, v, htd, hk, h0, h1 => by
    obtain ⟨k, rfl⟩ : ∃ m, k = m + 2 := ⟨k - 2, by omega⟩
    refine ⟨(0, 0, false), ?_, ?_⟩
    · simp only [impl_GetNum.l0, impl_GetNum.j1]
      rw [if_neg (by omega)]
      simp
    · simp only [spec_GetNum.l0]
      rw [if_neg (by omega)]
  | d + 1, k, t, v, htd, hk, h0, h1 => by
    obtain ⟨k, rfl⟩ : ∃ m, k = m + 2 := ⟨k - 2, by clear h1; omega⟩
    have ht : t ≤ 2 := by clear h1; omega
    have hp : (2 : Int) ^ (7 * t) ≤ 16384 ∧ (0 : Int) < 2 ^ (7 * t) ∧ ∀ u : Int, u < 128 * 2 ^ (7 * t) → u < 2 ^ (7 * (t + 1)) := by
      have : t = 0 ∨ t = 1 ∨ t = 2 := by clear h1; omega
      rcases this with rfl | rfl | rfl <;> exact ⟨by decide, by decide, fun u hu => hu⟩
    obtain ⟨hp0, hp1, hup⟩ := hp
    have hsl := fun m => shl_more m t ht
    have hor := fun m => or_more v m t ht h0 h1
    have ih : ∀ u : Int, 0 ≤ u → u < 2 ^ (7 * (t + 1)) → ∃ r, impl_GetNum.l0 k x a u (t + 1 : Nat) = some r ∧ spec_GetNum.l0 k x a u (t + 1 : Nat) = some r :=
      fun u h h' => get_same x hn hx a ha d k (t + 1) u (by clear h h' h1 hp0 hp1; omega) (by clear h h' h1 hp0 hp1; omega) h h'
    generalize (2 : Int) ^ (7 * t) = P at *
    generalize (2 : Int) ^ (7 * (t + 1)) = P' at *
    have hw1 : wrap64 ((x.length : Int) - t) = (x.length : Int) - t := by unfold wrap64; omega
    simp only [impl_GetNum.l0, impl_GetNum.j1, spec_GetNum.l0, spec_GetNum.j1]
    rw [if_pos (show (t : Int) < 3 by omega), if_pos (show (t : Int) < 3 by omega), if_neg (show ¬ a < 0 by omega), hw1]
    by_cases hc : a < (x.length : Int) - t
    · have hlt : (a + t).toNat < x.length := by clear hw1; omega
      have hc2 : ¬ a ≥ (x.length : Int) - t := by omega
      have A1 : 0 ≤ a + (t : Int) := by omega
      have A2 : a + (t : Int) < x.length := by omega
      have A3 : 0 ≤ 7 * (t : Int) := by omega
      have hw2 : wrap64 (a + t) = a + t := by unfold wrap64; omega
      have hw3 : wrap64 (7 * (t : Int)) = 7 * t := by unfold wrap64; omega
      have hw6 : wrap64 (a + t + 1) = a + t + 1 := by unfold wrap64; omega
      have hw8 : wrap64 ((t : Int) + 1) = ((t + 1 : Nat) : Int) := by unfold wrap64; omega
      have hb : 0 ≤ rd x (a + t) ∧ rd x (a + t) < 256 := by
        have : rd x (a + t) = x[(a + t).toNat] := by
          unfold rd
          rw [List.getD_eq_getElem?_getD, List.getElem?_eq_getElem hlt]
          rfl
        rw [this]
        exact hx _ (List.getElem_mem hlt)
      obtain ⟨hb0, hb1⟩ := hb
      rw [hw2, hw3, hw6, hw8]
      generalize rd x (a + t) = b at *
      exact get_round ih hc hc2 A1 A2 A3 hb0 hb1 h0 h1 hp0 hp1 hup hsl hor
    · have hc2 : a ≥ (x.length : Int) - t := by omega
      simp only [hc, hc2, decide_true, decide_false, if_true, Bool.false_eq_true, if_false]
      exact ⟨_, rfl, rfl⟩

theorem FnExactGetNum : laws_FnExactGetNum.Pure := by
  intro l a hm hb hx ha
  have hx' : ∀ y ∈ l, 0 ≤ y ∧ y < 256 := by
    intro y hy
    have := hx y hy
    simp [Lit.wf, IntKind.min, IntKind.max, IntKind.signed, IntKind.bits] at this
    omega
  obtain ⟨K, hK⟩ : ∃ K : Nat, K = 1048599 := ⟨_, rfl⟩
  refine ⟨K + 1, ?_⟩
  unfold laws_FnExactGetNum.f
  by_cases hn : (l.length : Int) > 1048576
  · rw [if_pos hn]
  · rw [if_neg hn]
    have hl : l.length ≤ 1048576 := by omega
    have hc := copy_f l hl (K + 1) (by omega)
    have hc' := copy_f l hl K (by omega)
    have he := eq_f l hl K (by omega)
    have hr : ∃ r, impl_GetNum.f (K + 1) l a = some r ∧ spec_GetNum.f (K + 1) l a = some r := by
      unfold impl_GetNum.f spec_GetNum.f
      by_cases h0 : a < 0
      · rw [if_pos h0]
        refine ⟨(0, 0, false), rfl, ?_⟩
        obtain ⟨k, rfl⟩ : ∃ m, K = m + 1 := ⟨K - 1, by omega⟩
        simp only [spec_GetNum.l0, spec_GetNum.j1]
        rw [if_pos (by omega), if_pos h0]
        simp
      · rw [if_neg h0]
        exact get_same l hl hx' a (by omega) 3 (K + 1) 0 0 rfl (by omega) (by omega) (by decide)
    obtain ⟨r, hi, hs⟩ := hr
    rw [hc]
    simp only [Option.bind_some]
    rw [hi, hs]
    simp only [Option.bind_some, if_true, bne_self_eq_false]
    simp only [laws_FnExactGetNum.j0]
    rw [hc']
    simp only [Option.bind_some, he, Bool.false_eq_true, if_false, if_true]

end Go.Proofs.Ytekpagfagciflaa.Pure
