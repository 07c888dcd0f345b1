/- The law FnExactPutNum returns true for every number: the program's PutNum gives the reference's bytes, in a row of its own. The number is one of an int. -/
import Derived.Test.YtekpagfagciflaaPFnExactPutNumx1
namespace Go.Proofs.Ytekpagfagciflaa.Pure
open Go.RowKit Go.Proofs.Ytekpagfagciflaa.PFnExactPutNum Go.Proofs.YtekpagfagciflaaW.PrintWords Go.Proofs.YtekpagfagciflaaW.PrintLast

theorem put_eq (x : List Int) (hn : x.length ≤ 1000) (d : Nat) : ∀ (k : Nat) (i : Int), 0 ≤ i → i ≤ x.length → (x.length : Int) - i = d → d < k → laws_eqByteS.l0 k x x i = some true := by
  induction d with
  | zero =>
    intro k i h0 h1 hd hk
    obtain ⟨k, rfl⟩ : ∃ m, k = m + 1 := ⟨k - 1, by omega⟩
    simp only [laws_eqByteS.l0]
    rw [if_neg (by omega)]
  | succ d ih =>
    intro k i h0 h1 hd hk
    obtain ⟨k, rfl⟩ : ∃ m, k = m + 1 := ⟨k - 1, by omega⟩
    have hw : wrap64 (i + 1) = i + 1 := by unfold wrap64; omega
    simp only [laws_eqByteS.l0]
    rw [if_pos (by omega), if_pos h0, if_pos (by omega)]
    simp only [if_true]
    rw [hw]
    exact ih k (i + 1) (by omega) (by omega) (by omega) (by omega)

theorem rd_set_eq (x : List Int) (i : Int) (v : Int) (h0 : 0 ≤ i) (h1 : i < x.length) : rd (x.set i.toNat v) i = v := by
  unfold rd
  rw [List.getD_eq_getElem?_getD, List.getElem?_set_self (by omega)]
  rfl
theorem rd_set_ne (x : List Int) (i j : Int) (v : Int) (h0 : 0 ≤ i) (hj : 0 ≤ j) (hne : j ≠ i) : rd (x.set i.toNat v) j = rd x j := by
  unfold rd
  rw [List.getD_eq_getElem?_getD, List.getElem?_set_ne (by omega), ← List.getD_eq_getElem?_getD]

theorem put_mark (d : Nat) : ∀ (k : Nat) (x : List Int) (n i : Int), x.length ≤ 1000 → 0 ≤ n → n ≤ 1000000 - d → 0 ≤ i → i ≤ x.length → (x.length : Int) - i = d → d < k →
    ∃ y, laws_markByteS.l0 k x n i = some (n + d, y) ∧ y.length = x.length ∧ (∀ j : Int, 0 ≤ j → j < i → rd y j = rd x j) ∧ ∀ j : Int, i ≤ j → j < x.length → rd y j = (n + (j - i)) % 256 := by
  induction d with
  | zero =>
    intro k x n i hn h0 h1 hi0 hi1 hd hk
    obtain ⟨k, rfl⟩ : ∃ m, k = m + 1 := ⟨k - 1, by omega⟩
    refine ⟨x, ?_, rfl, fun _ _ _ => rfl, fun j h1 h2 => by omega⟩
    simp only [laws_markByteS.l0]
    rw [if_neg (by omega)]
    simp
  | succ d ih =>
    intro k x n i hn h0 h1 hi0 hi1 hd hk
    obtain ⟨k, rfl⟩ : ∃ m, k = m + 1 := ⟨k - 1, by omega⟩
    have hw : wrap64 (i + 1) = i + 1 := by unfold wrap64; omega
    have hw2 : wrap64 (n + 1) = n + 1 := by unfold wrap64; omega
    have hl : (x.set i.toNat (n % 256)).length = x.length := List.length_set
    obtain ⟨y, hy, hyl, hlow, hhigh⟩ := ih k (x.set i.toNat (n % 256)) (n + 1) (i + 1) (by omega) (by omega) (by omega) (by omega) (by omega) (by omega) (by omega)
    refine ⟨y, ?_, by omega, fun j h1 h2 => ?_, fun j h1 h2 => ?_⟩
    · simp only [laws_markByteS.l0]
      rw [if_pos (by omega), if_pos hi0, hw, hw2, hy]
      congr 2
      omega
    · rw [hlow j h1 (by omega)]
      exact rd_set_ne x i j _ hi0 h1 (by omega)
    · by_cases e : j = i
      · subst e
        rw [hlow j hi0 (by omega), rd_set_eq x j _ hi0 (by omega)]
        congr 1
        omega
      · rw [hhigh j (by omega) (by omega)]
        congr 1
        omega

theorem put_held (d : Nat) : ∀ (k : Nat) (y : List Int) (n i : Int), y.length ≤ 1000 → 0 ≤ n → n ≤ 1000000 - d → 0 ≤ i → i ≤ y.length → (y.length : Int) - i = d → d < k →
    (∀ j : Int, i ≤ j → j < y.length → rd y j = (n + (j - i)) % 256) → laws_heldByteS.l0 k y n i = some (n + d) := by
  induction d with
  | zero =>
    intro k y n i hn h0 h1 hi0 hi1 hd hk hr
    obtain ⟨k, rfl⟩ : ∃ m, k = m + 1 := ⟨k - 1, by omega⟩
    simp only [laws_heldByteS.l0]
    rw [if_neg (by omega)]
    simp
  | succ d ih =>
    intro k y n i hn h0 h1 hi0 hi1 hd hk hr
    obtain ⟨k, rfl⟩ : ∃ m, k = m + 1 := ⟨k - 1, by omega⟩
    have hw : wrap64 (i + 1) = i + 1 := by unfold wrap64; omega
    have hw2 : wrap64 (n + 1) = n + 1 := by unfold wrap64; omega
    have h2 := hr i (by omega) (by omega)
    have h3 : rd y i = n % 256 := by rw [h2]; congr 1; omega
    simp only [laws_heldByteS.l0]
    rw [if_pos (by omega), if_pos hi0, if_pos h3, hw, hw2]
    rw [ih k y (n + 1) (i + 1) hn (by omega) (by omega) (by omega) (by omega) (by omega) (by omega) (fun j h4 h5 => by rw [hr j (by omega) h5]; congr 1; omega)]
    congr 1
    omega

theorem put_same : ∀ (k : Nat) (x : Int) (y : List Int), impl_PutNum.l0 k x y = spec_PutNum.l0 k x y
  | 0, _, _ => rfl
  | k + 1, x, y => by
    simp only [impl_PutNum.l0, spec_PutNum.l0]
    rw [put_same k]

theorem put_ends (n : Nat) : ∀ (k : Nat) (x : Int) (y : List Int), 0 ≤ x → x < 128 ^ (n + 1) → n ≤ 3 → n < k → y.length + n ≤ 100 → ∃ r, spec_PutNum.l0 k x y = some r ∧ r.length ≤ y.length + n + 1 := by
  induction n with
  | zero =>
    intro k x y h0 h1 hn hk hy
    obtain ⟨k, rfl⟩ : ∃ m, k = m + 1 := ⟨k - 1, by omega⟩
    have hx : x < 128 := by simpa using h1
    refine ⟨y ++ [x % 256], ?_, by simp⟩
    simp only [spec_PutNum.l0]
    rw [if_neg (by omega), if_pos (by omega)]
  | succ n ih =>
    intro k x y h0 h1 hn hk hy
    obtain ⟨k, rfl⟩ : ∃ m, k = m + 1 := ⟨k - 1, by omega⟩
    by_cases hx : x > 127
    · have h128 : x < 128 ^ (n + 1) * 128 := by rw [← Int.pow_succ]; exact h1
      have hbig : (128 : Int) ^ (n + 1) ≤ 128 ^ 4 := by
        have : n = 0 ∨ n = 1 ∨ n = 2 := by omega
        rcases this with rfl | rfl | rfl <;> decide
      have hd : Int.tdiv x 128 = x / 128 := Int.tdiv_eq_ediv_of_nonneg h0
      have hdb : 0 ≤ x / 128 ∧ x / 128 < 128 ^ (n + 1) := by omega
      have hw : wrap64 (Int.tdiv x 128) = x / 128 := by
        rw [hd]
        have : (128 : Int) ^ 4 = 268435456 := by decide
        unfold wrap64
        omega
      obtain ⟨r, hr, hrl⟩ := ih k (x / 128) (y ++ [(wrap64 ((Int.tmod x 128) + 128)) % 256]) hdb.1 hdb.2 (by omega) (by omega) (by simp; omega)
      refine ⟨r, ?_, by simp at hrl; omega⟩
      simp only [spec_PutNum.l0]
      rw [if_pos hx, if_pos (by omega), hw]
      exact hr
    · refine ⟨y ++ [x % 256], ?_, by simp⟩
      simp only [spec_PutNum.l0]
      rw [if_neg hx, if_pos (by omega)]

theorem put_row (a0 : Int) : ∃ r : List Int, spec_PutNum.f 200 a0 = some r ∧ impl_PutNum.f 200 a0 = some r ∧ r.length ≤ 100 := by
  unfold spec_PutNum.f impl_PutNum.f spec_l1In.f impl_from.f
  simp only [Option.bind_some]
  by_cases h0 : a0 ≥ 0
  · rw [if_pos h0]
    simp only [Option.bind_some]
    by_cases h1 : a0 ≤ 100000
    · simp only [decide_eq_true h1, if_true]
      have hp : (128 : Int) ^ (2 + 1) = 2097152 := by decide
      obtain ⟨r, hr, hl⟩ := put_ends 2 200 a0 [] h0 (by omega) (by omega) (by omega) (by simp)
      exact ⟨r, hr, by rw [put_same]; exact hr, by simp at hl; omega⟩
    · simp only [decide_eq_false h1]
      exact ⟨[], rfl, rfl, by simp⟩
  · rw [if_neg h0]
    exact ⟨[], rfl, rfl, by simp⟩

theorem FnExactPutNum : laws_FnExactPutNum.Pure := by
  intro a0 h
  refine ⟨200, ?_⟩
  obtain ⟨r, hs, hi, hl⟩ := put_row a0
  have he : laws_eqByteS.f 200 r r = some true := by
    unfold laws_eqByteS.f
    rw [if_pos rfl]
    exact put_eq r (by omega) r.length 200 0 (by omega) (by omega) (by omega) (by omega)
  obtain ⟨y, hy, hyl, _, hyr⟩ := put_mark r.length 200 r 1 0 (by omega) (by omega) (by omega) (by omega) (by omega) (by omega) (by omega)
  have hm : laws_markByteS.f 200 r 1 = some ((1 : Int) + (r.length : Int), y) := hy
  have hh : laws_heldByteS.f 200 y 1 = some ((1 : Int) + (r.length : Int)) := by
    have := put_held r.length 200 y 1 0 (by omega) (by omega) (by omega) (by omega) (by omega) (by omega) (by omega) (fun j h1 h2 => hyr j h1 (by omega))
    exact this
  unfold laws_FnExactPutNum.f
  rw [hs, hi]
  simp only [Option.bind_some, he, hm, hh, if_true]
  rw [if_neg (by omega), if_neg (by omega)]

end Go.Proofs.Ytekpagfagciflaa.Pure
