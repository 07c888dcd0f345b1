/- The law FnTruth returns true for all codes: what is true of a drawn world, what comes, whether a page is alone and whether the world is sane is answered by the program as by the reference. No condition. -/
import Derived.Test.YtdhjooflkiagaaaGreatQFnTrutha
import Derived.Laws.BitsLemmas
namespace Go.Abs
open Go.RowKit
set_option linter.unusedVariables false
set_option linter.unusedSimpArgs false
/-- The head of a draw: the bytes that it was handed, and a number out of them. -/
theorem draw_new {τ : Type} {F : Nat → List Int → Int → Int → Option τ} {G : List Int → Int → τ}
    (hs : ∀ n x s i, F (n + 1) x s i = bif (decide (i < (x.length : Int))) then bif (decide (i < (4000 : Int))) then bif ((decide ((0 : Int) ≤ i)) && (decide (i < (x.length : Int)))) then
      F n x (bitI .and .i64 (IntKind.wrap .i64 ((IntKind.wrap .i64 ((IntKind.wrap .i64 (s * (131 : Int))) + (IntKind.wrap .i64 ((x.getD i.toNat 0))))) + (7 : Int))) (1073741823 : Int)) (IntKind.wrap .i64 (i + (1 : Int))) else none else some (G x s) else some (G x s))
    (x : List Int) (hn : x.length ≤ 1048576) : ∀ s, ∃ s', F N x s 0 = some (G x s') := by
  have key : ∀ (k n : Nat) (s i : Int), 0 ≤ i → (x.length : Int) - i ≤ k → k < n → ∃ s', F n x s i = some (G x s') := by
    intro k
    induction k with
    | zero =>
      intro n s i h0 h1 hk
      obtain ⟨n, rfl⟩ := succ_fuel hk
      rw [hs, decide_eq_false (by omega)]
      exact ⟨_, rfl⟩
    | succ k ih =>
      intro n s i h0 h1 hk
      obtain ⟨n, rfl⟩ := succ_fuel hk
      rw [hs]
      by_cases h : i < (x.length : Int)
      · rw [decide_eq_true h, decide_eq_true h0, w64 (show -9223372036854775808 ≤ i + 1 by omega) (by omega)]
        cases decide (i < 4000)
        · exact ⟨_, rfl⟩
        · exact ih n _ (i + 1) (by omega) (by omega) (by omega)
      · rw [decide_eq_false h]; exact ⟨_, rfl⟩
  intro s
  exact key x.length N s 0 (Int.le_refl _) (by omega) (Nat.lt_of_le_of_lt hn (Nat.lt_trans (by omega) big))
theorem draw_pick (x : List Int) (hn : x.length ≤ 1048576) (p s : Int) (hp : 0 ≤ p) (l : List Int) (hl : 0 < (l.length : Int)) : ∃ e p' s', f_spec_l1PickInt x p s l = some (e, p', s') ∧ e ∈ l ∧ 0 ≤ p' := by
  unfold f_spec_l1PickInt
  obtain ⟨r, p', s', e, q, r0, r1, -⟩ := draw_below x hn p s (l.length : Int) hp
  rw [e, Option.bind_some]
  have r2 := r1 hl
  have hlt : r.toNat < l.length := by omega
  simp only [decide_eq_true r0, decide_eq_true r2, Bool.and_self, cond_true]
  refine ⟨_, _, _, rfl, ?_, q⟩
  rw [List.getD_eq_getElem?_getD, List.getElem?_eq_getElem hlt]
  exact List.getElem_mem hlt
theorem draw_once (x : List Int) (hn : x.length ≤ 1048576) (p s n : Int) (hp : 0 ≤ p) : ∃ b p' s', f_spec_l1Once x p s n = some (b, p', s') ∧ 0 ≤ p' := by
  unfold f_spec_l1Once
  obtain ⟨r, p', s', e, q, -⟩ := draw_below x hn p s n hp
  rw [e]
  exact ⟨_, _, _, rfl, q⟩
theorem drawList_loop (x : List Int) (hn : x.length ≤ 1048576) : ∀ (k n : Nat) (i p s : Int) (y : List Int), 0 ≤ i → 4 - i = k → k < n → 0 ≤ p → (y.length : Int) = i →
    ∃ p' s' y', f_spec_l1DrawList.l0 n i x p s y = some (x, p', s', y') ∧ 0 ≤ p' ∧ y'.length = 4 := by
  intro k
  induction k with
  | zero =>
    intro n i p s y h0 hk hn' hp hy
    obtain ⟨n, rfl⟩ := succ_fuel hn'
    simp only [f_spec_l1DrawList.l0, decide_eq_false (show ¬ i < 4 by omega), cond_false]
    exact ⟨_, _, _, rfl, hp, by omega⟩
  | succ k ih =>
    intro n i p s y h0 hk hn' hp hy
    obtain ⟨n, rfl⟩ := succ_fuel hn'
    obtain ⟨v, p1, s1, e1, -, q1⟩ := draw_pick x hn p s hp ([0, 1, 5, 300, 65535] : List Int) (by simp)
    simp only [f_spec_l1DrawList.l0, decide_eq_true (show i < 4 by omega), cond_true, e1, Option.bind_some, (blt_iff _ _).2 (show y.length + ([v] : List Int).length < 17592186044416 by simp; omega), w64 (show -9223372036854775808 ≤ i + 1 by omega) (by omega)]
    exact ih n (i + 1) p1 s1 _ (by omega) (by omega) (by omega) q1 (by rw [List.length_append]; simp; omega)
theorem drawList (x : List Int) (hn : x.length ≤ 1048576) (p s : Int) (hp : 0 ≤ p) : ∃ y p' s', f_spec_l1DrawList x p s = some (y, p', s') ∧ 0 ≤ p' ∧ y.length = 4 := by
  unfold f_spec_l1DrawList
  obtain ⟨p2, s2, y, e2, q2, hy⟩ := drawList_loop x hn 4 N 0 p s [] (Int.le_refl _) rfl (Nat.lt_of_lt_of_le (by omega) (Nat.le_of_lt big)) hp rfl
  rw [e2]
  exact ⟨_, _, _, rfl, q2, hy⟩
theorem drawMsgRight (x : List Int) (hn : x.length ≤ 1048576) (p s : Int) (hp : 0 ≤ p) : ∃ a b c y p' s', f_spec_l1DrawRight x p s = some (a, b, c, y, p', s') ∧ 0 ≤ p' ∧ y.length ≤ 4 := by
  unfold f_spec_l1DrawRight
  obtain ⟨r, p1, s1, e1, q1, -⟩ := draw_below x hn p s 7 hp
  obtain ⟨r2, p2, s2, e2, q2, -⟩ := draw_below x hn p1 s1 6 q1
  obtain ⟨b, p3, s3, e3, q3⟩ := draw_once x hn p2 s2 2 q2
  obtain ⟨y4, p4, s4, e4, q4, hy4⟩ := drawList x hn p3 s3 q3
  obtain ⟨y5, p5, s5, e5, q5, hy5⟩ := drawList x hn p2 s2 q2
  rw [e1, Option.bind_some]
  simp only [e2, e3, e4, e5, Option.bind_some]
  cases decide (IntKind.wrap .i64 (1 + r) = 3) <;> cases decide (IntKind.wrap .i64 (1 + r) = 6) <;> cases decide (IntKind.wrap .i64 (1 + r) = 7) <;> simp only [cond_true, cond_false] <;>
    first | exact ⟨_, _, _, _, _, _, rfl, q4, by omega⟩ | exact ⟨_, _, _, _, _, _, rfl, q5, by omega⟩ | exact ⟨_, _, _, _, _, _, rfl, q3, by simp⟩ | exact ⟨_, _, _, _, _, _, rfl, q2, by simp⟩
theorem drawMsg (x : List Int) (hn : x.length ≤ 1048576) (p s : Int) (hp : 0 ≤ p) : ∃ a b c y p' s', f_spec_l1Draw x p s = some (a, b, c, y, p', s') ∧ 0 ≤ p' ∧ y.length ≤ 5 := by
  unfold f_spec_l1Draw
  obtain ⟨a, b, c, y, p1, s1, e1, q1, hy⟩ := drawMsgRight x hn p s hp
  obtain ⟨r2, p2, s2, e2, q2, -⟩ := draw_below x hn p1 s1 12 q1
  obtain ⟨r3, p3, s3, e3, q3, -⟩ := draw_below x hn p2 s2 9 q2
  obtain ⟨r4, p4, s4, e4, -, q4⟩ := draw_pick x hn p2 s2 q2 ([-1, 6] : List Int) (by simp)
  obtain ⟨r5, p5, s5, e5, -, q5⟩ := draw_pick x hn p2 s2 q2 ([-1, 3, 65536] : List Int) (by simp)
  rw [e1, Option.bind_some]
  simp only [e2, e3, e4, e5, Option.bind_some, List.length_singleton, (blt_iff _ _).2 (show y.length + 1 < 17592186044416 by omega), cond_true]
  cases decide (r2 = 0)
  · cases decide (r2 = 1)
    · cases decide (r2 = 2)
      · cases decide (r2 = 3)
        · exact ⟨_, _, _, _, _, _, rfl, q2, by omega⟩
        · exact ⟨_, _, _, _, _, _, rfl, q5, by rw [List.length_append, List.length_singleton]; omega⟩
      · exact ⟨_, _, _, _, _, _, rfl, q2, by omega⟩
    · exact ⟨_, _, _, _, _, _, rfl, q4, by omega⟩
  · exact ⟨_, _, _, _, _, _, rfl, q3, by omega⟩
theorem drawFrameRight (x : List Int) (hn : x.length ≤ 1048576) (p s : Int) (hp : 0 ≤ p) : ∃ a y b p' s', f_spec_l3DrawRight x p s = some (a, y, b, p', s') ∧ 0 ≤ p' ∧ y.length ≤ 4 := by
  unfold f_spec_l3DrawRight
  obtain ⟨r, p1, s1, e1, q1, -⟩ := draw_below x hn p s 3 hp
  obtain ⟨b, p2, s2, e2, q2⟩ := draw_once x hn p1 s1 3 q1
  obtain ⟨y, p3, s3, e3, q3, hy⟩ := drawList x hn p2 s2 q2
  rw [e1, Option.bind_some]
  simp only [e2, e3, Option.bind_some]
  cases decide (r = 0)
  · exact ⟨_, _, _, _, _, rfl, q3, by omega⟩
  · exact ⟨_, _, _, _, _, rfl, q2, by simp⟩
theorem drawFrame (x : List Int) (hn : x.length ≤ 1048576) (p s : Int) (hp : 0 ≤ p) : ∃ a y b p' s', f_spec_l3Draw x p s = some (a, y, b, p', s') ∧ 0 ≤ p' ∧ y.length ≤ 5 := by
  unfold f_spec_l3Draw
  obtain ⟨a, y, b, p1, s1, e1, q1, hy⟩ := drawFrameRight x hn p s hp
  obtain ⟨t, p2, s2, e2, q2, -⟩ := draw_below x hn p1 s1 12 q1
  obtain ⟨u, p3, s3, e3, q3, -⟩ := draw_below x hn p2 s2 5 q2
  rw [e1, Option.bind_some]
  simp only [e2, e3, Option.bind_some, (blt_iff _ _).2 (show y.length + ([3] : List Int).length < 17592186044416 by simp; omega), cond_true]
  cases decide (t = 0)
  · cases decide (t = 1)
    · cases decide (t = 2)
      · exact ⟨_, _, _, _, _, rfl, q2, by omega⟩
      · exact ⟨_, _, _, _, _, rfl, q2, by simp⟩
    · exact ⟨_, _, _, _, _, rfl, q2, by rw [List.length_append]; simp; omega⟩
  · exact ⟨_, _, _, _, _, rfl, q3, by omega⟩
abbrev H8 := List Int × Int × List Bool × Bool × Int × Bool × Int × List (Int × Bool)
def goodH (h : H8) : Prop := homeOkB h.1 h.2.1 h.2.2.1 h.2.2.2.2.1 h.2.2.2.2.2.2.1 h.2.2.2.2.2.2.2 3 = true ∧ SI h.2.1 h.2.2.1 h.2.2.2.1 h.2.2.2.2.1 h.2.2.2.2.2.1 h.2.2.2.2.2.2.1 ∧ HomeS h.1 h.2.2.1 h.2.2.2.2.2.2.2
theorem hear_good (h : H8) (g : goodH h) (src kind : Int) (ws : List Int) (hn : ws.length ≤ 1048576) : ∃ r : HR, f_spec_HomeHear h.1 h.2.1 h.2.2.1 h.2.2.2.1 h.2.2.2.2.1 h.2.2.2.2.2.1 h.2.2.2.2.2.2.1 h.2.2.2.2.2.2.2 3 0 src kind 0 false ws = some r ∧ goodH (r.1, r.2.1, r.2.2.1, r.2.2.2.1, r.2.2.2.2.1, r.2.2.2.2.2.1, r.2.2.2.2.2.2.1, r.2.2.2.2.2.2.2.1) := by
  obtain ⟨r, e, -, h1, h2, -⟩ := same_hear h.1 h.2.1 h.2.2.1 h.2.2.2.1 h.2.2.2.2.1 h.2.2.2.2.2.1 h.2.2.2.2.2.2.1 h.2.2.2.2.2.2.2 3 0 src kind 0 false ws g.2.2 hn
  obtain ⟨h3, h4⟩ := h1 g.1
  exact ⟨r, e, h3, h4 g.2.1, h2⟩
theorem draw4_loop (x : List Int) (hn : x.length ≤ 1048576) (m : Int) (hm : m ≤ 8) : ∀ (k n : Nat) (i p s : Int) (h : H8), 0 ≤ i → m - i ≤ k → k < n → 0 ≤ p → goodH h → ∃ (p' s' : Int) (h' : H8), 0 ≤ p' ∧ goodH h' ∧
    f_spec_l4DrawRight.l0 n m i x p s 0 false 0 false 0 h.2.1 h.2.2.2.1 h.2.2.2.2.1 h.2.2.2.2.2.1 h.2.2.2.2.2.2.1 [] [] [] h.1 h.2.2.1 h.2.2.2.2.2.2.2 = some (x, p', s', 0, false, 0, false, 0, h'.2.1, h'.2.2.2.1, h'.2.2.2.2.1, h'.2.2.2.2.2.1, h'.2.2.2.2.2.2.1, [], [], [], h'.1, h'.2.2.1, h'.2.2.2.2.2.2.2) := by
  intro k
  induction k with
  | zero =>
    intro n i p s h i0 hk hn' hp g
    obtain ⟨n, rfl⟩ := succ_fuel hn'
    refine ⟨p, s, h, hp, g, ?_⟩
    simp only [f_spec_l4DrawRight.l0, decide_eq_false (show ¬ i < m by omega), cond_false]
  | succ k ih =>
    intro n i p s h i0 hk hn' hp g
    obtain ⟨n, rfl⟩ := succ_fuel hn'
    by_cases him : i < m
    · obtain ⟨kd, p1, s1, e1, -, q1⟩ := draw_pick x hn p s hp ([1, 2, 2, 5, 7] : List Int) (by simp)
      obtain ⟨ws, p2, s2, e2, q2, hw⟩ := drawList x hn p1 s1 q1
      obtain ⟨f, p3, s3, e3, q3, -⟩ := draw_below x hn p2 s2 3 q2
      obtain ⟨f', p4, s4, e4, q4, -⟩ := draw_below x hn p1 s1 3 q1
      simp only [f_spec_l4DrawRight.l0, decide_eq_true him, cond_true, e1, Option.bind_some, w64 (show -9223372036854775808 ≤ i + 1 by omega) (by omega)]
      by_cases h7 : kd = 7
      · simp only [decide_eq_true h7, cond_true, e2, e3, Option.bind_some]
        by_cases ho : 0 ≤ h.2.1
        · obtain ⟨r, er, gr⟩ := hear_good h g h.2.1 kd ws (by omega)
          simp only [decide_eq_true ho, cond_true, er, Option.bind_some]
          exact ih n (i + 1) p3 s3 _ (by omega) (by omega) (by omega) q3 gr
        · obtain ⟨r, er, gr⟩ := hear_good h g f kd ws (by omega)
          simp only [decide_eq_false ho, cond_false, er, Option.bind_some]
          exact ih n (i + 1) p3 s3 _ (by omega) (by omega) (by omega) q3 gr
      · obtain ⟨r, er, gr⟩ := hear_good h g f' kd [] (by simp)
        simp only [decide_eq_false h7, cond_false, e4, er, Option.bind_some]
        exact ih n (i + 1) p4 s4 _ (by omega) (by omega) (by omega) q4 gr
    · refine ⟨p, s, h, hp, g, ?_⟩
      simp only [f_spec_l4DrawRight.l0, decide_eq_false him, cond_false]
theorem new_good : goodH (homeNew 3) := by
  refine ⟨by decide, ⟨fun h => absurd h (by decide), fun h => (by cases h), fun _ => rfl⟩, ⟨by decide, by decide, by decide⟩⟩
theorem draw4Right (x : List Int) (hn : x.length ≤ 1048576) (p s : Int) (hp : 0 ≤ p) : ∃ (h : H8) (p' s' : Int), f_spec_l4DrawRight x p s = some (h.1, h.2.1, h.2.2.1, h.2.2.2.1, h.2.2.2.2.1, h.2.2.2.2.2.1, h.2.2.2.2.2.2.1, h.2.2.2.2.2.2.2, p', s') ∧ 0 ≤ p' ∧ goodH h := by
  unfold f_spec_l4DrawRight
  obtain ⟨m, p1, s1, e1, q1, m0, m1, -⟩ := draw_below x hn p s 8 hp
  obtain ⟨p2, s2, h, q2, g, e2⟩ := draw4_loop x hn m (by have := m1 (by omega); omega) 8 N 0 p1 s1 (homeNew 3) (by omega) (by have := m1 (by omega); omega) (Nat.lt_trans (by omega) big) q1 new_good
  simp only [specHomeNew 3 (by omega) (by omega), e1, Option.bind_some, e2]
  exact ⟨h, _, _, rfl, q2, g⟩
theorem draw4_fill (x : List Int) (hn : x.length ≤ 1048576) (own : Int) (busy : Bool) (who : Int) (ex : Bool) (need : Int) (w : List Int) (seen : List Bool) : ∀ (k n : Nat) (p s : Int) (wait : List (Int × Bool)), 14 ≤ wait.length + k → k < n → 0 ≤ p → wait.length ≤ 1000 → ∃ (p' s' : Int) (wait' : List (Int × Bool)), 0 ≤ p' ∧ wait'.length ≤ 2000 ∧
    f_spec_l4Draw.l0 n x p s 0 false 0 false 0 own busy who ex need [] [] [] w seen wait = some (x, p', s', 0, false, 0, false, 0, own, busy, who, ex, need, [], [], [], w, seen, wait') := by
  intro k
  induction k with
  | zero =>
    intro n p s wait hk hn' hp hl
    obtain ⟨n, rfl⟩ := succ_fuel hn'
    obtain ⟨b, p1, s1, e1, q1, b0, b1, -⟩ := draw_below x hn p s 2 hp
    have b2 := b1 (by omega)
    simp only [f_spec_l4Draw.l0, e1, Option.bind_some, w64 (show -9223372036854775808 ≤ 12 + b by omega) (by omega), decide_eq_false (show ¬ (wait.length : Int) < 12 + b by omega), cond_false]
    exact ⟨_, _, _, q1, by omega, rfl⟩
  | succ k ih =>
    intro n p s wait hk hn' hp hl
    obtain ⟨n, rfl⟩ := succ_fuel hn'
    obtain ⟨b, p1, s1, e1, q1, b0, b1, -⟩ := draw_below x hn p s 2 hp
    have b2 := b1 (by omega)
    simp only [f_spec_l4Draw.l0, e1, Option.bind_some, w64 (show -9223372036854775808 ≤ 12 + b by omega) (by omega)]
    by_cases hb : (wait.length : Int) < 12 + b
    · simp only [decide_eq_true hb, cond_true, List.length_singleton, (blt_iff _ _).2 (show wait.length + 1 < 8796093022208 by omega), Option.bind_some]
      exact ih n p1 s1 _ (by rw [List.length_append, List.length_singleton]; omega) (by omega) q1 (by rw [List.length_append, List.length_singleton]; omega)
    · simp only [decide_eq_false hb, cond_false]
      exact ⟨_, _, _, q1, by omega, rfl⟩
def nearH (h : H8) : Prop := NB h.2.1 h.2.2.1 h.2.2.2.1 h.2.2.2.2.2.1 h.2.2.2.2.2.2.1 ∧ HomeS h.1 h.2.2.1 h.2.2.2.2.2.2.2
theorem draw4 (x : List Int) (hn : x.length ≤ 1048576) (p s : Int) (hp : 0 ≤ p) : ∃ (h : H8) (p' s' : Int), f_spec_l4Draw x p s = some (h.1, h.2.1, h.2.2.1, h.2.2.2.1, h.2.2.2.2.1, h.2.2.2.2.2.1, h.2.2.2.2.2.2.1, h.2.2.2.2.2.2.2, p', s') ∧ 0 ≤ p' ∧ nearH h := by
  unfold f_spec_l4Draw
  obtain ⟨h, p1, s1, e1, q1, g1, g2, g3⟩ := draw4Right x hn p s hp
  obtain ⟨a, p2, s2, e2, q2, -⟩ := draw_below x hn p1 s1 15 q1
  obtain ⟨v0, p3, s3, e3, -, q3⟩ := draw_pick x hn p2 s2 q2 ([-2, -1, 2, 3] : List Int) (by simp)
  obtain ⟨v1, p4, s4, e4, -, q4⟩ := draw_pick x hn p2 s2 q2 ([-1, 0, 1, 4] : List Int) (by simp)
  obtain ⟨v3, p5, s5, e5, q5, -⟩ := draw_below x hn p2 s2 5 q2
  have hk := HK_of g1 0 (by omega) (by omega)
  have hsl := hk.sl
  have hql := hk.ql
  have ho1 := hk.o1
  obtain ⟨p6, s6, wt, q6, l6, e6⟩ := draw4_fill x hn h.2.1 h.2.2.2.1 h.2.2.2.2.1 h.2.2.2.2.2.1 h.2.2.2.2.2.2.1 h.1 h.2.2.1 14 N p2 s2 h.2.2.2.2.2.2.2 (by omega) (Nat.lt_trans (by omega) big) q2 (by omega)
  rw [e1, Option.bind_some]
  simp only [e2, e3, e4, e5, e6, Option.bind_some, List.length_singleton, (blt_iff _ _).2 (show h.2.2.1.length + 1 < 140737488355328 by omega), (blt_iff _ _).2 (show h.2.2.2.2.2.2.2.length + 1 < 8796093022208 by omega), cond_true]
  have near : ∀ (b : Bool) (e : Bool) (m : Int), NB h.2.1 h.2.2.1 b e m := fun b e m _ _ _ ho => g2.a ho _
  cases decide (a = 0) with
  | true =>
    refine ⟨(h.1, v0, h.2.2.1, h.2.2.2.1, h.2.2.2.2.1, h.2.2.2.2.2.1, h.2.2.2.2.2.2.1, h.2.2.2.2.2.2.2), _, _, rfl, q3, fun hb hz hx hv => ?_, g3⟩
    rcases g2.b hb with ⟨h0, _⟩ | ⟨_, h0, _⟩
    · exact g2.a h0 _
    · have hz : h.2.2.2.2.2.2.1 = 0 := hz
      omega
  | false =>
    cases decide (a = 1) with
    | true => exact ⟨(h.1, h.2.1, h.2.2.1, h.2.2.2.1, h.2.2.2.2.1, h.2.2.2.2.2.1, v1, h.2.2.2.2.2.2.2), _, _, rfl, q4, near _ _ _, g3⟩
    | false =>
      cases decide (a = 2) with
      | true =>
        refine ⟨(h.1, h.2.1, h.2.2.1 ++ [true], h.2.2.2.1, h.2.2.2.2.1, h.2.2.2.2.2.1, h.2.2.2.2.2.2.1, h.2.2.2.2.2.2.2), _, _, rfl, q2, fun hb hz hx ho => ?_, ⟨g3.g0, by show (h.2.2.1 ++ [true]).length ≤ _; simp; omega, g3.g7⟩⟩
        have ho : 0 ≤ h.2.1 := ho
        show (h.2.2.1 ++ [true]).getD h.2.1.toNat false = false
        rw [List.getD_eq_getElem?_getD, List.getElem?_append_left (by omega), ← List.getD_eq_getElem?_getD]
        exact g2.a ho _
      | false =>
        cases decide (a = 3) with
        | true => exact ⟨(h.1, h.2.1, h.2.2.1, h.2.2.2.1, h.2.2.2.2.1, h.2.2.2.2.2.1, h.2.2.2.2.2.2.1, h.2.2.2.2.2.2.2 ++ [(v3, false)]), _, _, rfl, q5, near _ _ _, ⟨g3.g0, g3.g2, by show (h.2.2.2.2.2.2.2 ++ [(v3, false)]).length ≤ _; simp; omega⟩⟩
        | false =>
          cases decide (a = 4) with
          | true => exact ⟨(h.1, h.2.1, h.2.2.1, !h.2.2.2.1, h.2.2.2.2.1, h.2.2.2.2.2.1, h.2.2.2.2.2.2.1, h.2.2.2.2.2.2.2), _, _, rfl, q2, near _ _ _, g3⟩
          | false =>
            cases decide (a = 5) with
            | true => exact ⟨(h.1, h.2.1, h.2.2.1, h.2.2.2.1, h.2.2.2.2.1, h.2.2.2.2.2.1, h.2.2.2.2.2.2.1, wt), _, _, rfl, q6, near _ _ _, ⟨g3.g0, g3.g2, by show wt.length ≤ _; omega⟩⟩
            | false => exact ⟨h, _, _, rfl, q2, near _ _ _, g3⟩
def ackedB (a : Int) (x : List MsgL) (b : Bool) (n : Int) : Int × List MsgL := if b = true ∧ a < n ∧ n ≤ a + (x.length : Int) then (n, x.drop (n - a).toNat) else (a, x)
theorem take_drop_all {α : Type} (x : List α) (k : Int) (h : 0 ≤ k) : (x.drop k.toNat).take ((x.length : Int) - k).toNat = x.drop k.toNat := by
  rw [List.take_of_length_le]
  rw [List.length_drop]
  omega
theorem specAcked (a : Int) (x : List MsgL) (n : Int) (hn : x.length ≤ 1048576) (he : ∀ e ∈ x, e.2.2.2.length ≤ 1048576) (b : Bool) (h1 : f_spec_SenderOk a x = some b) : f_spec_Acked a x n = some (ackedB a x b n) := by
  unfold f_spec_Acked
  simp only [specSenderCopy a x hn he, h1, Option.bind_some]
  unfold ackedB
  cases b with
  | false => rw [if_neg (fun h => by cases h.1)]; rfl
  | true =>
    obtain ⟨f0, f1, f2, f3, -⟩ := senderOk_facts a x hn he h1
    simp only [Bool.not_true, cond_false, w64 (show -9223372036854775808 ≤ a + (x.length : Int) by omega) (by omega)]
    by_cases g1 : n ≤ a
    · rw [decide_eq_true g1, if_neg (fun h => by omega)]; rfl
    · rw [decide_eq_false g1, cond_false]
      by_cases g2 : a + (x.length : Int) < n
      · rw [decide_eq_true g2, if_neg (fun h => by omega)]; rfl
      · rw [decide_eq_false g2, if_pos ⟨trivial, by omega, by omega⟩, w64 (show -9223372036854775808 ≤ n - a by omega) (by omega), decide_eq_true (show 0 ≤ n - a by omega), decide_eq_true (show n - a ≤ (x.length : Int) by omega), take_drop_all x (n - a) (by omega)]
        simp only [List.length_nil, Nat.zero_add, cond_false, cond_true, Bool.and_self, List.nil_append, (blt_iff _ _).2 (show (x.drop (n - a).toNat).length < 2932031007402 by rw [List.length_drop]; omega)]
def arrB (a q : Int) : Int × Bool := if q = a ∧ 0 ≤ a ∧ a ≤ 99999 then (a + 1, true) else (a, false)
theorem specArrived (a q : Int) : f_spec_Arrived a q = some (arrB a q) := by
  unfold f_spec_Arrived arrB
  simp only [in_rg, Option.bind_some]
  unfold rg
  by_cases h : q = a
  · rw [decide_eq_true h]
    by_cases h0 : 0 ≤ a
    · by_cases h1 : a ≤ 99999
      · rw [decide_eq_true h0, decide_eq_true h1, if_pos ⟨h, h0, h1⟩, w64 (by omega) (by omega)]; rfl
      · rw [decide_eq_false h1, Bool.and_false, if_neg (fun h => h1 h.2.2)]; rfl
    · rw [decide_eq_false h0, if_neg (fun h => h0 h.2.1)]; rfl
  · rw [decide_eq_false h, if_neg (fun h' => h h'.1)]; rfl
theorem sameInts_loop (x : List Int) (hn : x.length ≤ 1048576) (b : Bool) (d : Nat) : ∀ (n : Nat) (i : Int), 0 ≤ i → i ≤ x.length → (x.length : Int) - i = d → d < n → f_laws_sameInts.l0 n x x b i = some (.inr b) := by
  induction d with
  | zero =>
    intro n i h0 h1 hd hk
    obtain ⟨n, rfl⟩ := succ_fuel hk
    simp only [f_laws_sameInts.l0]
    rw [decide_eq_false (by omega), cond_false]
  | succ d ih =>
    intro n i h0 h1 hd hk
    obtain ⟨n, rfl⟩ := succ_fuel hk
    have hw : IntKind.wrap .i64 (i + 1) = i + 1 := w64 (by omega) (by omega)
    simp only [f_laws_sameInts.l0]
    rw [decide_eq_true (show i < (x.length : Int) by omega), decide_eq_true h0, hw]
    simp only [cond_true, Bool.and_self, decide_true, Bool.not_true, cond_false]
    exact ih n (i + 1) (by omega) (by omega) (by omega) (by omega)
theorem sameInts (x : List Int) (hn : x.length ≤ 1048576) : f_laws_sameInts x x = some true := by
  unfold f_laws_sameInts
  simp only [decide_true, Bool.not_true, cond_false]
  rw [sameInts_loop x hn false x.length N 0 (by omega) (by omega) (by omega) (Nat.lt_of_le_of_lt (by omega) big)]
  rfl
/-- What is told goes to the queues of those who are told. -/
noncomputable def qAt (s : List SenderT) (e : ToldT) : Int × List MsgL × Bool := queueB (s.getD e.1.toNat (0, [])).1 (s.getD e.1.toNat (0, [])).2 (tS (s.getD e.1.toNat (0, []))) e.2 true
noncomputable def tellL : List ToldT → List SenderT → List SenderT × Bool
  | [], s => (s, true)
  | e :: t, s => bif (qAt s e).2.2 then tellL t (s.set e.1.toNat ((qAt s e).1, (qAt s e).2.1)) else (s, false)
def gS (c : SenderT) : Prop := okSender c ∧ tS c = true
theorem tS_of (a : Int) (x : List MsgL) (hn : (x.length : Int) ≤ 30) (he : ∀ e ∈ x, e.2.2.2.length ≤ 1048576) (h0 : 0 ≤ a) (h1 : a + (x.length : Int) ≤ 100000) (hall : x.all tM = true) : tS (a, x) = true := by
  unfold tS f_spec_SenderOk
  rw [senderS_loop x (by omega) he false a x.length N 0 (by omega) (by omega) (by omega) (lt_N (by omega))]
  have e : rg a 0 100000 = true := by unfold rg; rw [decide_eq_true h0, decide_eq_true (show a ≤ 100000 by omega)]; rfl
  simp only [Int.toNat_zero, List.drop_zero, in_rg, Option.bind_some, hall, cond_true, cs, e, decide_eq_true hn, w64 (show -9223372036854775808 ≤ a + (x.length : Int) by omega) (by omega), decide_eq_true h1]
  rfl
theorem qAt_eq (s : List SenderT) (e : ToldT) (k : Int) (he : okT k e) (hl : (s.length : Int) = k) (hs : ∀ c ∈ s, gS c) :
    f_spec_Queue (s.getD e.1.toNat (0, [])).1 (s.getD e.1.toNat (0, [])).2 e.2.1 e.2.2.1 e.2.2.2.1 e.2.2.2.2 = some (qAt s e) ∧ f_impl_Queue (s.getD e.1.toNat (0, [])).1 (s.getD e.1.toNat (0, [])).2 e.2.1 e.2.2.1 e.2.2.2.1 e.2.2.2.2 = some (qAt s e) ∧ gS ((qAt s e).1, (qAt s e).2.1) := by
  obtain ⟨a0, a1, a2, a3⟩ := he
  obtain ⟨g1, g2⟩ := hs _ (mem_getD s (0, []) e.1 a0 (by omega))
  have hm : e.2.2.2.2.length ≤ 1048576 := by omega
  obtain ⟨b, ok, h1, -, h3, -, h5, h6⟩ := same_queue (s.getD e.1.toNat (0, [])).1 (s.getD e.1.toNat (0, [])).2 e.2.1 e.2.2.1 e.2.2.2.1 e.2.2.2.2 g1.1 g1.2 hm
  rw [a3] at h3
  rw [(tS_eq _ g1).1] at h1
  obtain rfl := Option.some.inj h1
  obtain rfl := Option.some.inj h3
  refine ⟨h5, h6, ?_⟩
  obtain ⟨f0, f1, f2, f3, f4⟩ := senderOk_facts _ _ g1.1 g1.2 (by rw [(tS_eq _ g1).1, g2])
  unfold qAt queueB
  split
  · rename_i hq
    obtain ⟨-, -, q1, q2⟩ := hq
    have he : ∀ f ∈ (s.getD e.1.toNat (0, [])).2 ++ [e.2], f.2.2.2.length ≤ 1048576 := fun f hf => by
      rcases List.mem_append.1 hf with hf | hf
      · exact g1.2 f hf
      · rw [List.mem_singleton.1 hf]; exact hm
    refine ⟨⟨by simp only [List.length_append, List.length_singleton]; omega, he⟩, tS_of _ _ (by simp only [List.length_append, List.length_singleton]; omega) he f0 (by simp only [List.length_append, List.length_singleton]; omega) ?_⟩
    rw [List.all_append, f4]
    simp only [List.all_cons, List.all_nil, Bool.and_true, Bool.true_and]
    unfold tM
    rw [a3]
    rfl
  · exact ⟨g1, g2⟩
theorem tell_eq (x0 : Int) (x1 : List FrameT) (x2 : List HomeT) (x4 : List Int) (k : Int) (t : List ToldT) (ht : t.length ≤ 1048576) (hk : ∀ e ∈ t, okT k e) : ∀ (r n : Nat) (i : Int) (s : List SenderT), 0 ≤ i → i ≤ t.length → (t.length : Int) - i = r → r < n → (s.length : Int) = k → (∀ c ∈ s, gS c) →
    ((tellL (t.drop i.toNat) s).1.length : Int) = k ∧ (∀ c ∈ (tellL (t.drop i.toNat) s).1, gS c) ∧
    f_spec_l5Told.l0 n t false i x0 0 x1 x2 s x4 [] [] [] [] = some (bif (tellL (t.drop i.toNat) s).2 then .inr (false, x0, 0, x1, x2, (tellL (t.drop i.toNat) s).1, x4, [], [], [], []) else .inl (false, x0, x1, x2, (tellL (t.drop i.toNat) s).1, x4)) ∧
    f_impl_Node_toHome.l0 n false (t.length : Int) i x0 t x1 x2 s x4 = some (bif (tellL (t.drop i.toNat) s).2 then .inr (false, x0, x1, x2, (tellL (t.drop i.toNat) s).1, x4) else .inl (false, x0, x1, x2, (tellL (t.drop i.toNat) s).1, x4)) := by
  intro r
  induction r with
  | zero =>
    intro n i s a0 a1 hd hn hl hs
    obtain ⟨n, rfl⟩ := succ_fuel hn
    rw [List.drop_eq_nil_of_le (by omega)]
    simp only [f_spec_l5Told.l0, f_impl_Node_toHome.l0, decide_eq_false (show ¬ i < (t.length : Int) by omega), cond_false, tellL, cond_true]
    exact ⟨hl, hs, trivial, trivial⟩
  | succ r ih =>
    intro n i s a0 a1 hd hn hl hs
    obtain ⟨n, rfl⟩ := succ_fuel hn
    have ok := hk _ (mem_getD t (0, 0, 0, false, []) i a0 (by omega))
    rw [drop_getD t (0, 0, 0, false, []) i a0 (by omega)]
    obtain ⟨q1, q2, q3⟩ := qAt_eq s _ k ok hl hs
    obtain ⟨o0, o1, -, -⟩ := ok
    simp only [f_spec_l5Told.l0, f_impl_Node_toHome.l0, decide_eq_true (show i < (t.length : Int) by omega), decide_eq_true a0, decide_eq_true o0, decide_eq_true (show (t.getD i.toNat (0, 0, 0, false, [])).1 < (s.length : Int) by omega), cond_true, Bool.and_self, q1, q2, Option.bind_some, tellL, w64 (show -9223372036854775808 ≤ i + 1 by omega) (by omega)]
    cases (qAt s (t.getD i.toNat (0, 0, 0, false, []))).2.2 with
    | false => exact ⟨hl, hs, rfl, rfl⟩
    | true =>
      simp only [Bool.not_true, cond_false, cond_true]
      exact ih n (i + 1) _ (by omega) (by omega) (by omega) (by omega) (by rw [List.length_set]; exact hl) (fun c hc => by
        rcases mem_set hc with rfl | hc
        · exact q3
        · exact hs c hc)
theorem told_eq (x0 : Int) (x1 : List FrameT) (x2 : List HomeT) (x4 : List Int) (k : Int) (t : List ToldT) (ht : t.length ≤ 1048576) (hk : ∀ e ∈ t, okT k e) (s : List SenderT) (hl : (s.length : Int) = k) (hs : ∀ c ∈ s, gS c) :
    ((tellL t s).1.length : Int) = k ∧ (∀ c ∈ (tellL t s).1, gS c) ∧ f_spec_l5Told x0 x1 x2 s x4 t = some (x0, x1, x2, (tellL t s).1, x4, (tellL t s).2) ∧
    f_impl_Node_toHome.l0 N false (t.length : Int) 0 x0 t x1 x2 s x4 = some (bif (tellL t s).2 then .inr (false, x0, x1, x2, (tellL t s).1, x4) else .inl (false, x0, x1, x2, (tellL t s).1, x4)) := by
  obtain ⟨h1, h2, h3, h4⟩ := tell_eq x0 x1 x2 x4 k t ht hk t.length N 0 s (by omega) (by omega) (by omega) (lt_N ht) hl hs
  rw [Int.toNat_zero, List.drop_zero] at h1 h2 h3 h4
  refine ⟨h1, h2, ?_, h4⟩
  unfold f_spec_l5Told
  rw [h3]
  cases (tellL t s).2 <;> rfl
abbrev NR := Int × List FrameT × List HomeT × List SenderT × List Int × Bool
def nbH (e : HomeT) : Prop := NB e.2.1 e.2.2.1 e.2.2.2.1 e.2.2.2.2.2.1 e.2.2.2.2.2.2.1
def siH (e : HomeT) : Prop := SI e.2.1 e.2.2.1 e.2.2.2.1 e.2.2.2.2.1 e.2.2.2.2.2.1 e.2.2.2.2.2.2.1
theorem si_nb {e : HomeT} (h : siH e) : nbH e := fun _ _ _ ho => h.a ho _
/-- What comes of a node that hears. -/
def HearN (x0 : Int) (x1 : List FrameT) (x2 : List HomeT) (x3 : List SenderT) (x4 : List Int) (k : Int) (f g : Option NR) : Prop :=
  ∃ r : NR, f = some r ∧ ((∀ e ∈ x2, nbH e) → g = some r) ∧ NodeK r.2.1 r.2.2.1 r.2.2.2.1 r.2.2.2.2.1 ∧
    (r.2.2.2.2.2 = true → nodeOkB x0 x1 x2 x3 x4 k = true ∧ NodeFacts (r.1, r.2.1, r.2.2.1, r.2.2.2.1, r.2.2.2.2.1) k x0 ∧ r.2.2.2.2.1 = x4 ∧ ((∀ e ∈ x2, siH e) → ∀ e ∈ r.2.2.1, siH e)) ∧ (r.2.2.2.2.2 = false → r = (x0, x1, x2, x3, x4, false))
theorem hearN_same {x0 : Int} {x1 : List FrameT} {x2 : List HomeT} {x3 : List SenderT} {x4 : List Int} {k : Int} (h : NodeK x1 x2 x3 x4) {f g : Option NR} (hf : f = some (x0, x1, x2, x3, x4, false)) (hg : (∀ e ∈ x2, nbH e) → g = some (x0, x1, x2, x3, x4, false)) : HearN x0 x1 x2 x3 x4 k f g :=
  ⟨_, hf, hg, h, fun h => (by cases h), fun _ => rfl⟩
/-- A node of which the frames, the homes and the queues are right. -/
theorem hearN_new {x0 : Int} {x1 : List FrameT} {x2 : List HomeT} {x3 : List SenderT} {x4 : List Int} {k : Int} (hn : nodeOkB x0 x1 x2 x3 x4 k = true) (h : NodeK x1 x2 x3 x4) (y1 : List FrameT) (y2 : List HomeT) (y3 : List SenderT) (b1 : y1.length = x1.length) (b2 : y2.length = x2.length) (b3 : (y3.length : Int) = k)
    (c1 : ∀ e ∈ y1, okFrame e ∧ tF e = true) (c2 : ∀ e ∈ y2, okHome e ∧ tH k e = true) (c3 : ∀ e ∈ y3, gS e) (c4 : (∀ e ∈ x2, siH e) → ∀ e ∈ y2, siH e) {f g : Option NR} (hf : f = some (x0, y1, y2, y3, x4, true)) (hg : (∀ e ∈ x2, nbH e) → g = some (x0, y1, y2, y3, x4, true)) : HearN x0 x1 x2 x3 x4 k f g := by
  obtain ⟨k0, -, q⟩ := nodeFacts _ _ _ _ _ _ hn
  have l1 : x1.length = 6 := q.l1
  have l2 : x2.length = 6 := q.l2
  exact ⟨_, hf, hg, ⟨by show y1.length ≤ _; omega, by show y2.length ≤ _; omega, by show y3.length ≤ _; omega, h.l4, fun e he => (c1 e he).1, fun e he => (c2 e he).1, fun e he => (c3 e he).1⟩, fun _ => ⟨hn, ⟨rfl, by show y1.length = 6; omega, by show y2.length = 6; omega, b3, q.l4, fun e he => (c1 e he).2, fun e he => (c2 e he).2, fun e he => (c3 e he).2, q.r⟩, rfl, c4⟩, fun h => by cases h⟩
noncomputable def specHomeB (x0 : Int) (x1 : List FrameT) (x2 : List HomeT) (x3 : List SenderT) (x4 : List Int) (x5 x6 x7 x8 : Int) (x9 : Bool) (x10 : List Int) : Option NR :=
  bif ((decide ((0 : Int) ≤ x8)) && (decide (x8 < (x2.length : Int)))) then
  (f_spec_HomeHear ((x2.getD x8.toNat ([], 0, [], false, 0, false, 0, [])).1) ((x2.getD x8.toNat ([], 0, [], false, 0, false, 0, [])).2.1) ((x2.getD x8.toNat ([], 0, [], false, 0, false, 0, [])).2.2.1) ((x2.getD x8.toNat ([], 0, [], false, 0, false, 0, [])).2.2.2.1) ((x2.getD x8.toNat ([], 0, [], false, 0, false, 0, [])).2.2.2.2.1) ((x2.getD x8.toNat ([], 0, [], false, 0, false, 0, [])).2.2.2.2.2.1) ((x2.getD x8.toNat ([], 0, [], false, 0, false, 0, [])).2.2.2.2.2.2.1) ((x2.getD x8.toNat ([], 0, [], false, 0, false, 0, [])).2.2.2.2.2.2.2) x5 x8 x6 x7 x8 x9 x10).bind fun y392 =>
  bif ((decide ((0 : Int) ≤ x8)) && (decide (x8 < (x2.length : Int)))) then
  (some ((x2.set x8.toNat (y392.1, y392.2.1, y392.2.2.1, y392.2.2.2.1, y392.2.2.2.2.1, y392.2.2.2.2.2.1, y392.2.2.2.2.2.2.1, y392.2.2.2.2.2.2.2.1)) : List HomeT)).bind fun z393 =>
  (f_spec_l5Told x0 x1 z393 x3 x4 y392.2.2.2.2.2.2.2.2).bind fun y394 =>
  bif (!y394.2.2.2.2.2) then
    some (x0, x1, x2, x3, x4, false)
  else
    some (y394.1, y394.2.1, y394.2.2.1, y394.2.2.2.1, y394.2.2.2.2.1, true)
  else none
  else none
noncomputable def implHomeB (x0 : Int) (x1 : List FrameT) (x2 : List HomeT) (x3 : List SenderT) (x4 : List Int) (x5 x6 x7 x8 : Int) (x9 : Bool) (x10 : List Int) : Option NR :=
  (f_impl_Node_toHome x0 x1 x2 x3 x4 x5 x6 x7 x8 x9 x10).bind fun y1510 =>
  bif (!y1510.1) then
    some (x0, x1, x2, x3, x4, false)
  else
    some (y1510.2.1, y1510.2.2.1, y1510.2.2.2.1, y1510.2.2.2.2.1, y1510.2.2.2.2.2, true)
theorem same_nodeHome {x0 : Int} {x1 : List FrameT} {x2 : List HomeT} {x3 : List SenderT} {x4 : List Int} {k : Int} (hn : nodeOkB x0 x1 x2 x3 x4 k = true) (h : NodeK x1 x2 x3 x4) (src kind pg : Int) (c : Bool) (ws : List Int) (hw : ws.length ≤ 1048576) (p0 : 0 ≤ pg) (p1 : pg ≤ 5) :
    HearN x0 x1 x2 x3 x4 k (specHomeB x0 x1 x2 x3 x4 k src kind pg c ws) (implHomeB x0 x1 x2 x3 x4 k src kind pg c ws) := by
  obtain ⟨k0, -, q⟩ := nodeFacts _ _ _ _ _ _ hn
  have l2 : x2.length = 6 := q.l2
  have hm := mem_getD x2 ([], 0, [], false, 0, false, 0, []) pg p0 (by omega)
  have hh : okHome (x2.getD pg.toNat ([], 0, [], false, 0, false, 0, [])) := h.e2 _ hm
  have ht : tH k (x2.getD pg.toNat ([], 0, [], false, 0, false, 0, [])) = true := q.h _ hm
  obtain ⟨r, s1, s2, s3, s4, s5, s6, s7⟩ := same_hear _ (x2.getD pg.toNat ([], 0, [], false, 0, false, 0, [])).2.1 _ (x2.getD pg.toNat ([], 0, [], false, 0, false, 0, [])).2.2.2.1 (x2.getD pg.toNat ([], 0, [], false, 0, false, 0, [])).2.2.2.2.1 (x2.getD pg.toNat ([], 0, [], false, 0, false, 0, [])).2.2.2.2.2.1 (x2.getD pg.toNat ([], 0, [], false, 0, false, 0, [])).2.2.2.2.2.2.1 _ k pg src kind pg c ws hh hw
  obtain ⟨s8, s9⟩ := s3 ht
  obtain ⟨t1, t2, t3, t4⟩ := told_eq x0 x1 (x2.set pg.toNat (r.1, r.2.1, r.2.2.1, r.2.2.2.1, r.2.2.2.2.1, r.2.2.2.2.2.1, r.2.2.2.2.2.2.1, r.2.2.2.2.2.2.2.1)) x4 k r.2.2.2.2.2.2.2.2 (by omega) s6 x3 q.l3 (fun e he => ⟨h.e3 e he, q.s e he⟩)
  unfold specHomeB implHomeB f_impl_Node_toHome
  simp only [decide_eq_true p0, decide_eq_true (show pg < (x2.length : Int) by omega), Bool.and_self, cond_true, s1, Option.bind_some, t3]
  cases hb : (tellL r.2.2.2.2.2.2.2.2 x3).2 with
  | false =>
    refine hearN_same h rfl fun nb => ?_
    rw [s2 (nb _ hm)]
    simp only [Option.bind_some, t4, hb, cond_false, cs, Bool.not_false, cond_true]
  | true =>
    refine hearN_new hn h x1 (x2.set pg.toNat (r.1, r.2.1, r.2.2.1, r.2.2.2.1, r.2.2.2.2.1, r.2.2.2.2.2.1, r.2.2.2.2.2.2.1, r.2.2.2.2.2.2.2.1)) _ rfl (by rw [List.length_set]) t1 (fun e he => ⟨h.e1 e he, q.f e he⟩) (fun e he => ?_) t2 (fun hs e he => ?_) rfl fun nb => ?_
    · rcases mem_set he with rfl | he
      · exact ⟨s4, s8⟩
      · exact ⟨h.e2 e he, q.h e he⟩
    · rcases mem_set he with rfl | he
      · exact s9 (hs _ hm)
      · exact hs e he
    · rw [s2 (nb _ hm)]
      simp only [Option.bind_some, t4, hb, cond_true, cs, Bool.not_true, cond_false]
/-- A right frame that hears a right message. -/
theorem frame_good {e : FrameT} (hk : okFrame e) (ht : tF e = true) (kind pg : Int) (c : Bool) (ws : List Int) (hw : ws.length ≤ 1048576) (hm : f_spec_MsgOk kind pg c ws = some true) : ∃ r, f_spec_FrameHear e.1 e.2.1 e.2.2 kind pg c ws = some r ∧ f_impl_FrameHear e.1 e.2.1 e.2.2 kind pg c ws = some r ∧ okFrame (r.1, r.2.1, r.2.2.1) ∧ tF (r.1, r.2.1, r.2.2.1) = true ∧
    (r.2.2.2.2.2.2.2 = true → r.2.2.2.2.2.2.1.length ≤ 4 ∧ f_spec_MsgOk r.2.2.2.1 r.2.2.2.2.1 r.2.2.2.2.2.1 r.2.2.2.2.2.2.1 = some true) := by
  obtain ⟨m1, m2, m3, m4, m5, m6⟩ := msgOk_facts _ _ _ _ hw hm
  obtain ⟨e1, e2⟩ := tF_eq e hk
  obtain ⟨b, f1, f2⟩ := same_msgOk kind pg c ws hw
  rw [hm] at f1
  obtain rfl := Option.some.inj f1
  have hk' : e.2.1.length ≤ 1048576 := hk
  have t0 : ∀ b : Bool, tF (0, [], b) = true := fun b => rfl
  have t1 : ∀ (s : Int) (w : List Int) (b : Bool), s = 1 ∨ s = 2 → w.length = 4 → allW w = true → tF (s, w, b) = true := fun s w b hs hl hw => by
    unfold tF f_spec_FrameOk
    have hr : rng s 2 = true := by unfold rng; rw [decide_eq_true (show 0 ≤ s by omega), decide_eq_true (show s ≤ 2 by omega)]; rfl
    simp only [decide_eq_false (show ¬ s = 0 by omega), cond_false, in_rng, hr, Option.bind_some, cond_true, specWords w (by omega), hw, hl]
    rfl
  unfold f_spec_FrameHear f_impl_FrameHear f_spec_l3Copy f_impl_copyFrame f_slices_Clone_int_int f_spec_l1Bit
  simp only [List.length_nil, Nat.zero_add, (blt_iff _ _).2 (show e.2.1.length < 17592186044416 by omega), (blt_iff _ _).2 (show ws.length < 17592186044416 by omega), cond_true, List.nil_append, Option.bind_some, e1, e2, ht, hm, f2, Bool.not_true, cond_false]
  by_cases k3 : kind = 3
  · subst k3
    rw [if_pos (.inl rfl)] at m6
    simp only [decide_true, cond_true]
    cases c with
    | true => exact ⟨(2, ws, false, 0, 0, false, [], false), by simp only [cond_true, Option.bind_some, w64 (show (-9223372036854775808 : Int) ≤ 1 + 1 by omega) (by omega)]; rfl, rfl, hw, t1 2 ws false (.inr rfl) m6 m5, fun h => by cases h⟩
    | false => exact ⟨(1, ws, false, 0, 0, false, [], false), by simp only [cond_true, cond_false, Option.bind_some, w64 (show (-9223372036854775808 : Int) ≤ 1 + 0 by omega) (by omega)]; rfl, rfl, hw, t1 1 ws false (.inl rfl) m6 m5, fun h => by cases h⟩
  · simp only [decide_eq_false k3, cond_false]
    by_cases k4 : kind = 4
    · subst k4
      simp only [decide_true, cond_true]
      have hg : rg pg 0 5 = true := by unfold rg; rw [decide_eq_true m3, decide_eq_true m4]; rfl
      exact ⟨_, rfl, rfl, Nat.zero_le _, t0 _, fun _ => ⟨Nat.zero_le _, by
        unfold f_spec_MsgOk
        simp only [in_rg, hg, specWords [] (by simp), Option.bind_some]
        rfl⟩⟩
    · simp only [decide_eq_false k4, cond_false]
      by_cases k6 : kind = 6
      · subst k6
        simp only [decide_true, cond_true]
        by_cases s2 : e.1 = 2
        · have hl := frame_words e hk ht (by omega)
          have ha : allW e.2.1 = true := by
            have h := e1
            rw [ht] at h
            unfold f_spec_FrameOk at h
            have hr : rng e.1 2 = true := by unfold rng; rw [decide_eq_true (show 0 ≤ e.1 by omega), decide_eq_true (show e.1 ≤ 2 by omega)]; rfl
            simp only [decide_eq_false (show ¬ e.1 = 0 by omega), cond_false, in_rng, hr, Option.bind_some, cond_true, specWords e.2.1 hk', Option.some.injEq, Bool.and_eq_true] at h
            exact h.1
          have hg : rg pg 0 5 = true := by unfold rg; rw [decide_eq_true m3, decide_eq_true m4]; rfl
          have h7 : f_spec_MsgOk 7 pg false e.2.1 = some true := by
            unfold f_spec_MsgOk
            simp only [in_rg, hg, specWords e.2.1 hk', ha, hl, Option.bind_some]
            rfl
          simp only [decide_eq_true s2, Bool.not_true, cond_false, cond_true]
          cases c with
          | true => exact ⟨_, rfl, rfl, Nat.zero_le _, t0 _, fun _ => ⟨by show e.2.1.length ≤ 4; omega, h7⟩⟩
          | false => exact ⟨_, rfl, rfl, hk, t1 1 _ _ (.inl rfl) hl ha, fun _ => ⟨by show e.2.1.length ≤ 4; omega, h7⟩⟩
        · simp only [decide_eq_false s2, Bool.not_false, cond_true, cond_false]
          exact ⟨_, rfl, rfl, hk, ht, fun h => by cases h⟩
      · simp only [decide_eq_false k6, cond_false]
        exact ⟨_, rfl, rfl, hk, ht, fun h => by cases h⟩
theorem msg_one {k pg : Int} {r : Int × List Int × Bool × Int × Int × Bool × List Int × Bool} (j : Int) (j0 : 0 ≤ j) (j1 : j ≤ k - 1) (h1 : r.2.2.2.2.2.2.1.length ≤ 4) (h2 : f_spec_MsgOk r.2.2.2.1 r.2.2.2.2.1 r.2.2.2.2.2.1 r.2.2.2.2.2.2.1 = some true) : ∀ e ∈ ([(j, r.2.2.2.1, r.2.2.2.2.1, r.2.2.2.2.2.1, r.2.2.2.2.2.2.1)] : List ToldT), okT k e := fun e he => by
  rw [List.mem_singleton.1 he]
  exact ⟨j0, j1, h1, h2⟩
noncomputable def specFrameB (x0 : Int) (x1 : List FrameT) (x2 : List HomeT) (x3 : List SenderT) (x4 : List Int) (j x7 x8 : Int) (x9 : Bool) (x10 : List Int) : Option NR :=
  bif ((decide ((0 : Int) ≤ x8)) && (decide (x8 < (x1.length : Int)))) then
  (f_spec_FrameHear ((x1.getD x8.toNat (0, [], false)).1) ((x1.getD x8.toNat (0, [], false)).2.1) ((x1.getD x8.toNat (0, [], false)).2.2) x7 x8 x9 x10).bind fun y416 =>
  bif ((decide ((0 : Int) ≤ x8)) && (decide (x8 < (x1.length : Int)))) then
  (some ((x1.set x8.toNat (y416.1, y416.2.1, y416.2.2.1)) : List FrameT)).bind fun z417 =>
  bif y416.2.2.2.2.2.2.2 then
    (f_spec_l5Told x0 z417 x2 x3 x4 ([(j, y416.2.2.2.1, y416.2.2.2.2.1, y416.2.2.2.2.2.1, y416.2.2.2.2.2.2.1)] : List ToldT)).bind fun y418 =>
    bif (!y418.2.2.2.2.2) then
      some (x0, x1, x2, x3, x4, false)
    else
      some (y418.1, y418.2.1, y418.2.2.1, y418.2.2.2.1, y418.2.2.2.2.1, true)
  else
    (f_spec_l5Told x0 z417 x2 x3 x4 ([] : List ToldT)).bind fun y420 =>
    bif (!y420.2.2.2.2.2) then
      some (x0, x1, x2, x3, x4, false)
    else
      some (y420.1, y420.2.1, y420.2.2.1, y420.2.2.2.1, y420.2.2.2.2.1, true)
  else none
  else none
noncomputable def implFrameB (x0 : Int) (x1 : List FrameT) (x2 : List HomeT) (x3 : List SenderT) (x4 : List Int) (j x7 x8 : Int) (x9 : Bool) (x10 : List Int) : Option NR :=
  (f_impl_Node_toFrame x0 x1 x2 x3 x4 j x7 x8 x9 x10).bind fun y1518 =>
  bif (!y1518.1) then
    some (x0, x1, x2, x3, x4, false)
  else
    some (y1518.2.1, y1518.2.2.1, y1518.2.2.2.1, y1518.2.2.2.2.1, y1518.2.2.2.2.2, true)
theorem same_nodeFrame {x0 : Int} {x1 : List FrameT} {x2 : List HomeT} {x3 : List SenderT} {x4 : List Int} {k : Int} (hn : nodeOkB x0 x1 x2 x3 x4 k = true) (h : NodeK x1 x2 x3 x4) (j kind pg : Int) (c : Bool) (ws : List Int) (hw : ws.length ≤ 1048576) (hm : f_spec_MsgOk kind pg c ws = some true) (p0 : 0 ≤ pg) (p1 : pg ≤ 5) (j0 : 0 ≤ j) (j1 : j ≤ k - 1) :
    HearN x0 x1 x2 x3 x4 k (specFrameB x0 x1 x2 x3 x4 j kind pg c ws) (implFrameB x0 x1 x2 x3 x4 j kind pg c ws) := by
  obtain ⟨k0, -, q⟩ := nodeFacts _ _ _ _ _ _ hn
  have l1 : x1.length = 6 := q.l1
  have l3 : (x3.length : Int) = k := q.l3
  have hm1 := mem_getD x1 (0, [], false) pg p0 (by omega)
  have hs : ∀ e ∈ x3, gS e := fun e he => ⟨h.e3 e he, q.s e he⟩
  obtain ⟨r, s1, s2, s3, s4, s5⟩ := frame_good (h.e1 _ hm1) (q.f _ hm1) kind pg c ws hw hm
  have n1 : ∀ e ∈ x1.set pg.toNat (r.1, r.2.1, r.2.2.1), okFrame e ∧ tF e = true := fun e he => by
    rcases mem_set he with rfl | he
    · exact ⟨s3, s4⟩
    · exact ⟨h.e1 e he, q.f e he⟩
  have n2 : ∀ e ∈ x2, okHome e ∧ tH k e = true := fun e he => ⟨h.e2 e he, q.h e he⟩
  unfold specFrameB implFrameB f_impl_Node_toFrame
  simp only [decide_eq_true p0, decide_eq_true (show pg < (x1.length : Int) by omega), Bool.and_self, cond_true, s1, s2, Option.bind_some]
  cases hb : r.2.2.2.2.2.2.2 with
  | false =>
    obtain ⟨t1, t2, t3, t4⟩ := told_eq x0 (x1.set pg.toNat (r.1, r.2.1, r.2.2.1)) x2 x4 k [] (by simp) (fun e he => by cases he) x3 l3 hs
    simp only [t3, tellL, Bool.not_true, Bool.not_false, cond_false, cond_true, Option.bind_some]
    exact hearN_new hn h _ x2 x3 (by rw [List.length_set]) rfl l3 n1 n2 hs (fun h => h) rfl fun _ => rfl
  | true =>
    obtain ⟨s6, s7⟩ := s5 hb
    have hk := msg_one (k := k) (pg := 0) (r := r) j j0 j1 s6 s7
    obtain ⟨t1, t2, t3, t4⟩ := told_eq x0 (x1.set pg.toNat (r.1, r.2.1, r.2.2.1)) x2 x4 k _ (by simp) hk x3 l3 hs
    obtain ⟨u1, u2, u3⟩ := qAt_eq x3 _ k (hk _ (.head _)) l3 hs
    simp only [t3, u2, Bool.not_true, cond_false, cond_true, Option.bind_some, decide_eq_true j0, decide_eq_true (show j < (x3.length : Int) by omega), Bool.and_self]
    have e1 : tellL [(j, r.2.2.2.1, r.2.2.2.2.1, r.2.2.2.2.2.1, r.2.2.2.2.2.2.1)] x3 = bif (qAt x3 (j, r.2.2.2.1, r.2.2.2.2.1, r.2.2.2.2.2.1, r.2.2.2.2.2.2.1)).2.2 then (x3.set j.toNat ((qAt x3 (j, r.2.2.2.1, r.2.2.2.2.1, r.2.2.2.2.2.1, r.2.2.2.2.2.2.1)).1, (qAt x3 (j, r.2.2.2.1, r.2.2.2.2.1, r.2.2.2.2.2.1, r.2.2.2.2.2.2.1)).2.1), true) else (x3, false) := rfl
    rw [e1] at t1 t2 ⊢
    cases hq : (qAt x3 (j, r.2.2.2.1, r.2.2.2.2.1, r.2.2.2.2.2.1, r.2.2.2.2.2.2.1)).2.2 with
    | false => exact hearN_same h rfl fun _ => rfl
    | true =>
      rw [hq] at t1 t2
      exact hearN_new hn h _ x2 _ (by rw [List.length_set]) rfl t1 n1 n2 t2 (fun h => h) rfl fun _ => rfl
theorem same_nodeHear (x0 : Int) (x1 : List FrameT) (x2 : List HomeT) (x3 : List SenderT) (x4 : List Int) (k src kind pg : Int) (c : Bool) (ws : List Int) (h : NodeK x1 x2 x3 x4) (hw : ws.length ≤ 1048576) :
    HearN x0 x1 x2 x3 x4 k (f_spec_NodeHear x0 x1 x2 x3 x4 k src kind pg c ws) (f_impl_NodeHear x0 x1 x2 x3 x4 k src kind pg c ws) := by
  obtain ⟨b, m1, m2⟩ := same_msgOk kind pg c ws hw
  unfold f_spec_NodeHear f_impl_NodeHear
  simp only [specNodeCopy x0 x1 x2 x3 x4 h, implNodeCopy x0 x1 x2 x3 x4 h, specNodeOk x0 x1 x2 x3 x4 k h, implNodeOk x0 x1 x2 x3 x4 k h, m1, m2, in_rng2, Option.bind_some]
  cases hn : nodeOkB x0 x1 x2 x3 x4 k with
  | false => exact hearN_same h rfl fun _ => rfl
  | true =>
    cases b with
    | false => exact hearN_same h rfl fun _ => rfl
    | true =>
      obtain ⟨k0, -, q⟩ := nodeFacts _ _ _ _ _ _ hn
      obtain ⟨-, -, p0, p1, -, -⟩ := msgOk_facts _ _ _ _ hw m1
      have hs : ∀ e ∈ x3, gS e := fun e he => ⟨h.e3 e he, q.s e he⟩
      simp only [Bool.not_true, cond_false, isOf_rng src k k0.1 k0.2, w64 (show -9223372036854775808 ≤ k - 1 by omega) (by omega), Option.bind_some]
      cases hr : rng2 0 src (k - 1) with
      | false => exact hearN_same h rfl fun _ => rfl
      | true =>
        simp only [Bool.not_true, cond_false, decide_eq_false (show ¬ k = 0 by omega)]
        have j0 : 0 ≤ Int.tmod pg k := Int.tmod_nonneg k p0
        have j1 : Int.tmod pg k < k := Int.tmod_lt_of_pos pg (by omega)
        obtain ⟨t1, t2, t3, t4⟩ := told_eq x0 x1 x2 x4 k [] (by simp) (fun e he => by cases he) x3 q.l3 hs
        have none' : HearN x0 x1 x2 x3 x4 k (some (x0, x1, x2, x3, x4, true)) (some (x0, x1, x2, x3, x4, true)) := hearN_new hn h x1 x2 x3 rfl rfl q.l3 (fun e he => ⟨h.e1 e he, q.f e he⟩) (fun e he => ⟨h.e2 e he, q.h e he⟩) hs (fun h => h) rfl fun _ => rfl
        simp only [t3, tellL, Option.bind_some, Bool.not_true, cond_false]
        have home := same_nodeHome hn h src kind pg c ws hw p0 p1
        have frame := same_nodeFrame hn h (Int.tmod pg k) kind pg c ws hw m1 p0 p1 j0 (by omega)
        by_cases k1 : kind = 1
        · simp only [decide_eq_true k1, cond_true]
          by_cases ho : Int.tmod pg k = x0
          · simp only [decide_eq_true ho, cond_true]; exact home
          · simp only [decide_eq_false ho, cond_false]; exact none'
        · by_cases k2 : kind = 2
          · simp only [decide_eq_false k1, decide_eq_true k2, cond_true, cond_false]
            by_cases ho : Int.tmod pg k = x0
            · simp only [decide_eq_true ho, cond_true]; exact home
            · simp only [decide_eq_false ho, cond_false]; exact none'
          · by_cases k5 : kind = 5
            · simp only [decide_eq_false k1, decide_eq_false k2, decide_eq_true k5, cond_true, cond_false]
              by_cases ho : Int.tmod pg k = x0
              · simp only [decide_eq_true ho, cond_true]; exact home
              · simp only [decide_eq_false ho, cond_false]; exact none'
            · by_cases k7 : kind = 7
              · simp only [decide_eq_false k1, decide_eq_false k2, decide_eq_false k5, decide_eq_true k7, cond_true, cond_false]
                by_cases ho : Int.tmod pg k = x0
                · simp only [decide_eq_true ho, cond_true]; exact home
                · simp only [decide_eq_false ho, cond_false]; exact none'
              · simp only [decide_eq_false k1, decide_eq_false k2, decide_eq_false k5, decide_eq_false k7, cond_false]
                by_cases ho : src = Int.tmod pg k
                · subst ho
                  simp only [decide_true, cond_true]
                  exact frame
                · simp only [decide_eq_false ho, decide_eq_false (show ¬ Int.tmod pg k = src from fun h => ho h.symm), cond_false]; exact none'
theorem msg_copy (k p : Int) (c : Bool) (w : List Int) (h : w.length ≤ 1048576) : f_spec_l1Msg k p c w = some (k, p, c, w) := by
  unfold f_spec_l1Msg
  simp only [List.length_nil, Nat.zero_add, (blt_iff _ _).2 (show w.length < 17592186044416 by omega), cond_true, List.nil_append, Option.bind_some]
theorem packet_copy (a b : Int) (c : Bool) (d k p : Int) (f : Bool) (w : List Int) (h : w.length ≤ 1048576) : f_spec_l6Packet a b c d k p f w = some (a, b, c, d, k, p, f, w) := by
  unfold f_spec_l6Packet
  rw [msg_copy _ _ _ _ h]
  rfl
theorem specWorldCopy (x0 : Int) (x1 : List NodeT) (x2 : List PacketT) (h : WorldK x1 x2) : f_spec_l6Copy x0 x1 x2 = some (x0, x1, x2) := by
  unfold f_spec_l6Copy
  have c1 := cp_gen (d := ((0 : Int), ([] : List FrameT), ([] : List HomeT), ([] : List SenderT), ([] : List Int))) (F := fun n i y => f_spec_l6Copy.l0 n i x0 x1 x2 0 x0 [] [] y []) (R := fun y => (x0, x1, x2, (0 : Int), x0, ([] : List NodeT), ([] : List PacketT), y, ([] : List PacketT))) x1 h.l1 (fun n i y hi => by simp only [f_spec_l6Copy.l0, decide_eq_false hi, cond_false])
    (fun n i y a0 a1 hm hy => by
      have hk : okNode (x1.getD i.toNat (0, [], [], [], [])) := h.e1 _ hm
      have hl := h.l1
      simp only [f_spec_l6Copy.l0, specNodeCopy _ _ _ _ _ hk, decide_eq_true a0, decide_eq_true a1, cond_true, Bool.and_self, Option.bind_some, List.length_singleton, (blt_iff _ _).2 (show y.length + 1 < 1353245080339 by omega), w64 (show -9223372036854775808 ≤ i + 1 by omega) (by omega)])
  have c2 := cp_gen (d := ((0 : Int), (0 : Int), false, (0 : Int), (0 : Int), (0 : Int), false, ([] : List Int))) (F := fun n i y => f_spec_l6Copy.l1 n i x0 x1 x2 0 x0 [] [] x1 y) (R := fun y => ((0 : Int), x0, ([] : List NodeT), ([] : List PacketT), x1, y)) x2 h.l2 (fun n i y hi => by simp only [f_spec_l6Copy.l1, decide_eq_false hi, cond_false])
    (fun n i y a0 a1 hm hy => by
      have hk : (x2.getD i.toNat (0, 0, false, 0, 0, 0, false, [])).2.2.2.2.2.2.2.length ≤ 1048576 := h.e2 _ hm
      have hl := h.l2
      simp only [f_spec_l6Copy.l1, packet_copy _ _ _ _ _ _ _ _ hk, decide_eq_true a0, decide_eq_true a1, cond_true, Bool.and_self, Option.bind_some, List.length_singleton, (blt_iff _ _).2 (show y.length + 1 < 1759218604441 by omega), w64 (show -9223372036854775808 ≤ i + 1 by omega) (by omega)])
  simp only [c1, c2, Option.bind_some]
structure PacketFacts (k : Int) (e : PacketT) : Prop where
  a : 0 ≤ e.1 ∧ e.1 ≤ k - 1
  b : 0 ≤ e.2.1 ∧ e.2.1 ≤ k - 1
  s : 0 ≤ e.2.2.2.1 ∧ e.2.2.2.1 ≤ 100000
  m : e.2.2.1 = false → f_spec_MsgOk e.2.2.2.2.1 e.2.2.2.2.2.1 e.2.2.2.2.2.2.1 e.2.2.2.2.2.2.2 = some true
  n : e.2.2.1 = true → e.2.2.2.2 = (0, 0, false, [])
theorem packetFacts (k : Int) (e : PacketT) (h : okPacket e) (ht : tP k e = true) : PacketFacts k e := by
  have hp := (tP_eq k e h).1
  rw [ht] at hp
  unfold f_spec_PacketOk at hp
  simp only [in_rng2, Option.bind_some] at hp
  cases h1 : rng2 1 k 4 with
  | false => rw [h1] at hp; cases hp
  | true =>
    have k1 := h1
    unfold rng2 at k1
    simp only [Bool.and_eq_true, decide_eq_true_eq] at k1
    rw [h1, w64 (show -9223372036854775808 ≤ k - 1 by omega) (by omega)] at hp
    simp only [Bool.not_true, cond_false] at hp
    cases h2 : rng2 0 e.1 (k - 1) with
    | false => rw [h2] at hp; cases hp
    | true =>
      cases h3 : rng2 0 e.2.1 (k - 1) with
      | false => rw [h2, h3] at hp; cases hp
      | true =>
        cases h4 : rng2 0 e.2.2.2.1 100000 with
        | false => rw [h2, h3, h4] at hp; cases hp
        | true =>
          rw [h2, h3, h4] at hp
          simp only [Bool.not_true, cond_false] at hp
          unfold rng2 at h2 h3 h4
          simp only [Bool.and_eq_true, decide_eq_true_eq] at h2 h3 h4
          refine ⟨h2, h3, h4, fun hb => ?_, fun hb => ?_⟩
          · rw [hb, cond_false] at hp
            obtain ⟨b, m1, -⟩ := same_msgOk e.2.2.2.2.1 e.2.2.2.2.2.1 e.2.2.2.2.2.2.1 e.2.2.2.2.2.2.2 h
            rw [m1] at hp ⊢
            exact hp
          · rw [hb, cond_true] at hp
            by_cases g1 : e.2.2.2.2.1 = 0
            · by_cases g2 : e.2.2.2.2.2.1 = 0
              · cases g3 : e.2.2.2.2.2.2.1 with
                | true => rw [decide_eq_true g1, decide_eq_true g2, g3] at hp; cases hp
                | false =>
                  rw [decide_eq_true g1, decide_eq_true g2, g3] at hp
                  simp only [cond_true, Bool.not_false, Option.some.injEq, decide_eq_true_eq] at hp
                  have g4 := List.eq_nil_of_length_eq_zero (show e.2.2.2.2.2.2.2.length = 0 by omega)
                  exact Prod.ext g1 (Prod.ext g2 (Prod.ext g3 g4))
              · rw [decide_eq_true g1, decide_eq_false g2] at hp; cases hp
            · rw [decide_eq_false g1] at hp; cases hp
theorem tP_of {k : Int} (k0 : 1 ≤ k) (k1 : k ≤ 4) {e : PacketT} (h : okPacket e) (p : PacketFacts k e) : tP k e = true := by
  unfold tP f_spec_PacketOk
  have r0 : rng2 1 k 4 = true := by unfold rng2; rw [decide_eq_true k0, decide_eq_true k1]; rfl
  have r1 : rng2 0 e.1 (k - 1) = true := by unfold rng2; rw [decide_eq_true p.a.1, decide_eq_true p.a.2]; rfl
  have r2 : rng2 0 e.2.1 (k - 1) = true := by unfold rng2; rw [decide_eq_true p.b.1, decide_eq_true p.b.2]; rfl
  have r3 : rng2 0 e.2.2.2.1 100000 = true := by unfold rng2; rw [decide_eq_true p.s.1, decide_eq_true p.s.2]; rfl
  simp only [in_rng2, r0, r1, r2, r3, w64 (show -9223372036854775808 ≤ k - 1 by omega) (by omega), Option.bind_some, Bool.not_true, cond_false]
  cases hb : e.2.2.1 with
  | false => simp only [cond_false, p.m hb, Option.bind_some]; rfl
  | true =>
    have := p.n hb
    simp only [cond_true, this]
    rfl
theorem allF_of {α : Type} {q : Int → α → Bool} : ∀ (x : List α) (i : Int), (∀ j (hj : j < x.length), q (i + j) x[j] = true) → allF q i x = true
  | [], _, _ => rfl
  | a :: x, i, h => by
    unfold allF
    rw [Bool.and_eq_true]
    refine ⟨by have h0 := h 0 (by simp); rw [show (i + ((0 : Nat) : Int)) = i by omega] at h0; exact h0, allF_of x (i + 1) fun j hj => ?_⟩
    have := h (j + 1) (by simpa using hj)
    rw [show i + ((j + 1 : Nat) : Int) = i + 1 + (j : Int) by omega] at this
    simpa using this
theorem nodeOk_of {k : Int} (k0 : 1 ≤ k) (k1 : k ≤ 4) {i : Int} (i0 : 0 ≤ i) (i1 : i ≤ k - 1) {e : NodeT} (q : NodeFacts e k i) : nodeOkB e.1 e.2.1 e.2.2.1 e.2.2.2.1 e.2.2.2.2 k = true := by
  unfold nodeOkB rng2
  simp only [Bool.and_eq_true, decide_eq_true_eq, List.all_eq_true]
  have := q.a
  have := q.l1
  have := q.l2
  exact ⟨⟨k0, k1⟩, ⟨by omega, by omega⟩, by omega, by omega, q.l3, q.l4, ⟨q.f, q.h⟩, q.s, q.r⟩
theorem worldOk_of {x0 : Int} {x1 : List NodeT} {x2 : List PacketT} (w : WorldFacts x0 x1 x2) : worldOkB x0 x1 x2 = true := by
  unfold worldOkB rng2
  simp only [Bool.and_eq_true, decide_eq_true_eq, List.all_eq_true, Bool.not_eq_true', decide_eq_false_iff_not]
  have := w.l2
  refine ⟨w.k, w.l1, by omega, allF_of _ _ fun j hj => ?_, w.p⟩
  have q := w.n j hj
  have l1 := w.l1
  unfold tN
  rw [Bool.and_eq_true, decide_eq_true_eq]
  exact ⟨nodeOk_of w.k.1 w.k.2 (by omega) (by omega) q, by have := q.a; omega⟩
/-- A right world. -/
def gW (x0 : Int) (x1 : List NodeT) (x2 : List PacketT) : Prop := WorldK x1 x2 ∧ WorldFacts x0 x1 x2
theorem gW_set {x0 : Int} {x1 : List NodeT} {x2 : List PacketT} (g : gW x0 x1 x2) (i : Int) (i0 : 0 ≤ i) (e : NodeT) (h : okNode e) (q : NodeFacts e x0 i) : gW x0 (x1.set i.toNat e) x2 := by
  obtain ⟨k, w⟩ := g
  refine ⟨⟨by rw [List.length_set]; exact k.l1, k.l2, fun f hf => ?_, k.e2⟩, ⟨w.k, by rw [List.length_set]; exact w.l1, w.l2, fun j hj => ?_, w.p⟩⟩
  · rcases mem_set hf with rfl | hf
    · exact h
    · exact k.e1 f hf
  · rw [List.length_set] at hj
    rw [List.getElem_set]
    split
    · rename_i hij
      rw [show ((j : Nat) : Int) = i by omega]
      exact q
    · exact w.n j hj
theorem gW_net {x0 : Int} {x1 : List NodeT} {x2 y2 : List PacketT} (g : gW x0 x1 x2) (h : ∀ e ∈ y2, okPacket e ∧ tP x0 e = true) (hl : y2.length ≤ 40) : gW x0 x1 y2 :=
  ⟨⟨g.1.l1, by omega, g.1.e1, fun e he => (h e he).1⟩, ⟨g.2.k, g.2.l1, hl, g.2.n, fun e he => (h e he).2⟩⟩
def siW (x1 : List NodeT) : Prop := ∀ e ∈ x1, ∀ h ∈ e.2.2.1, siH h
theorem getD_set {α : Type} (x : List α) (i : Nat) (e d : α) (h : i < x.length) : (x.set i e).getD i d = e := by
  rw [List.getD_eq_getElem?_getD, List.getElem?_set_self h]
  rfl
theorem gS_acked {c : SenderT} (h : gS c) (n : Int) : gS (ackedB c.1 c.2 (tS c) n) ∧ f_spec_Acked c.1 c.2 n = some (ackedB c.1 c.2 (tS c) n) := by
  obtain ⟨h1, h2⟩ := h
  have so := (tS_eq c h1).1
  refine ⟨?_, specAcked c.1 c.2 n h1.1 h1.2 _ so⟩
  rw [h2] at so ⊢
  obtain ⟨f0, f1, f2, f3, f4⟩ := senderOk_facts c.1 c.2 h1.1 h1.2 so
  unfold ackedB
  split
  · rename_i hq
    obtain ⟨-, q1, q2⟩ := hq
    have he : ∀ f ∈ c.2.drop (n - c.1).toNat, f.2.2.2.length ≤ 1048576 := fun f hf => h1.2 f (List.mem_of_mem_drop hf)
    refine ⟨⟨by simp only [List.length_drop]; omega, he⟩, tS_of _ _ (by simp only [List.length_drop]; omega) he (by omega) (by simp only [List.length_drop]; omega) ?_⟩
    rw [List.all_eq_true] at f4 ⊢
    exact fun f hf => f4 f (List.mem_of_mem_drop hf)
  · exact ⟨h1, h2⟩
theorem gNode {x0 : Int} {x1 : List NodeT} {x2 : List PacketT} (g : gW x0 x1 x2) (i : Int) (i0 : 0 ≤ i) (i1 : i ≤ x0 - 1) : i < (x1.length : Int) ∧ x1.getD i.toNat (0, [], [], [], []) ∈ x1 ∧ okNode (x1.getD i.toNat (0, [], [], [], [])) ∧ NodeFacts (x1.getD i.toNat (0, [], [], [], [])) x0 i := by
  have hl := g.2.l1
  have hm := mem_getD x1 (0, [], [], [], []) i i0 (by omega)
  exact ⟨by omega, hm, g.1.e1 _ hm, worldAt g.2 i i0 (by omega)⟩
/-- What a packet does that arrives. -/
theorem specGive {x0 : Int} {x1 : List NodeT} {x2 : List PacketT} (g : gW x0 x1 x2) (e : PacketT) (hk : okPacket e) (p : PacketFacts x0 e) : ∃ y1, f_spec_l6Give x0 x1 x2 e.1 e.2.1 e.2.2.1 e.2.2.2.1 e.2.2.2.2.1 e.2.2.2.2.2.1 e.2.2.2.2.2.2.1 e.2.2.2.2.2.2.2 = some (x0, y1, x2) ∧ gW x0 y1 x2 ∧ (siW x1 → siW y1) := by
  obtain ⟨a, b, k, s, kind, pg, c, ws⟩ := e
  obtain ⟨⟨a0, a1⟩, ⟨b0, b1⟩, ⟨s0, s1⟩, pm, pn⟩ := p
  simp only at a0 a1 b0 b1 s0 s1 pm pn
  have hw : ws.length ≤ 1048576 := hk
  obtain ⟨n0, n1, n2, q⟩ := gNode g b b0 b1
  have l3 := q.l3
  have l4 := q.l4
  unfold f_spec_l6Give
  simp only [decide_eq_true b0, decide_eq_true n0, Bool.and_self, cond_true]
  cases k with
  | true =>
    have hm := mem_getD (x1.getD b.toNat (0, [], [], [], [])).2.2.2.1 (0, []) a a0 (by omega)
    have hs : gS ((x1.getD b.toNat (0, [], [], [], [])).2.2.2.1.getD a.toNat (0, [])) := ⟨n2.e3 _ hm, q.s _ hm⟩
    obtain ⟨g1, g2⟩ := gS_acked hs s
    have hb : b.toNat < x1.length := by omega
    simp only [cond_true, decide_eq_true a0, decide_eq_true (show a < ((x1.getD b.toNat (0, [], [], [], [])).2.2.2.1.length : Int) by omega), Bool.and_self, g2, Option.bind_some, List.length_set, decide_eq_true n0, decide_eq_true b0, decide_true, getD_set _ _ _ _ hb, List.set_set]
    refine ⟨_, rfl, gW_set g b b0 _ ⟨n2.l1, n2.l2, by rw [List.length_set]; exact n2.l3, n2.l4, n2.e1, n2.e2, fun f hf => ?_⟩ ⟨q.a, q.l1, q.l2, by rw [List.length_set]; exact q.l3, q.l4, q.f, q.h, fun f hf => ?_, q.r⟩, fun si e he => ?_⟩
    · rcases mem_set hf with rfl | hf
      · exact g1.1
      · exact n2.e3 f hf
    · rcases mem_set hf with rfl | hf
      · exact g1.2
      · exact q.s f hf
    · rcases mem_set he with rfl | he
      · exact si (x1.getD b.toNat (0, [], [], [], [])) n1
      · exact si e he
  | false =>
    simp only [cond_false, decide_eq_true a0, decide_eq_true (show a < ((x1.getD b.toNat (0, [], [], [], [])).2.2.2.2.length : Int) by omega), Bool.and_self, cond_true, specArrived, Option.bind_some]
    cases ha : (arrB ((x1.getD b.toNat (0, [], [], [], [])).2.2.2.2.getD a.toNat 0) s).2 with
    | false => exact ⟨x1, rfl, g, fun h => h⟩
    | true =>
      simp only [Bool.not_true, cond_false]
      obtain ⟨r, h1, -, h3, h4, -⟩ := same_nodeHear (x1.getD b.toNat (0, [], [], [], [])).1 (x1.getD b.toNat (0, [], [], [], [])).2.1 (x1.getD b.toNat (0, [], [], [], [])).2.2.1 (x1.getD b.toNat (0, [], [], [], [])).2.2.2.1 (x1.getD b.toNat (0, [], [], [], [])).2.2.2.2 x0 a kind pg c ws n2 hw
      rw [h1, Option.bind_some]
      cases hr : r.2.2.2.2.2 with
      | false => exact ⟨x1, rfl, g, fun h => h⟩
      | true =>
        obtain ⟨-, f, h5, h6⟩ := h4 hr
        have hrange : 0 ≤ (arrB ((x1.getD b.toNat (0, [], [], [], [])).2.2.2.2.getD a.toNat 0) s).1 ∧ (arrB ((x1.getD b.toNat (0, [], [], [], [])).2.2.2.2.getD a.toNat 0) s).1 ≤ 100000 := by
          unfold arrB at ha ⊢
          split
          · rename_i hq
            exact ⟨by have := hq.2.1; show 0 ≤ _ + 1; omega, by have := hq.2.2; show _ + 1 ≤ 100000; omega⟩
          · rename_i hq
            rw [if_neg hq] at ha
            cases ha
        simp only [cond_true, h5, decide_eq_true (show a < ((x1.getD b.toNat (0, [], [], [], [])).2.2.2.2.length : Int) by omega), decide_eq_true n0, decide_eq_true b0, decide_eq_true a0, Bool.and_self, Option.bind_some]
        have qa := q.a
        rw [qa] at f
        refine ⟨_, rfl, gW_set g b b0 _ ⟨h3.l1, h3.l2, h3.l3, by rw [List.length_set]; exact n2.l4, h3.e1, h3.e2, h3.e3⟩ ⟨f.a, f.l1, f.l2, f.l3, by rw [List.length_set]; exact q.l4, f.f, f.h, f.s, fun v hv => ?_⟩, fun si e he => ?_⟩
        · rcases mem_set hv with rfl | hv
          · exact hrange
          · exact q.r v hv
        · rcases mem_set he with rfl | he
          · exact h6 (si _ n1)
          · exact si e he
/-- What a deed answers: the world stays right. -/
def DoR (x0 : Int) (x1 : List NodeT) (f : Option (Int × List NodeT × List PacketT × Int)) : Prop := ∃ y1 y2 s, f = some (x0, y1, y2, s) ∧ gW x0 y1 y2 ∧ (siW x1 → siW y1)
theorem doR {x0 : Int} {x1 y1 : List NodeT} {y2 : List PacketT} (g : gW x0 y1 y2) (si : siW x1 → siW y1) (s : Int) : DoR x0 x1 (some (x0, y1, y2, s)) := ⟨y1, y2, s, rfl, g, si⟩
theorem packetAt {x0 : Int} {x1 : List NodeT} {x2 : List PacketT} (g : gW x0 x1 x2) (i : Int) (i0 : 0 ≤ i) (i1 : i < (x2.length : Int)) : okPacket (x2.getD i.toNat (0, 0, false, 0, 0, 0, false, [])) ∧ tP x0 (x2.getD i.toNat (0, 0, false, 0, 0, 0, false, [])) = true := by
  have hm := mem_getD x2 (0, 0, false, 0, 0, 0, false, []) i i0 i1
  exact ⟨g.1.e2 _ hm, g.2.p _ hm⟩
theorem gW_add {x0 : Int} {x1 : List NodeT} {x2 : List PacketT} (g : gW x0 x1 x2) (hl : ¬ (x2.length : Int) = 40) (e : PacketT) (h : okPacket e) (ht : tP x0 e = true) : gW x0 x1 (x2 ++ [e]) := by
  have := g.2.l2
  refine gW_net g (fun f hf => ?_) (by rw [List.length_append, List.length_singleton]; omega)
  rcases List.mem_append.1 hf with hf | hf
  · exact ⟨g.1.e2 f hf, g.2.p f hf⟩
  · rw [List.mem_singleton.1 hf]; exact ⟨h, ht⟩
theorem specNet {x0 : Int} {x1 : List NodeT} {x2 : List PacketT} (g : gW x0 x1 x2) (kind a b c : Int) : DoR x0 x1 (f_spec_l6Net x0 x1 x2 kind a b c) := by
  have hl := g.2.l2
  unfold f_spec_l6Net
  simp only [in_rng2, w64 (show -9223372036854775808 ≤ (x2.length : Int) - 1 by omega) (by omega), Option.bind_some]
  cases hr : rng2 0 a ((x2.length : Int) - 1) with
  | false => exact doR g (fun h => h) 2
  | true =>
    unfold rng2 at hr
    simp only [Bool.and_eq_true, decide_eq_true_eq] at hr
    obtain ⟨a0, a1⟩ := hr
    obtain ⟨p1, p2⟩ := packetAt g a a0 (by omega)
    have pf := packetFacts x0 _ p1 p2
    have pl : (x2.getD a.toNat (0, 0, false, 0, 0, 0, false, [])).2.2.2.2.2.2.2.length ≤ 1048576 := p1
    simp only [Bool.not_true, cond_false, decide_eq_true a0, decide_eq_true (show a < (x2.length : Int) by omega), decide_eq_true (show a ≤ (x2.length : Int) by omega), Bool.and_self, cond_true, packet_copy _ _ _ _ _ _ _ _ pl, Option.bind_some, List.length_singleton, (blt_iff _ _).2 (show x2.length + 1 < 1759218604441 by omega)]
    by_cases k5 : kind = 5
    · simp only [decide_eq_true k5, cond_true]
      by_cases h40 : (x2.length : Int) = 40
      · simp only [decide_eq_true h40, cond_true]; exact doR g (fun h => h) 4
      · simp only [decide_eq_false h40, cond_false]; exact doR (gW_add g h40 _ p1 p2) (fun h => h) 0
    · have e1 : ((x2.drop 0).take a.toNat) = x2.take a.toNat := by rw [List.drop_zero]
      have e2 : ((x2.drop (a + 1).toNat).take ((x2.length : Int) - (a + 1)).toNat) = x2.drop (a + 1).toNat := take_drop_all x2 (a + 1) (by omega)
      have t1 : (x2.take a.toNat).length = a.toNat := by rw [List.length_take]; omega
      have t2 : (x2.drop (a + 1).toNat).length = x2.length - (a + 1).toNat := List.length_drop ..
      simp only [decide_eq_false k5, cond_false, w64 (show -9223372036854775808 ≤ a + 1 by omega) (by omega), e1, e2, List.length_nil, List.nil_append, Nat.zero_add, (blt_iff _ _).2 (show (x2.take a.toNat).length < 1759218604441 by omega), (blt_iff _ _).2 (show (x2.take a.toNat).length + (x2.drop (a + 1).toNat).length < 1759218604441 by omega), cond_true, Option.bind_some, decide_eq_true (show 0 ≤ a + 1 by omega), decide_eq_true (show a + 1 ≤ (x2.length : Int) by omega), decide_eq_true (show 0 + a ≤ a + 1 by omega), decide_eq_true (show 0 + a ≤ a by omega), decide_eq_true (show a < a + 1 by omega), decide_eq_true (show a + 1 + ((x2.length : Int) - (a + 1)) ≤ (x2.length : Int) by omega), Bool.and_self]
      have gn : gW x0 x1 (x2.take a.toNat ++ x2.drop (a + 1).toNat) := gW_net g (fun f hf => by
        rcases List.mem_append.1 hf with hf | hf
        · have := List.mem_of_mem_take hf
          exact ⟨g.1.e2 f this, g.2.p f this⟩
        · have := List.mem_of_mem_drop hf
          exact ⟨g.1.e2 f this, g.2.p f this⟩) (by rw [List.length_append, t1, t2]; omega)
      by_cases k4 : kind = 4
      · simp only [decide_eq_true k4, cond_true]; exact doR gn (fun h => h) 0
      · obtain ⟨y1, h1, h2, h3⟩ := specGive gn _ p1 pf
        simp only [decide_eq_false k4, cond_false, h1, Option.bind_some]
        exact doR h2 h3 0
theorem specPut {x0 : Int} {x1 : List NodeT} {x2 : List PacketT} (g : gW x0 x1 x2) (e : PacketT) (h : okPacket e) (ht : tP x0 e = true) : DoR x0 x1 (f_spec_l6Put x0 x1 x2 e.1 e.2.1 e.2.2.1 e.2.2.2.1 e.2.2.2.2.1 e.2.2.2.2.2.1 e.2.2.2.2.2.2.1 e.2.2.2.2.2.2.2) := by
  have hl := g.2.l2
  unfold f_spec_l6Put
  simp only [List.length_singleton, (blt_iff _ _).2 (show x2.length + 1 < 1759218604441 by omega), cond_true, Option.bind_some]
  by_cases h40 : (x2.length : Int) = 40
  · simp only [decide_eq_true h40, cond_true]; exact doR g (fun h => h) 4
  · simp only [decide_eq_false h40, cond_false]; exact doR (gW_add g h40 e h ht) (fun h => h) 0
theorem specLine {x0 : Int} {x1 : List NodeT} {x2 : List PacketT} (g : gW x0 x1 x2) (kind a b c : Int) (a0 : 0 ≤ a) (a1 : a ≤ x0 - 1) : DoR x0 x1 (f_spec_l6Line x0 x1 x2 kind a b c) := by
  have k0 := g.2.k
  obtain ⟨n0, n1, n2, q⟩ := gNode g a a0 a1
  have l3 := q.l3
  have l4 := q.l4
  unfold f_spec_l6Line
  simp only [in_rng2, w64 (show -9223372036854775808 ≤ x0 - 1 by omega) (by omega), Option.bind_some]
  cases hr : rng2 0 b (x0 - 1) with
  | false => exact doR g (fun h => h) 2
  | true =>
    unfold rng2 at hr
    simp only [Bool.and_eq_true, decide_eq_true_eq] at hr
    obtain ⟨b0, b1⟩ := hr
    have hm := mem_getD (x1.getD a.toNat (0, [], [], [], [])).2.2.2.1 (0, []) b b0 (by omega)
    have ks := n2.e3 _ hm
    have ts := q.s _ hm
    have so := (tS_eq _ ks).1
    rw [ts] at so
    obtain ⟨f0, f1, f2, f3, f4⟩ := senderOk_facts _ _ ks.1 ks.2 so
    simp only [Bool.not_true, cond_false, decide_eq_true a0, decide_eq_true b0, decide_eq_true n0, decide_eq_true (show b < ((x1.getD a.toNat (0, [], [], [], [])).2.2.2.2.length : Int) by omega), decide_eq_true (show b < ((x1.getD a.toNat (0, [], [], [], [])).2.2.2.1.length : Int) by omega), Bool.and_self, cond_true, w64 (show -9223372036854775808 ≤ ((((x1.getD a.toNat (0, [], [], [], [])).2.2.2.1.getD b.toNat (0, [])).2).length : Int) - 1 by omega) (by omega)]
    by_cases k1 : kind = 1
    · simp only [decide_eq_true k1, cond_true]
      cases hc : rng2 0 c (((((x1.getD a.toNat (0, [], [], [], [])).2.2.2.1.getD b.toNat (0, [])).2).length : Int) - 1) with
      | false => exact doR g (fun h => h) 3
      | true =>
        unfold rng2 at hc
        simp only [Bool.and_eq_true, decide_eq_true_eq] at hc
        obtain ⟨c0, c1⟩ := hc
        have hm2 := mem_getD ((x1.getD a.toNat (0, [], [], [], [])).2.2.2.1.getD b.toNat (0, [])).2 (0, 0, false, []) c c0 (by omega)
        have hw := ks.2 _ hm2
        have tm : tM (((x1.getD a.toNat (0, [], [], [], [])).2.2.2.1.getD b.toNat (0, [])).2.getD c.toNat (0, 0, false, [])) = true := (List.all_eq_true.1 f4) _ hm2
        have mo := (tM_eq _ hw).1
        rw [tm] at mo
        simp only [Bool.not_true, cond_false, decide_eq_true c0, decide_eq_true (show c < ((((x1.getD a.toNat (0, [], [], [], [])).2.2.2.1.getD b.toNat (0, [])).2).length : Int) by omega), Bool.and_self, cond_true, msg_copy _ _ _ _ hw, Option.bind_some, w64 (show -9223372036854775808 ≤ ((x1.getD a.toNat (0, [], [], [], [])).2.2.2.1.getD b.toNat (0, [])).1 + c by omega) (by omega)]
        have hp : okPacket (a, b, false, ((x1.getD a.toNat (0, [], [], [], [])).2.2.2.1.getD b.toNat (0, [])).1 + c, (((x1.getD a.toNat (0, [], [], [], [])).2.2.2.1.getD b.toNat (0, [])).2.getD c.toNat (0, 0, false, []))) := hw
        obtain ⟨y1, y2, s, h1, h2, h3⟩ := specPut g (a, b, false, ((x1.getD a.toNat (0, [], [], [], [])).2.2.2.1.getD b.toNat (0, [])).1 + c, (((x1.getD a.toNat (0, [], [], [], [])).2.2.2.1.getD b.toNat (0, [])).2.getD c.toNat (0, 0, false, []))) hp (tP_of k0.1 k0.2 hp ⟨⟨a0, a1⟩, ⟨b0, b1⟩, ⟨by show 0 ≤ _ + c; omega, by show _ + c ≤ 100000; omega⟩, fun _ => mo, fun h => by cases h⟩)
        simp only at h1
        rw [h1, Option.bind_some]
        exact doR h2 h3 s
    · simp only [decide_eq_false k1, cond_false]
      have hr := q.r _ (mem_getD (x1.getD a.toNat (0, [], [], [], [])).2.2.2.2 0 b b0 (by omega))
      have hp : okPacket (a, b, true, (x1.getD a.toNat (0, [], [], [], [])).2.2.2.2.getD b.toNat 0, 0, 0, false, []) := Nat.zero_le _
      obtain ⟨y1, y2, s, h1, h2, h3⟩ := specPut g (a, b, true, (x1.getD a.toNat (0, [], [], [], [])).2.2.2.2.getD b.toNat 0, 0, 0, false, []) hp (tP_of k0.1 k0.2 hp ⟨⟨a0, a1⟩, ⟨b0, b1⟩, hr, fun h => (by cases h), fun _ => rfl⟩)
      simp only at h1
      rw [h1, Option.bind_some]
      exact doR h2 h3 s
theorem tF_asked (e : FrameT) (b : Bool) : tF (e.1, e.2.1, b) = tF e := rfl
theorem getD_setF (x : List FrameT) (i : Nat) (e d : FrameT) (h : i < x.length) : (x.set i e).getD i d = e := by
  rw [List.getD_eq_getElem?_getD, List.getElem?_set_self h]
  rfl
def WantR (x0 : Int) (x1 : List FrameT) (x2 : List HomeT) (x3 : List SenderT) (x4 : List Int) (k p : Int) (f g : Option NR) : Prop :=
  ∃ r : NR, f = some r ∧ g = some r ∧ NodeK r.2.1 r.2.2.1 r.2.2.2.1 r.2.2.2.2.1 ∧
    (r.2.2.2.2.2 = true → nodeOkB x0 x1 x2 x3 x4 k = true ∧ NodeFacts (r.1, r.2.1, r.2.2.1, r.2.2.2.1, r.2.2.2.2.1) k x0 ∧ r.2.2.1 = x2 ∧ 0 ≤ p ∧ p < (r.2.1.length : Int) ∧ (r.2.1.getD p.toNat (0, [], false)).2.2 = true) ∧ (r.2.2.2.2.2 = false → r = (x0, x1, x2, x3, x4, false))
theorem want_ask (x0 : Int) {x1 : List FrameT} {x2 : List HomeT} {x3 : List SenderT} {x4 : List Int} {k p : Int} (hn : nodeOkB x0 x1 x2 x3 x4 k = true) (h : NodeK x1 x2 x3 x4) (p0 : 0 ≤ p) (p1 : p ≤ 5) (kind : Int) (hm : f_spec_MsgOk kind p false [] = some true) (f g : Option NR)
    (hf : f = (f_spec_Queue (x3.getD (Int.tmod p k).toNat (0, [])).1 (x3.getD (Int.tmod p k).toNat (0, [])).2 kind p false []).bind fun y => bif (!y.2.2) then some (x0, x1, x2, x3, x4, false) else some (x0, x1.set p.toNat ((x1.getD p.toNat (0, [], false)).1, (x1.getD p.toNat (0, [], false)).2.1, true), x2, x3.set (Int.tmod p k).toNat (y.1, y.2.1), x4, true))
    (hg : g = (f_impl_Queue (x3.getD (Int.tmod p k).toNat (0, [])).1 (x3.getD (Int.tmod p k).toNat (0, [])).2 kind p false []).bind fun y => bif (!y.2.2) then some (x0, x1, x2, x3, x4, false) else some (x0, x1.set p.toNat ((x1.getD p.toNat (0, [], false)).1, (x1.getD p.toNat (0, [], false)).2.1, true), x2, x3.set (Int.tmod p k).toNat (y.1, y.2.1), x4, true)) :
    WantR x0 x1 x2 x3 x4 k p f g := by
  subst hf hg
  obtain ⟨k0, -, q⟩ := nodeFacts _ _ _ _ _ _ hn
  have l1 : x1.length = 6 := q.l1
  have l3 : (x3.length : Int) = k := q.l3
  have j0 : 0 ≤ Int.tmod p k := Int.tmod_nonneg k p0
  have j1 : Int.tmod p k < k := Int.tmod_lt_of_pos p (by omega)
  have hs : ∀ e ∈ x3, gS e := fun e he => ⟨h.e3 e he, q.s e he⟩
  obtain ⟨u1, u2, u3⟩ := qAt_eq x3 (Int.tmod p k, kind, p, false, []) k ⟨j0, by show Int.tmod p k ≤ k - 1; omega, Nat.zero_le _, hm⟩ l3 hs
  simp only at u1 u2
  rw [u1, u2, Option.bind_some]
  have hm1 := mem_getD x1 (0, [], false) p p0 (by omega)
  cases (qAt x3 (Int.tmod p k, kind, p, false, [])).2.2 with
  | false => exact ⟨_, rfl, rfl, h, fun h => (by cases h), fun _ => rfl⟩
  | true =>
    simp only [Bool.not_true, cond_false]
    refine ⟨_, rfl, rfl, ⟨by show (x1.set _ _).length ≤ _; rw [List.length_set]; exact h.l1, h.l2, by show (x3.set _ _).length ≤ _; rw [List.length_set]; exact h.l3, h.l4, fun e he => ?_, h.e2, fun e he => ?_⟩, fun _ => ⟨hn, ⟨rfl, by show (x1.set _ _).length = _; rw [List.length_set]; exact q.l1, q.l2, by show ((x3.set _ _).length : Int) = _; rw [List.length_set]; exact q.l3, q.l4, fun e he => ?_, q.h, fun e he => ?_, q.r⟩, rfl, p0, by show p < ((x1.set _ _).length : Int); rw [List.length_set]; omega, ?_⟩, fun h => by cases h⟩
    · rcases mem_set he with rfl | he
      · exact h.e1 (x1.getD p.toNat (0, [], false)) hm1
      · exact h.e1 e he
    · rcases mem_set he with rfl | he
      · exact u3.1
      · exact h.e3 e he
    · rcases mem_set he with rfl | he
      · rw [tF_asked]; exact q.f (x1.getD p.toNat (0, [], false)) hm1
      · exact q.f e he
    · rcases mem_set he with rfl | he
      · exact u3.2
      · exact q.s e he
    · show ((x1.set p.toNat _).getD p.toNat _).2.2 = true
      rw [getD_setF _ _ _ _ (by omega)]
theorem msg_ask (kind p : Int) (hk : kind = 1 ∨ kind = 2) (p0 : 0 ≤ p) (p1 : p ≤ 5) : f_spec_MsgOk kind p false [] = some true := by
  have h2 : rg p 0 5 = true := by unfold rg; rw [decide_eq_true p0, decide_eq_true p1]; rfl
  rcases hk with rfl | rfl
  · unfold f_spec_MsgOk
    simp only [in_rg, h2, specWords [] (by simp), Option.bind_some]
    rfl
  · unfold f_spec_MsgOk
    simp only [in_rg, h2, specWords [] (by simp), Option.bind_some]
    rfl
theorem good_want (x0 : Int) (x1 : List FrameT) (x2 : List HomeT) (x3 : List SenderT) (x4 : List Int) (k p : Int) (w : Bool) (h : NodeK x1 x2 x3 x4) : WantR x0 x1 x2 x3 x4 k p (f_spec_Want x0 x1 x2 x3 x4 k p w) (f_impl_Want x0 x1 x2 x3 x4 k p w) := by
  unfold f_spec_Want f_impl_Want f_impl_isPage
  simp only [specNodeCopy x0 x1 x2 x3 x4 h, implNodeCopy x0 x1 x2 x3 x4 h, specNodeOk x0 x1 x2 x3 x4 k h, implNodeOk x0 x1 x2 x3 x4 k h, in_rng, from_rng, Option.bind_some]
  have same : WantR x0 x1 x2 x3 x4 k p (some (x0, x1, x2, x3, x4, false)) (some (x0, x1, x2, x3, x4, false)) := ⟨_, rfl, rfl, h, fun h => (by cases h), fun _ => rfl⟩
  cases hn : nodeOkB x0 x1 x2 x3 x4 k with
  | false => exact same
  | true =>
    obtain ⟨hk, -, f⟩ := nodeFacts x0 x1 x2 x3 x4 k hn
    have l1 : x1.length = 6 := f.l1
    have l3 : (x3.length : Int) = k := f.l3
    cases hp : rng p 5 with
    | false => exact same
    | true =>
      unfold rng at hp
      simp only [Bool.and_eq_true, decide_eq_true_eq] at hp
      have hf := tF_state _ (f.f _ (mem_getD x1 (0, [], false) p hp.1 (by omega)))
      have t0 : 0 ≤ Int.tmod p k := Int.tmod_nonneg k hp.1
      have t1 : Int.tmod p k < k := Int.tmod_lt_of_pos p (by omega)
      simp only [Bool.not_true, cond_false, decide_eq_true hp.1, decide_eq_true (show p < (x1.length : Int) by omega), Bool.and_self, cond_true, specLess, implLess _ _ _ w hf.1 hf.2, Option.bind_some, decide_eq_false (show ¬ k = 0 by omega), decide_eq_true t0, decide_eq_true (show Int.tmod p k < (x3.length : Int) by omega)]
      cases (x1.getD p.toNat (0, [], false)).2.2 with
      | true => exact same
      | false =>
        cases lessB (x1.getD p.toNat (0, [], false)).1 w with
        | false => exact same
        | true =>
          cases w with
          | true => exact want_ask x0 hn h hp.1 hp.2 2 (msg_ask 2 p (.inr rfl) hp.1 hp.2) _ _ rfl rfl
          | false => exact want_ask x0 hn h hp.1 hp.2 1 (msg_ask 1 p (.inl rfl) hp.1 hp.2) _ _ rfl rfl
theorem specDo {x0 : Int} {x1 : List NodeT} {x2 : List PacketT} (g : gW x0 x1 x2) (kind a b c : Int) : DoR x0 x1 (f_spec_l6Do x0 x1 x2 kind a b c) := by
  have k0 := g.2.k
  obtain ⟨y1, y2, s, h1, h2, h3⟩ := specNet g kind a b c
  unfold f_spec_l6Do
  simp only [h1, Option.bind_some, in_rng2, w64 (show -9223372036854775808 ≤ x0 - 1 by omega) (by omega)]
  by_cases k3 : kind = 3
  · simp only [decide_eq_true k3, cond_true]; exact doR h2 h3 s
  by_cases k4 : kind = 4
  · simp only [decide_eq_false k3, decide_eq_true k4, cond_false, cond_true]; exact doR h2 h3 s
  by_cases k5 : kind = 5
  · simp only [decide_eq_false k3, decide_eq_false k4, decide_eq_true k5, cond_false, cond_true]; exact doR h2 h3 s
  simp only [decide_eq_false k3, decide_eq_false k4, decide_eq_false k5, cond_false]
  cases hr : rng2 0 a (x0 - 1) with
  | false => exact doR g (fun h => h) 2
  | true =>
    unfold rng2 at hr
    simp only [Bool.and_eq_true, decide_eq_true_eq] at hr
    obtain ⟨a0, a1⟩ := hr
    obtain ⟨n0, n1, n2, q⟩ := gNode g a a0 a1
    simp only [Bool.not_true, cond_false]
    by_cases k6 : kind = 6
    · simp only [decide_eq_true k6, Bool.not_true, cond_false, decide_eq_true a0, decide_eq_true n0, Bool.and_self, cond_true]
      obtain ⟨r, h1, -, h3, h4, -⟩ := good_want (x1.getD a.toNat (0, [], [], [], [])).1 (x1.getD a.toNat (0, [], [], [], [])).2.1 (x1.getD a.toNat (0, [], [], [], [])).2.2.1 (x1.getD a.toNat (0, [], [], [], [])).2.2.2.1 (x1.getD a.toNat (0, [], [], [], [])).2.2.2.2 x0 b (decide (c = 1)) n2
      rw [h1, Option.bind_some]
      cases hr : r.2.2.2.2.2 with
      | false => exact doR g (fun h => h) 3
      | true =>
        obtain ⟨-, f, h5, -⟩ := h4 hr
        rw [q.a] at f
        simp only [Bool.not_true, cond_false, Option.bind_some]
        refine doR (gW_set g a a0 (r.1, r.2.1, r.2.2.1, r.2.2.2.1, r.2.2.2.2.1) h3 f) (fun si e he => ?_) 0
        rcases mem_set he with rfl | he
        · show ∀ h ∈ r.2.2.1, siH h
          rw [h5]
          exact si _ n1
        · exact si e he
    · obtain ⟨y1, y2, s, h1, h2, h3⟩ := specLine g kind a b c a0 a1
      simp only [decide_eq_false k6, Bool.not_false, cond_true, h1, Option.bind_some]
      exact doR h2 h3 s
/-- A deed in a right world leaves a right world; what is no deed leaves none. -/
theorem specWorldDo {x0 : Int} {x1 : List NodeT} {x2 : List PacketT} (g : gW x0 x1 x2) (kind a b c : Int) : ∃ z0 y1 y2 s, f_spec_WorldDo x0 x1 x2 kind a b c = some (z0, y1, y2, s) ∧ (s = 0 → z0 = x0 ∧ gW x0 y1 y2 ∧ (siW x1 → siW y1)) := by
  unfold f_spec_WorldDo
  simp only [specWorldOk x0 x1 x2 g.1, worldOk_of g.2, in_rng2, Option.bind_some, Bool.not_true, cond_false, specWorldCopy x0 x1 x2 g.1]
  cases rng2 1 kind 6 with
  | false => exact ⟨0, [], [], 1, rfl, fun h => absurd h (by decide)⟩
  | true =>
    obtain ⟨y1, y2, s, h1, h2, h3⟩ := specDo g kind a b c
    simp only [Bool.not_true, cond_false, h1, Option.bind_some]
    by_cases hs : s = 0
    · simp only [decide_eq_true hs, Bool.not_true, cond_false]
      exact ⟨x0, y1, y2, s, rfl, fun _ => ⟨rfl, h2, h3⟩⟩
    · simp only [decide_eq_false hs, Bool.not_false, cond_true]
      exact ⟨x0, x1, x2, s, rfl, fun h => absurd h hs⟩
/-- A deed is drawn, whatever the world. -/
theorem drawDeed (x : List Int) (hn : x.length ≤ 1048576) (p s k : Int) (y1 : List NodeT) (y2 : List PacketT) (hp : 0 ≤ p) : ∃ a b c d p' s', f_spec_l6DrawDeed x p s k y1 y2 = some (a, b, c, d, p', s') ∧ 0 ≤ p' := by
  have max : ∀ a b, ∃ m, f_spec_l1Max a b = some m := fun a b => by
    unfold f_spec_l1Max
    cases decide (b < a) <;> exact ⟨_, rfl⟩
  unfold f_spec_l6DrawDeed
  obtain ⟨m, em⟩ := max k 1
  obtain ⟨ml, el⟩ := max (y2.length : Int) 1
  obtain ⟨r1, p1, s1, e1, q1, r10, -, -⟩ := draw_below x hn p s m hp
  obtain ⟨r2, p2, s2, e2, q2, -⟩ := draw_below x hn p1 s1 12 q1
  obtain ⟨r3, p3, s3, e3, q3, -⟩ := draw_below x hn p2 s2 3 q2
  obtain ⟨r4, p4, s4, e4, q4, -⟩ := draw_below x hn p3 s3 2 q3
  obtain ⟨r5, p5, s5, e5, q5, -⟩ := draw_below x hn p2 s2 m q2
  obtain ⟨b6, p6, s6, e6, q6⟩ := draw_once x hn p2 s2 2 q2
  obtain ⟨r7, p7, s7, e7, q7, -⟩ := draw_below x hn p6 s6 ml q6
  obtain ⟨r8, p8, s8, e8, q8, -⟩ := draw_below x hn p2 s2 ml q2
  have loop : ∀ (d n : Nat) (i j p s : Int), 0 ≤ i → 4 - i = d → d < n → 0 ≤ j → 0 ≤ p → ∃ p' s', 0 ≤ p' ∧ ((∃ a b c d, f_spec_l6DrawDeed.l0 n m j i x p s k y1 y2 0 0 0 0 = some (.inl (x, p', s', a, b, c, d))) ∨ f_spec_l6DrawDeed.l0 n m j i x p s k y1 y2 0 0 0 0 = some (.inr (x, p', s', 0, 0, 0, 0))) := by
    intro d
    induction d with
    | zero =>
      intro n i j p s i0 hd hk j0 hp
      obtain ⟨n, rfl⟩ := succ_fuel hk
      simp only [f_spec_l6DrawDeed.l0, decide_eq_false (show ¬ i < 4 by omega), cond_false]
      exact ⟨p, s, hp, .inr rfl⟩
    | succ d ih =>
      intro n i j p s i0 hd hk j0 hp
      obtain ⟨n, rfl⟩ := succ_fuel hk
      obtain ⟨a, p1, s1, e1, q1, a0, -⟩ := draw_below x hn p s m hp
      obtain ⟨b, p2, s2, e2, q2, b0, -⟩ := draw_below x hn p1 s1 m q1
      have go := ih n (i + 1) b p2 s2 (by omega) (by omega) (by omega) b0 q2
      simp only [f_spec_l6DrawDeed.l0, decide_eq_true (show i < 4 by omega), cond_true, e1, Option.bind_some, e2, w64 (show -9223372036854775808 ≤ i + 1 by omega) (by omega), decide_eq_true j0, decide_eq_true a0, Bool.true_and]
      cases hj : decide (j < (y1.length : Int)) with
      | false => simp only [cond_false]; exact go
      | true =>
        simp only [cond_true]
        cases ha : decide (a < (((y1.getD j.toNat (0, [], [], [], [])).2.2.2.1).length : Int)) with
        | false => simp only [cond_false]; exact go
        | true =>
          simp only [cond_true]
          cases hl : decide ((0 : Int) < (((((y1.getD j.toNat (0, [], [], [], [])).2.2.2.1).getD a.toNat (0, [])).2).length : Int)) with
          | false => simp only [cond_false]; exact go
          | true =>
            obtain ⟨c, p3, s3, e3, q3, -⟩ := draw_below x hn p1 s1 (((((y1.getD j.toNat (0, [], [], [], [])).2.2.2.1).getD a.toNat (0, [])).2).length : Int) q1
            simp only [cond_true, e3, Option.bind_some]
            exact ⟨p3, s3, q3, .inl ⟨_, _, _, _, rfl⟩⟩
  simp only [em, el, e1, e2, e3, e4, e5, e6, e7, e8, Option.bind_some]
  cases decide (r2 = 0) with
  | true => exact ⟨_, _, _, _, _, _, rfl, q4⟩
  | false =>
  cases decide (r2 = 1) with
  | true => exact ⟨_, _, _, _, _, _, rfl, q4⟩
  | false =>
  cases decide (r2 = 2) with
  | true => exact ⟨_, _, _, _, _, _, rfl, q4⟩
  | false =>
  cases decide (r2 = 3) with
  | true => exact ⟨_, _, _, _, _, _, rfl, q5⟩
  | false =>
  cases decide (r2 = 4) with
  | true => cases b6 <;> exact ⟨_, _, _, _, _, _, rfl, q7⟩
  | false =>
  cases decide (r2 = 5) with
  | true => exact ⟨_, _, _, _, _, _, rfl, q8⟩
  | false =>
  cases decide (r2 = 6) with
  | true => exact ⟨_, _, _, _, _, _, rfl, q8⟩
  | false =>
  cases decide (r2 = 7) with
  | true => exact ⟨_, _, _, _, _, _, rfl, q8⟩
  | false =>
  cases decide (r2 = 8) with
  | true => exact ⟨_, _, _, _, _, _, rfl, q8⟩
  | false =>
    obtain ⟨p', s', hp', h⟩ := loop 4 N 0 r1 p2 s2 (by omega) (by omega) (Nat.lt_trans (by omega) big) r10 q2
    rcases h with ⟨a, b, c, d, h⟩ | h
    · simp only [cond_false, h, Option.bind_some, cs]; exact ⟨_, _, _, _, _, _, rfl, hp'⟩
    · simp only [cond_false, h, Option.bind_some, cs]; exact ⟨_, _, _, _, _, _, rfl, hp'⟩
theorem new_gW (k : Nat) (h1 : 1 ≤ k) (h4 : k ≤ 4) : gW (k : Int) ((List.range k).map (nodeAt k)) [] ∧ siW ((List.range k).map (nodeAt k)) := by
  have hw := worldNew_ok (k : Int)
  unfold worldNewB at hw
  rw [if_pos (by omega)] at hw
  obtain ⟨-, -, hn, -⟩ := hw
  have hn : ∀ e ∈ (List.range k).map (nodeAt k), okNode e := hn
  have tF0 : tF (0, [], false) = true := rfl
  have tH0 : tH (k : Int) (homeNew (k : Int)) = true := by
    rcases (show k = 1 ∨ k = 2 ∨ k = 3 ∨ k = 4 by omega) with rfl | rfl | rfl | rfl <;> decide
  have tS0 : tS (0, []) = true := tS_of 0 [] (by simp) (fun e he => by cases he) (by omega) (by simp) rfl
  refine ⟨⟨⟨by simp; omega, by simp, hn, fun e he => by cases he⟩, ⟨⟨by omega, by omega⟩, by simp, by simp, fun j hj => ?_, fun e he => by cases he⟩⟩, fun e he h hh => ?_⟩
  · have hj : j < k := by simpa using hj
    rw [List.getElem_map, List.getElem_range]
    refine ⟨rfl, by simp [nodeAt], by simp [nodeAt], by simp [nodeAt], by simp [nodeAt], fun g hg => ?_, fun g hg => ?_, fun g hg => ?_, fun g hg => ?_⟩
    · rw [List.eq_of_mem_replicate hg]; exact tF0
    · rw [List.eq_of_mem_replicate hg]; exact tH0
    · rw [List.eq_of_mem_replicate hg]; exact tS0
    · rw [List.eq_of_mem_replicate hg]; omega
  · obtain ⟨j, -, rfl⟩ := List.mem_map.1 he
    rw [List.eq_of_mem_replicate hh]
    exact ⟨fun h => absurd h (by show ¬ (0 : Int) ≤ -1; omega), fun h => (by cases h), fun _ => rfl⟩
theorem right_l1 (x : List Int) (hn : x.length ≤ 1048576) (m : Int) (hm : m ≤ 100) (a b c e k : Int) (j1 : List NodeT) (j2 : List PacketT) (j3 : List NodeT) (j4 : List PacketT) (j5 : List NodeT) (j6 : List PacketT) : ∀ (d n : Nat) (i p s : Int) (z : List (Int × Int × Int × Int)) (y1 : List NodeT) (y2 : List PacketT), 0 ≤ i → m - i ≤ d → d < n → 0 ≤ p → (z.length : Int) ≤ i → i ≤ 101 → gW k y1 y2 → siW y1 →
    ∃ p' s' z' v1 v2, f_spec_l6DrawRight.l1 n m i x p s a b c e k z j1 j2 j3 j4 j5 j6 y1 y2 = some (x, p', s', a, b, c, e, k, z', j1, j2, j3, j4, j5, j6, v1, v2) ∧ 0 ≤ p' ∧ gW k v1 v2 ∧ siW v1 := by
  intro d
  induction d with
  | zero =>
    intro n i p s z y1 y2 i0 hd hk hp hz hi g si
    obtain ⟨n, rfl⟩ := succ_fuel hk
    simp only [f_spec_l6DrawRight.l1, decide_eq_false (show ¬ i < m by omega), cond_false]
    exact ⟨p, s, z, y1, y2, rfl, hp, g, si⟩
  | succ d ih =>
    intro n i p s z y1 y2 i0 hd hk hp hz hi g si
    obtain ⟨n, rfl⟩ := succ_fuel hk
    by_cases h : i < m
    · obtain ⟨da, db, dc, dd, p1, s1, e1, q1⟩ := drawDeed x hn p s k y1 y2 hp
      obtain ⟨z0, v1, v2, st, e2, e3⟩ := specWorldDo g da db dc dd
      simp only [f_spec_l6DrawRight.l1, decide_eq_true h, cond_true, e1, Option.bind_some, List.length_singleton, (blt_iff _ _).2 (show z.length + 1 < 4398046511104 by omega), e2, w64 (show -9223372036854775808 ≤ i + 1 by omega) (by omega)]
      by_cases hs : st = 0
      · obtain ⟨rfl, g2, si2⟩ := e3 hs
        simp only [decide_eq_true hs, cond_true]
        exact ih n (i + 1) p1 s1 _ v1 v2 (by omega) (by omega) (by omega) q1 (by rw [List.length_append, List.length_singleton]; omega) (by omega) g2 (si2 si)
      · simp only [decide_eq_false hs, cond_false]
        exact ih n (i + 1) p1 s1 _ y1 y2 (by omega) (by omega) (by omega) q1 (by rw [List.length_append, List.length_singleton]; omega) (by omega) g si
    · simp only [f_spec_l6DrawRight.l1, decide_eq_false h, cond_false]
      exact ⟨p, s, z, y1, y2, rfl, hp, g, si⟩
theorem right_l0 (x : List Int) (hn : x.length ≤ 1048576) (m : Int) (hm : m ≤ 100) (a b c e k : Int) (j1 : List NodeT) (j2 : List PacketT) (j3 : List NodeT) (j4 : List PacketT) (y1 : List NodeT) (y2 : List PacketT) (g : gW k y1 y2) (si : siW y1) : ∀ (d n : Nat) (i p s : Int) (z : List (Int × Int × Int × Int)), 0 ≤ i → m - i ≤ d → d < n → 0 ≤ p → (z.length : Int) ≤ i → i ≤ 101 →
    ∃ p' s' z', 0 ≤ p' ∧ ((∃ i' v1 v2, 0 ≤ i' ∧ i' ≤ 101 ∧ (z'.length : Int) ≤ i' ∧ gW k v1 v2 ∧ siW v1 ∧ f_spec_l6DrawRight.l0 n m i x p s a b c e k z j1 j2 j3 j4 y1 y2 = some (.inl (m, i', x, p', s', a, b, c, e, k, z', j1, j2, j3, j4, y1, y2, v1, v2))) ∨
      f_spec_l6DrawRight.l0 n m i x p s a b c e k z j1 j2 j3 j4 y1 y2 = some (.inr (x, p', s', a, b, c, e, k, z', j1, j2, j3, j4, y1, y2))) := by
  intro d
  induction d with
  | zero =>
    intro n i p s z i0 hd hk hp hz hi
    obtain ⟨n, rfl⟩ := succ_fuel hk
    simp only [f_spec_l6DrawRight.l0, decide_eq_false (show ¬ i < m by omega), cond_false]
    exact ⟨p, s, z, hp, .inr rfl⟩
  | succ d ih =>
    intro n i p s z i0 hd hk hp hz hi
    obtain ⟨n, rfl⟩ := succ_fuel hk
    by_cases h : i < m
    · obtain ⟨da, db, dc, dd, p1, s1, e1, q1⟩ := drawDeed x hn p s k y1 y2 hp
      obtain ⟨z0, v1, v2, st, e2, e3⟩ := specWorldDo g da db dc dd
      simp only [f_spec_l6DrawRight.l0, decide_eq_true h, cond_true, e1, Option.bind_some, List.length_singleton, (blt_iff _ _).2 (show z.length + 1 < 4398046511104 by omega), e2, w64 (show -9223372036854775808 ≤ i + 1 by omega) (by omega)]
      by_cases hs : st = 0
      · obtain ⟨rfl, g2, si2⟩ := e3 hs
        simp only [decide_eq_true hs, cond_true]
        exact ⟨p1, s1, _, q1, .inl ⟨i + 1, v1, v2, by omega, by omega, by rw [List.length_append, List.length_singleton]; omega, g2, si2 si, rfl⟩⟩
      · simp only [decide_eq_false hs, cond_false]
        exact ih n (i + 1) p1 s1 _ (by omega) (by omega) (by omega) q1 (by rw [List.length_append, List.length_singleton]; omega) (by omega)
    · simp only [f_spec_l6DrawRight.l0, decide_eq_false h, cond_false]
      exact ⟨p, s, z, hp, .inr rfl⟩
/-- A drawn world that is right. -/
theorem drawRight6 (x : List Int) (hn : x.length ≤ 1048576) (p s : Int) (hp : 0 ≤ p) : ∃ k y1 y2 p' s', f_spec_l6DrawRight x p s = some (k, y1, y2, p', s') ∧ 0 ≤ p' ∧ gW k y1 y2 ∧ siW y1 ∧ k ≤ 3 := by
  unfold f_spec_l6DrawRight
  obtain ⟨r, p1, s1, e1, q1, r0, r1, -⟩ := draw_below x hn p s 3 hp
  have r1 := r1 (by omega)
  obtain ⟨m, p2, s2, e2, q2, m0, m1, -⟩ := draw_below x hn p1 s1 51 q1
  have m1 := m1 (by omega)
  obtain ⟨k, hk⟩ : ∃ k : Nat, 1 + r = (k : Int) := ⟨(1 + r).toNat, by omega⟩
  obtain ⟨g, si⟩ := new_gW k (by omega) (by omega)
  have hw : worldNewB (k : Int) = ((k : Int), (List.range k).map (nodeAt k), [], true) := by
    unfold worldNewB
    rw [if_pos (by omega)]
    rfl
  have ew : IntKind.wrap .i64 (1 + r) = (k : Int) := by rw [w64 (show -9223372036854775808 ≤ 1 + r by omega) (by omega)]; exact hk
  simp only [e1, Option.bind_some, ew, specWorldNew, hw, e2]
  obtain ⟨p3, s3, z3, q3, ⟨i', v1, v2, i0, i1, hz, g2, si2, h⟩ | h⟩ := right_l0 x hn m (by omega) 0 0 0 (k : Int) (k : Int) [] [] [] [] _ _ g si 51 N 0 p2 s2 [] (by omega) (by omega) (Nat.lt_trans (by omega) big) q2 (by simp) (by omega)
  · obtain ⟨p4, s4, z4, w1, w2, h', q4, g3, si3⟩ := right_l1 x hn m (by omega) 0 0 0 (k : Int) (k : Int) [] [] [] [] ((List.range k).map (nodeAt k)) [] 100 N i' p3 s3 z3 v1 v2 i0 (by omega) (Nat.lt_trans (by omega) big) q3 hz i1 g2 si2
    simp only [h, Option.bind_some, cs, h']
    exact ⟨_, _, _, _, _, rfl, q4, g3, si3, by omega⟩
  · simp only [h, Option.bind_some, cs]
    exact ⟨_, _, _, _, _, rfl, q3, g, si, by omega⟩
def nbW (x1 : List NodeT) : Prop := ∀ e ∈ x1, ∀ h ∈ e.2.2.1, nbH h
/-- A drawn world, right or not. -/
theorem draw6 (x : List Int) (hn : x.length ≤ 1048576) (p s : Int) (hp : 0 ≤ p) : ∃ k y1 y2 p' s', f_spec_l6Draw x p s = some (k, y1, y2, p', s') ∧ 0 ≤ p' ∧ WorldK y1 y2 ∧ nbW y1 := by
  unfold f_spec_l6Draw
  obtain ⟨k, y1, y2, p1, s1, e1, q1, g, si, k3⟩ := drawRight6 x hn p s hp
  obtain ⟨a, p2, s2, e2, q2, -⟩ := draw_below x hn p1 s1 18 q1
  obtain ⟨r3, p3, s3, e3, q3, -⟩ := draw_below x hn p2 s2 6 q2
  obtain ⟨f1, f2, f3, p4, s4, e4, q4, lf⟩ := drawFrame x hn p2 s2 q2
  obtain ⟨r5, p5, s5, e5, q5, -⟩ := draw_below x hn p2 s2 4 q2
  obtain ⟨a6, b6, c6, w6, p6, s6, e6, q6, l6⟩ := drawMsg x hn p5 s5 q5
  obtain ⟨h7, p7, s7, e7, q7, nb7, hs7⟩ := draw4 x hn p2 s2 q2
  have k0 := g.2.k
  have hl1 := g.2.l1
  have hl2 := g.2.l2
  have nb : nbW y1 := fun e he h hh => si_nb (si e he h hh)
  obtain ⟨n0, n1, n2, q⟩ : (0 : Int) < (y1.length : Int) ∧ y1.getD 0 (0, [], [], [], []) ∈ y1 ∧ okNode (y1.getD 0 (0, [], [], [], [])) ∧ NodeFacts (y1.getD 0 (0, [], [], [], [])) k 0 := gNode g 0 (by omega) (by omega)
  have l1 := q.l1
  have l2 := q.l2
  have l4 := q.l4
  have set1 : ∀ e : NodeT, okNode e → WorldK (y1.set 0 e) y2 := fun e he => ⟨by rw [List.length_set]; exact g.1.l1, g.1.l2, fun f hf => by
    rcases mem_set hf with rfl | hf
    · exact he
    · exact g.1.e1 f hf, g.1.e2⟩
  rw [e1, Option.bind_some]
  simp only [e2, Option.bind_some]
  cases decide (a = 0) with
  | true => simp only [cond_true, e3, Option.bind_some]; exact ⟨_, _, _, _, _, rfl, q3, g.1, nb⟩
  | false =>
  cases decide (a = 1) with
  | true =>
    simp only [cond_true, cond_false, decide_eq_true n0, e4, Option.bind_some, decide_eq_true (show (0 : Int) < ((y1.getD 0 (0, [], [], [], [])).2.1.length : Int) by omega)]
    refine ⟨_, _, _, _, _, rfl, q4, set1 _ ⟨by rw [List.length_set]; exact n2.l1, n2.l2, n2.l3, n2.l4, fun e he => ?_, n2.e2, n2.e3⟩, fun e he h hh => ?_⟩
    · rcases mem_set he with rfl | he
      · show f2.length ≤ _; omega
      · exact n2.e1 e he
    · rcases mem_set he with rfl | he
      · exact nb _ n1 h hh
      · exact nb e he h hh
  | false =>
  cases decide (a = 2) with
  | true =>
    simp only [cond_true, cond_false, e5, e6, Option.bind_some, List.length_singleton, (blt_iff _ _).2 (show y2.length + 1 < 1759218604441 by omega)]
    refine ⟨_, _, _, _, _, rfl, q6, ⟨g.1.l1, by rw [List.length_append, List.length_singleton]; omega, g.1.e1, fun e he => ?_⟩, nb⟩
    rcases List.mem_append.1 he with he | he
    · exact g.1.e2 e he
    · rw [List.mem_singleton.1 he]; show w6.length ≤ _; omega
  | false =>
  cases decide (a = 3) with
  | true =>
    simp only [cond_true, cond_false, decide_eq_true n0, e7, Option.bind_some, decide_eq_true (show (0 : Int) < ((y1.getD 0 (0, [], [], [], [])).2.2.1.length : Int) by omega)]
    refine ⟨_, _, _, _, _, rfl, q7, set1 _ ⟨n2.l1, by rw [List.length_set]; exact n2.l2, n2.l3, n2.l4, n2.e1, fun e he => ?_, n2.e3⟩, fun e he h hh => ?_⟩
    · rcases mem_set he with rfl | he
      · exact hs7
      · exact n2.e2 e he
    · rcases mem_set he with rfl | he
      · rcases mem_set hh with rfl | hh
        · exact nb7
        · exact nb _ n1 h hh
      · exact nb e he h hh
  | false =>
  cases decide (a = 4) with
  | true =>
    simp only [cond_true, cond_false, decide_eq_true n0, Option.bind_some, decide_eq_true (show (0 : Int) < ((y1.getD 0 (0, [], [], [], [])).2.2.2.2.length : Int) by omega)]
    refine ⟨_, _, _, _, _, rfl, q2, set1 _ ⟨n2.l1, n2.l2, n2.l3, by rw [List.length_set]; exact n2.l4, n2.e1, n2.e2, n2.e3⟩, fun e he h hh => ?_⟩
    rcases mem_set he with rfl | he
    · exact nb _ n1 h hh
    · exact nb e he h hh
  | false =>
    simp only [cond_false]
    exact ⟨_, _, _, _, _, rfl, q2, g.1, nb⟩
theorem drawTruth (x : List Int) (hn : x.length ≤ 1048576) : ∃ k y1 y2 i, f_spec_DrawTruth x = some (k, y1, y2, i) ∧ WorldK y1 y2 ∧ nbW y1 := by
  unfold f_spec_DrawTruth
  obtain ⟨s0, e0⟩ := draw_new (F := fun n x s i => f_spec_DrawTruth.l0 n x s i 0) (G := fun x s => (x, s, (0 : Int))) (fun n x s i => rfl) x hn (IntKind.wrap .i64 (20404 + (x.length : Int)))
  have e0 : f_spec_DrawTruth.l0 N x (IntKind.wrap .i64 (20404 + (x.length : Int))) 0 0 = some (x, s0, 0) := e0
  obtain ⟨k, y1, y2, p1, s1, e1, q1, g, nb⟩ := draw6 x hn 0 s0 (Int.le_refl _)
  obtain ⟨i, p2, s2, e2, -⟩ := draw_below x hn p1 s1 8 q1
  simp only [e0, e1, e2, Option.bind_some]
  exact ⟨_, _, _, _, rfl, g, nb⟩
theorem drawComing (x : List Int) (hn : x.length ≤ 1048576) : ∃ k y1 y2 i j, f_spec_DrawComing x = some (k, y1, y2, i, j) ∧ WorldK y1 y2 := by
  unfold f_spec_DrawComing
  obtain ⟨s0, e0⟩ := draw_new (F := fun n x s i => f_spec_DrawComing.l0 n x s i 0) (G := fun x s => (x, s, (0 : Int))) (fun n x s i => rfl) x hn (IntKind.wrap .i64 (20404 + (x.length : Int)))
  have e0 : f_spec_DrawComing.l0 N x (IntKind.wrap .i64 (20404 + (x.length : Int))) 0 0 = some (x, s0, 0) := e0
  obtain ⟨k, y1, y2, p1, s1, e1, q1, g, nb⟩ := draw6 x hn 0 s0 (Int.le_refl _)
  obtain ⟨i, p2, s2, e2, q2, -⟩ := draw_below x hn p1 s1 4 q1
  obtain ⟨j, p3, s3, e3, q3, -⟩ := draw_below x hn p2 s2 9 q2
  obtain ⟨l, p4, s4, e4, q4, -⟩ := draw_below x hn p3 s3 4 q3
  simp only [e0, e1, e2, e3, e4, Option.bind_some]
  exact ⟨_, _, _, _, _, rfl, g⟩
theorem drawSane (x : List Int) (hn : x.length ≤ 1048576) : ∃ k y1 y2, f_spec_DrawSane x = some (k, y1, y2) ∧ WorldK y1 y2 := by
  unfold f_spec_DrawSane
  obtain ⟨s0, e0⟩ := draw_new (F := fun n x s i => f_spec_DrawSane.l0 n x s i 0) (G := fun x s => (x, s, (0 : Int))) (fun n x s i => rfl) x hn (IntKind.wrap .i64 (20404 + (x.length : Int)))
  have e0 : f_spec_DrawSane.l0 N x (IntKind.wrap .i64 (20404 + (x.length : Int))) 0 0 = some (x, s0, 0) := e0
  obtain ⟨k, y1, y2, p1, s1, e1, q1, g, nb⟩ := draw6 x hn 0 s0 (Int.le_refl _)
  simp only [e0, e1, Option.bind_some]
  exact ⟨_, _, _, rfl, g⟩
/-- In a sane world what a page's words are has four of them. -/
theorem sane_truth {x0 : Int} {x1 : List NodeT} {x2 : List PacketT} {p : Int} (h : (worldOkB x0 x1 x2 && saneL x0 x1) = true) (p0 : 0 ≤ p) (p1 : p < 6) : ((truthB x0 x1 x2 p).length : Int) = 4 := by
  rw [Bool.and_eq_true] at h
  unfold truthB
  have hr : rng p 5 = true := by unfold rng; rw [decide_eq_true p0, decide_eq_true (show p ≤ 5 by omega)]; rfl
  rw [h.1, hr]
  have hs := h.2
  unfold saneL at hs
  rw [Bool.and_eq_true] at hs
  have := List.all_eq_true.1 hs.1 p.toNat (List.mem_range.2 (by omega))
  rw [Bool.and_eq_true, Bool.and_eq_true, decide_eq_true_eq] at this
  rw [show ((p.toNat : Nat) : Int) = p by omega] at this
  exact this.2.1
theorem coming_in {x0 : Int} {x1 : List NodeT} {x2 : List PacketT} {i j : Int} (hl : (0 : Int) < ((comingB x0 x1 x2 i j).length : Int)) : (0 ≤ i ∧ i < (x1.length : Int)) ∧ (0 ≤ j ∧ j < ((x1.getD i.toNat (0, [], [], [], [])).2.2.2.1.length : Int)) ∧ (comingB x0 x1 x2 i j).length ≤ ((x1.getD i.toNat (0, [], [], [], [])).2.2.2.1.getD j.toNat (0, [])).2.length := by
  unfold comingB at hl ⊢
  cases hw : worldOkB x0 x1 x2 && (rng i (x0 - 1) && rng j (x0 - 1)) with
  | false => rw [hw] at hl; exact absurd hl (by simp)
  | true =>
    unfold rng at hw
    simp only [Bool.and_eq_true, decide_eq_true_eq] at hw
    obtain ⟨hw, ⟨i0, i1⟩, j0, j1⟩ := hw
    have w := worldFacts _ _ _ hw
    have l1 := w.l1
    have l3 := (worldAt w i i0 (by omega)).l3
    exact ⟨⟨i0, by omega⟩, ⟨j0, by omega⟩, (fltF_sub _ 0).2⟩
theorem truthLaw (x0 : List Int) : f_laws_FnTruth x0 = some true := by
  unfold f_laws_FnTruth f_laws_big f_spec_DrawAlone
  by_cases hb : (1048576 : Int) < (x0.length : Int)
  · rw [decide_eq_true hb]; rfl
  rw [decide_eq_false hb]
  have hn : x0.length ≤ 1048576 := by omega
  obtain ⟨k, y1, y2, p, e1, g1, -⟩ := drawTruth x0 hn
  obtain ⟨k', z1, z2, i, j, e2, g2⟩ := drawComing x0 hn
  obtain ⟨k'', w1, w2, e3, g3⟩ := drawSane x0 hn
  obtain ⟨t1, t2, t3⟩ := same_truth k y1 y2 p g1
  obtain ⟨s1, s2⟩ := same_sane k'' w1 w2 g3
  obtain ⟨s3, s4⟩ := same_sane k y1 y2 g1
  simp only [Option.bind_some, cond_false, e1, t1, t2, e2, implComing _ _ _ _ _ g2, specComing _ _ _ _ _ g2, e3, sameInts _ t3, Bool.not_true, decide_true, implAlone _ _ _ _ g1, specAlone _ _ _ _ g1, beq_self_eq_true, s1, s2, s4]
  have fin : (bif (!(worldOkB k y1 y2 && saneL k y1)) then some true else bif (decide (p < (0 : Int))) then some true else bif (decide ((6 : Int) ≤ p)) then some true else some (decide (((truthB k y1 y2 p).length : Int) = (4 : Int)))) = some true := by
    cases hs : worldOkB k y1 y2 && saneL k y1 with
    | false => rfl
    | true =>
      by_cases p0 : p < 0
      · simp only [Bool.not_true, cond_false, decide_eq_true p0, cond_true]
      · by_cases p6 : 6 ≤ p
        · simp only [Bool.not_true, cond_false, decide_eq_false p0, decide_eq_true p6, cond_true]
        · simp only [Bool.not_true, cond_false, decide_eq_false p0, decide_eq_false p6, sane_truth (p := p) hs (by omega) (by omega), decide_true]
  by_cases hl : (0 : Int) < ((comingB k' z1 z2 i j).length : Int)
  · obtain ⟨⟨i0, i1⟩, ⟨j0, j1⟩, hle⟩ := coming_in hl
    simp only [decide_eq_true hl, decide_eq_true i0, decide_eq_true i1, decide_eq_true j0, decide_eq_true j1, Bool.and_self, cond_true, decide_eq_false (show ¬ ((((z1.getD i.toNat (0, [], [], [], [])).2.2.2.1.getD j.toNat (0, [])).2).length : Int) < ((comingB k' z1 z2 i j).length : Int) by omega), cond_false]
    exact fin
  · simp only [decide_eq_false hl, cond_false]
    exact fin
theorem plain : Pure := fun x _ => truthLaw x
end Go.Abs
