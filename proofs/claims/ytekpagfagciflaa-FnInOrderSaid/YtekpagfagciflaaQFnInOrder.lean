/- The law FnInOrder returns true for all bytes that a draw is made of: whatever a net does with what was sent, what has arrived is a beginning of what was queued, in order. More than 2^20 bytes are not asked for. -/
import Derived.Test.YtekpagfagciflaaMFnInOrder
import Derived.Laws.BitsLemmas
namespace Go.Abs
open Go.RowKit
set_option linter.unusedVariables false
set_option linter.unusedSimpArgs false

theorem w64 {n : Int} (h0 : -9223372036854775808 ≤ n) (h1 : n ≤ 9223372036854775807) : IntKind.wrap .i64 n = n := by
  rw [IntKind.wrap_i64]
  omega
theorem succ_fuel {n d : Nat} (h : d < n) : ∃ m, n = m + 1 := ⟨n - 1, by omega⟩
theorem big : (1048577 : Nat) < N := by decide
theorem mem_getD {α : Type} (x : List α) (d : α) (i : Int) (h0 : 0 ≤ i) (h1 : i < x.length) : x.getD i.toNat d ∈ x := by
  have hlt : i.toNat < x.length := by omega
  rw [List.getD_eq_getElem?_getD, List.getElem?_eq_getElem hlt]
  exact List.getElem_mem hlt
theorem lt_N {x : Nat} (h : x ≤ 1048576) : x < N := Nat.lt_of_le_of_lt h (Nat.lt_trans (by omega) big)
def rg (x a b : Int) : Bool := decide (a ≤ x) && decide (x ≤ b)
theorem in_rg (x a b : Int) : f_spec_l1In x a b = some (rg x a b) := by
  unfold f_spec_l1In rg
  cases decide (a ≤ x) <;> rfl
theorem from_rg (x a b : Int) : f_impl_from x a b = some (rg x a b) := by
  unfold f_impl_from rg
  cases decide (a ≤ x) <;> rfl
theorem cp_gen {α τ : Type} {d : α} {F : Nat → Int → List α → Option τ} {R : List α → τ} (x : List α) (hx : x.length ≤ 1048576) (h0 : ∀ n i y, ¬ i < (x.length : Int) → F (n + 1) i y = some (R y))
    (h1 : ∀ n i y, 0 ≤ i → i < (x.length : Int) → x.getD i.toNat d ∈ x → y.length ≤ 1048576 → F (n + 1) i y = F n (i + 1) (y ++ [x.getD i.toNat d])) : F N 0 [] = some (R x) := by
  have step : ∀ (k n : Nat) (i : Int) (y : List α), 0 ≤ i → i ≤ x.length → (x.length : Int) - i = k → k < n → y = x.take i.toNat → F n i y = some (R x) := by
    intro k
    induction k with
    | zero =>
      intro n i y a0 a1 hd hn hy
      obtain ⟨n, rfl⟩ := succ_fuel hn
      rw [h0 n i y (by omega), hy, List.take_of_length_le (by omega)]
    | succ k ih =>
      intro n i y a0 a1 hd hn hy
      obtain ⟨n, rfl⟩ := succ_fuel hn
      rw [h1 n i y a0 (by omega) (mem_getD x d i a0 (by omega)) (by rw [hy, List.length_take]; omega)]
      refine ih n (i + 1) _ (by omega) (by omega) (by omega) (by omega) ?_
      have e : (i + 1).toNat = i.toNat + 1 := by omega
      have hlt : i.toNat < x.length := by omega
      rw [e, List.take_add_one, List.getElem?_eq_getElem hlt, hy, List.getD_eq_getElem?_getD, List.getElem?_eq_getElem hlt]
      rfl
  exact step x.length N 0 [] (by omega) (by omega) (by omega) (Nat.lt_of_le_of_lt hx (Nat.lt_trans (by omega) big)) rfl
abbrev MsgN : Type := Int × Int × Bool × Unit
abbrev PackN : Type := Int × Int × Bool × Int × Int × Int × Bool × Unit
abbrev dM : MsgN := (0, 0, false, ())
abbrev dP : PackN := (0, 0, false, 0, 0, 0, false, ())
/-- A message of the law. -/
def okE (e : MsgN) : Prop := e.1 = 1 ∧ 0 ≤ e.2.1 ∧ e.2.1 ≤ 5 ∧ e.2.2.1 = false
theorem copyI (a : Int) (x : List MsgN) (hn : x.length ≤ 1048576) : f_impl_copySender a x = some (a, x) := by
  unfold f_impl_copySender
  have c1 := cp_gen (d := dM) (F := fun n i y => f_impl_copySender.l0 n x (x.length : Int) i 0 a [] y) (R := fun y => (0, a, ([] : List MsgN), y)) x hn (fun n i y hi => by simp only [f_impl_copySender.l0, decide_eq_false hi, cond_false])
    (fun n i y a0 a1 hm hy => by
      simp only [f_impl_copySender.l0, f_impl_copyMsg, f_slices_Clone_int_int, decide_eq_true a0, decide_eq_true a1, cond_true, Bool.and_self, Option.bind_some, List.length_singleton, (blt_iff _ _).2 (show y.length + 1 < 2932031007402 by omega), w64 (show -9223372036854775808 ≤ i + 1 by omega) (by omega)])
  rw [c1]
  rfl
theorem copyS (a : Int) (x : List MsgN) (hn : x.length ≤ 1048576) : f_spec_l2Sender a x = some (a, x) := by
  unfold f_spec_l2Sender
  have c1 := cp_gen (d := dM) (F := fun n i y => f_spec_l2Sender.l0 n i a x 0 a [] y) (R := fun y => (0, a, ([] : List MsgN), y)) x hn (fun n i y hi => by simp only [f_spec_l2Sender.l0, decide_eq_false hi, cond_false])
    (fun n i y a0 a1 hm hy => by
      simp only [f_spec_l2Sender.l0, f_spec_l1Msg, decide_eq_true a0, decide_eq_true a1, cond_true, Bool.and_self, Option.bind_some, List.length_singleton, (blt_iff _ _).2 (show y.length + 1 < 2932031007402 by omega), w64 (show -9223372036854775808 ≤ i + 1 by omega) (by omega)])
  rw [c1]
  rfl
theorem msgI (e : MsgN) (h : okE e) : f_impl_MsgOk e.1 e.2.1 e.2.2.1 () = some true := by
  obtain ⟨h1, h2, h3, h4⟩ := h
  rw [h1, h4]
  unfold f_impl_MsgOk f_impl_isPage
  simp only [from_rg, Option.bind_some]
  have : rg e.2.1 0 5 = true := by unfold rg; rw [decide_eq_true h2, decide_eq_true h3]; rfl
  rw [this]
  rfl
theorem wordsS0 : f_spec_l1Words () 0 = some true := by
  unfold f_spec_l1Words
  have : f_spec_l1Words.l0 N 0 false 0 = some (0, false) := by
    obtain ⟨n, hn⟩ := succ_fuel (show 0 < N by decide)
    rw [hn]
    rfl
  rw [this]
  rfl
theorem msgSp (e : MsgN) (h : okE e) : f_spec_MsgOk e.1 e.2.1 e.2.2.1 () = some true := by
  obtain ⟨h1, h2, h3, h4⟩ := h
  rw [h1, h4]
  unfold f_spec_MsgOk
  simp only [in_rg, Option.bind_some, wordsS0]
  have : rg e.2.1 0 5 = true := by unfold rg; rw [decide_eq_true h2, decide_eq_true h3]; rfl
  rw [this]
  rfl
theorem senderI (a : Int) (x : List MsgN) (h0 : 0 ≤ a) (hl : x.length ≤ 30) (h1 : a + (x.length : Int) ≤ 100000) (he : ∀ e ∈ x, okE e) : f_impl_SenderOk a x = some true := by
  have loop : ∀ (k n : Nat) (i : Int), 0 ≤ i → i ≤ x.length → (x.length : Int) - i = k → k < n → f_impl_SenderOk.l0 n x 0 (x.length : Int) i a x = some (.inr (0, a, x)) := by
    intro k
    induction k with
    | zero =>
      intro n i a0 a1 hd hk
      obtain ⟨n, rfl⟩ := succ_fuel hk
      simp only [f_impl_SenderOk.l0]
      rw [decide_eq_false (show ¬ i < (x.length : Int) by omega), cond_false]
    | succ k ih =>
      intro n i a0 a1 hd hk
      obtain ⟨n, rfl⟩ := succ_fuel hk
      simp only [f_impl_SenderOk.l0, f_impl_SenderOk_1]
      rw [decide_eq_true (show i < (x.length : Int) by omega), decide_eq_true a0, w64 (show -9223372036854775808 ≤ i + 1 by omega) (by omega), msgI _ (he _ (mem_getD x dM i a0 (by omega)))]
      simp only [cond_true, Bool.and_self, Option.bind_some, Bool.not_true, cond_false]
      exact ih n (i + 1) (by omega) (by omega) (by omega) (by omega)
  unfold f_impl_SenderOk f_impl_isSeq
  simp only [from_rg, Option.bind_some, loop x.length N 0 (by omega) (by omega) (by omega) (lt_N (by omega))]
  have : rg a 0 100000 = true := by unfold rg; rw [decide_eq_true h0, decide_eq_true (show a ≤ 100000 by omega)]; rfl
  rw [this, decide_eq_true (show (x.length : Int) ≤ 30 by omega), w64 (show -9223372036854775808 ≤ a + (x.length : Int) by omega) (by omega), decide_eq_true h1]
  rfl
theorem senderS (a : Int) (x : List MsgN) (h0 : 0 ≤ a) (hl : x.length ≤ 30) (h1 : a + (x.length : Int) ≤ 100000) (he : ∀ e ∈ x, okE e) : f_spec_SenderOk a x = some true := by
  have loop : ∀ (k n : Nat) (i : Int), 0 ≤ i → i ≤ x.length → (x.length : Int) - i = k → k < n → f_spec_SenderOk.l0 n false i a x = some (.inr (false, a, x)) := by
    intro k
    induction k with
    | zero =>
      intro n i a0 a1 hd hk
      obtain ⟨n, rfl⟩ := succ_fuel hk
      simp only [f_spec_SenderOk.l0]
      rw [decide_eq_false (show ¬ i < (x.length : Int) by omega), cond_false]
    | succ k ih =>
      intro n i a0 a1 hd hk
      obtain ⟨n, rfl⟩ := succ_fuel hk
      simp only [f_spec_SenderOk.l0]
      rw [decide_eq_true (show i < (x.length : Int) by omega), decide_eq_true a0, w64 (show -9223372036854775808 ≤ i + 1 by omega) (by omega), msgSp _ (he _ (mem_getD x dM i a0 (by omega)))]
      simp only [cond_true, Bool.and_self, Option.bind_some, Bool.not_true, cond_false]
      exact ih n (i + 1) (by omega) (by omega) (by omega) (by omega)
  unfold f_spec_SenderOk
  simp only [in_rg, Option.bind_some, loop x.length N 0 (by omega) (by omega) (by omega) (lt_N (by omega)), cs]
  have : rg a 0 100000 = true := by unfold rg; rw [decide_eq_true h0, decide_eq_true (show a ≤ 100000 by omega)]; rfl
  rw [this, decide_eq_true (show (x.length : Int) ≤ 30 by omega), w64 (show -9223372036854775808 ≤ a + (x.length : Int) by omega) (by omega), decide_eq_true h1]
  rfl
def queueN (a : Int) (x : List MsgN) (m : MsgN) : Int × List MsgN × Bool := if x.length = 30 then (a, x, false) else (a, x ++ [m], true)
theorem queueI (a : Int) (x : List MsgN) (pg : Int) (h0 : 0 ≤ a) (hl : x.length ≤ 30) (h1 : a + (x.length : Int) ≤ 1000) (he : ∀ e ∈ x, okE e) (hp : 0 ≤ pg) (hp' : pg ≤ 5) :
    f_impl_Queue a x 1 pg false () = some (queueN a x (1, pg, false, ())) := by
  unfold f_impl_Queue queueN
  simp only [copyI a x (by omega), Option.bind_some, senderI a x h0 hl (by omega) he, msgI (1, pg, false, ()) ⟨rfl, hp, hp', rfl⟩, Bool.not_true, cond_false, f_impl_copyMsg, f_slices_Clone_int_int, List.length_singleton]
  by_cases h : x.length = 30
  · rw [if_pos h, decide_eq_true (show (x.length : Int) = 30 by omega)]; rfl
  · rw [if_neg h, decide_eq_false (show ¬ (x.length : Int) = 30 by omega), w64 (show -9223372036854775808 ≤ a + (x.length : Int) by omega) (by omega), decide_eq_false (show ¬ a + (x.length : Int) = 100000 by omega), (blt_iff _ _).2 (show x.length + 1 < 2932031007402 by omega)]
    rfl
theorem queueS (a : Int) (x : List MsgN) (pg : Int) (h0 : 0 ≤ a) (hl : x.length ≤ 30) (h1 : a + (x.length : Int) ≤ 1000) (he : ∀ e ∈ x, okE e) (hp : 0 ≤ pg) (hp' : pg ≤ 5) :
    f_spec_Queue a x 1 pg false () = some (queueN a x (1, pg, false, ())) := by
  unfold f_spec_Queue queueN
  simp only [copyS a x (by omega), Option.bind_some, senderS a x h0 hl (by omega) he, msgSp (1, pg, false, ()) ⟨rfl, hp, hp', rfl⟩, Bool.not_true, cond_false, f_spec_l1Msg, List.length_singleton]
  by_cases h : x.length = 30
  · rw [if_pos h, decide_eq_true (show (x.length : Int) = 30 by omega)]; rfl
  · rw [if_neg h, decide_eq_false (show ¬ (x.length : Int) = 30 by omega), w64 (show -9223372036854775808 ≤ a + (x.length : Int) by omega) (by omega), decide_eq_false (show ¬ a + (x.length : Int) = 100000 by omega), (blt_iff _ _).2 (show x.length + 1 < 2932031007402 by omega)]
    rfl
def ackedN (a : Int) (x : List MsgN) (n : Int) : Int × List MsgN := if a ≤ n ∧ n ≤ a + (x.length : Int) then (n, x.drop (n - a).toNat) else (a, x)
theorem ackedI (a : Int) (x : List MsgN) (n : Int) (h0 : 0 ≤ a) (hl : x.length ≤ 30) (h1 : a + (x.length : Int) ≤ 1000) (he : ∀ e ∈ x, okE e) : f_impl_Acked a x n = some (ackedN a x n) := by
  unfold f_impl_Acked ackedN
  simp only [copyI a x (by omega), Option.bind_some, senderI a x h0 hl (by omega) he, Bool.not_true, cond_false, w64 (show -9223372036854775808 ≤ a + (x.length : Int) by omega) (by omega), from_rg]
  unfold rg
  by_cases g1 : a ≤ n
  · by_cases g2 : n ≤ a + (x.length : Int)
    · rw [decide_eq_true g1, decide_eq_true g2, if_pos ⟨g1, g2⟩, w64 (show -9223372036854775808 ≤ n - a by omega) (by omega), decide_eq_true (show 0 ≤ n - a by omega), decide_eq_true (show n - a ≤ (x.length : Int) by omega), List.take_of_length_le (show (x.drop (n - a).toNat).length ≤ ((x.length : Int) - (n - a)).toNat by rw [List.length_drop]; omega)]
      rfl
    · rw [decide_eq_false g2, Bool.and_false, if_neg (fun h => g2 h.2)]; rfl
  · rw [decide_eq_false g1, Bool.false_and, if_neg (fun h => g1 h.1)]; rfl
def arrN (a q : Int) : Int × Bool := if q = a ∧ 0 ≤ a ∧ a ≤ 99999 then (a + 1, true) else (a, false)
theorem arrI (a q : Int) : f_impl_Arrived a q = some (arrN a q) := by
  unfold f_impl_Arrived arrN
  simp only [from_rg, Option.bind_some]
  unfold rg
  by_cases h : q = a
  · rw [decide_eq_true h]
    by_cases h0 : 0 ≤ a
    · by_cases h1 : a ≤ 99999
      · rw [decide_eq_true h0, decide_eq_true h1, if_pos ⟨h, h0, h1⟩, w64 (by omega) (by omega)]; rfl
      · rw [decide_eq_false h1, Bool.and_false, if_neg (fun h => h1 h.2.2)]; rfl
    · rw [decide_eq_false h0, if_neg (fun h => h0 h.2.1)]; rfl
  · rw [decide_eq_false h, if_neg (fun h' => h h'.1)]; rfl
theorem at_byte (x : List Int) (hx : ∀ e ∈ x, 0 ≤ e ∧ e ≤ 255) (hn : x.length ≤ 1048576) (i : Int) (h0 : 0 ≤ i) (h1 : i < 60) : ∃ a, f_laws_at x i = some a ∧ 0 ≤ a ∧ a ≤ 255 := by
  unfold f_laws_at
  by_cases h : i < (x.length : Int)
  · obtain ⟨e0, e1⟩ := hx _ (mem_getD x 0 i h0 h)
    rw [decide_eq_true h, decide_eq_true h0, w64 (show -9223372036854775808 ≤ x.getD i.toNat 0 by omega) (by omega)]
    exact ⟨_, rfl, e0, e1⟩
  · rw [decide_eq_false h, w64 (show -9223372036854775808 ≤ i * 7 by omega) (by omega), w64 (show -9223372036854775808 ≤ i * 7 + (x.length : Int) by omega) (by omega), Int.tmod_eq_emod_of_nonneg (by omega)]
    exact ⟨_, rfl, by omega, by omega⟩
/-- What is so between two rounds. -/
structure Inv (i a g : Int) (net : List PackN) (all got q : List MsgN) : Prop where
  i0 : 0 ≤ i
  i1 : i ≤ 60
  la : (all.length : Int) ≤ i
  ln : (net.length : Int) ≤ i
  ok : ∀ e ∈ all, okE e
  a0 : 0 ≤ a
  ag : a ≤ g
  gl : g ≤ (all.length : Int)
  hq : q = all.drop a.toNat
  lq : q.length ≤ 30
  hg : got = all.take g.toNat
  hn : ∀ p ∈ net, 0 ≤ p.2.2.2.1 ∧ p.2.2.2.1 < (all.length : Int) ∧ p.2.2.2.2 = all.getD p.2.2.2.1.toNat dM
theorem inv_okq {i a g : Int} {net : List PackN} {all got q : List MsgN} (h : Inv i a g net all got q) : ∀ e ∈ q, okE e := fun e he => h.ok e (by rw [h.hq] at he; exact List.mem_of_mem_drop he)
theorem inv_lenq {i a g : Int} {net : List PackN} {all got q : List MsgN} (h : Inv i a g net all got q) : a + (q.length : Int) = all.length := by
  have h1 := h.a0; have h2 := h.ag; have h3 := h.gl
  rw [h.hq, List.length_drop]; omega
theorem inv_same {i a g : Int} {net : List PackN} {all got q : List MsgN} (h : Inv i a g net all got q) (hi : i < 60) : Inv (i + 1) a g net all got q :=
  ⟨by have := h.i0; omega, by omega, by have := h.la; omega, by have := h.ln; omega, h.ok, h.a0, h.ag, h.gl, h.hq, h.lq, h.hg, h.hn⟩
theorem getD_app {α : Type} (x : List α) (m d : α) (i : Nat) (h : i < x.length) : (x ++ [m]).getD i d = x.getD i d := by
  rw [List.getD_eq_getElem?_getD, List.getD_eq_getElem?_getD, List.getElem?_append_left h]
theorem getD_drop {α : Type} (x : List α) (d : α) (i j : Nat) : (x.drop i).getD j d = x.getD (i + j) d := by
  rw [List.getD_eq_getElem?_getD, List.getD_eq_getElem?_getD, List.getElem?_drop]
theorem tm {k n : Int} (h0 : 0 ≤ k) (hn : 0 < n) : 0 ≤ Int.tmod k n ∧ Int.tmod k n < n := ⟨Int.tmod_nonneg n h0, Int.tmod_lt_of_pos k hn⟩
theorem run (x : List Int) (hx : ∀ e ∈ x, 0 ≤ e ∧ e ≤ 255) (hn : x.length ≤ 1048576) (b : Bool) (k : Nat) : ∀ (n : Nat) (i a g : Int) (net : List PackN) (all got q : List MsgN), Inv i a g net all got q → (60 : Int) - i = k → k < n →
    ∃ a' g' net' all' got' q', Inv 60 a' g' net' all' got' q' ∧ f_laws_FnInOrder.l0 n x b i a g net all got q = some (.inr (b, a', g', all', got', q')) := by
  induction k with
  | zero =>
    intro n i a g net all got q h hd hk
    obtain ⟨n, rfl⟩ := succ_fuel hk
    have : i = 60 := by omega
    subst this
    refine ⟨a, g, net, all, got, q, h, ?_⟩
    simp only [f_laws_FnInOrder.l0]
    rfl
  | succ k ih =>
    intro n i a g net all got q h hd hk
    obtain ⟨n, rfl⟩ := succ_fuel hk
    have hi0 := h.i0
    have hi : i < 60 := by omega
    obtain ⟨y, hy, y0, y1⟩ := at_byte x hx hn i hi0 hi
    have next : ∀ (a' g' : Int) (net' : List PackN) (all' got' q' : List MsgN), Inv (i + 1) a' g' net' all' got' q' → ∃ a2 g2 net2 all2 got2 q2, Inv 60 a2 g2 net2 all2 got2 q2 ∧ f_laws_FnInOrder.l0 n x b (i + 1) a' g' net' all' got' q' = some (.inr (b, a2, g2, all2, got2, q2)) :=
      fun a' g' net' all' got' q' h' => ih n (i + 1) a' g' net' all' got' q' h' (by omega) (by omega)
    have ha0 := h.a0; have hag := h.ag; have hgl := h.gl; have hla := h.la; have hln := h.ln; have hlq := h.lq; have hlen := inv_lenq h
    have t0 : 0 ≤ Int.tdiv y 4 := Int.tdiv_nonneg y0 (by decide)
    have t1 : Int.tdiv y 4 ≤ y := Int.tdiv_le_self 4 y0
    have tw : IntKind.wrap .i64 (Int.tdiv y 4) = Int.tdiv y 4 := w64 (by omega) (by omega)
    simp only [f_laws_FnInOrder.l0]
    rw [decide_eq_true hi, w64 (show -9223372036854775808 ≤ i + 1 by omega) (by omega), hy]
    simp only [cond_true, Option.bind_some, tw]
    generalize Int.tdiv y 4 = z at t0 t1 tw
    clear tw
    by_cases c0 : Int.tmod y 4 = 0
    · -- queued
      rw [decide_eq_true c0]
      obtain ⟨m0, m1⟩ := tm t0 (show (0 : Int) < 6 by decide)
      rw [queueI a q (Int.tmod z 6) ha0 hlq (by omega) (inv_okq h) m0 (by omega), queueS a q (Int.tmod z 6) ha0 hlq (by omega) (inv_okq h) m0 (by omega)]
      unfold queueN
      by_cases hf : q.length = 30
      · simp only [if_pos hf, Option.bind_some, cond_true, beq_self_eq_true, Bool.not_true, cond_false]
        exact next _ _ _ _ _ _ (inv_same h hi)
      · simp only [if_neg hf, Option.bind_some, cond_true, beq_self_eq_true, Bool.not_true, cond_false, List.length_singleton, (blt_iff _ _).2 (show all.length + 1 < 2932031007402 by omega)]
        refine next _ _ _ _ _ _ ⟨by omega, by omega, by rw [List.length_append, List.length_singleton]; omega, by omega, fun e he => ?_, ha0, hag, by rw [List.length_append, List.length_singleton]; omega, ?_, by rw [List.length_append, List.length_singleton]; omega, ?_, fun p hp => ?_⟩
        · rcases List.mem_append.1 he with he | he
          · exact h.ok e he
          · simp only [List.mem_singleton] at he; subst he; exact ⟨rfl, m0, show Int.tmod z 6 ≤ 5 by omega, rfl⟩
        · rw [List.drop_append_of_le_length (by omega), ← h.hq]
        · rw [List.take_append_of_le_length (by omega)]; exact h.hg
        · obtain ⟨p0, p1, p2⟩ := h.hn p hp
          refine ⟨p0, by rw [List.length_append, List.length_singleton]; omega, ?_⟩
          rw [getD_app _ _ _ _ (by omega)]; exact p2
    · rw [decide_eq_false c0]
      simp only [cond_false]
      by_cases c1 : Int.tmod y 4 = 1
      · -- sent
        rw [decide_eq_true c1]
        simp only [cond_true]
        by_cases hz : (0 : Int) < (q.length : Int)
        · obtain ⟨m0, m1⟩ := tm t0 hz
          rw [decide_eq_true hz, decide_eq_false (show ¬ (q.length : Int) = 0 by omega), decide_eq_true m0, decide_eq_true m1]
          generalize Int.tmod z (q.length : Int) = j at m0 m1
          simp only [cond_true, cond_false, Bool.and_self, List.length_singleton, (blt_iff _ _).2 (show net.length + 1 < 1759218604441 by omega), Option.bind_some, w64 (show -9223372036854775808 ≤ a + j by omega) (by omega)]
          refine next _ _ _ _ _ _ ⟨by omega, by omega, by omega, by rw [List.length_append, List.length_singleton]; omega, h.ok, ha0, hag, hgl, h.hq, hlq, h.hg, fun p hp => ?_⟩
          rcases List.mem_append.1 hp with hp | hp
          · exact h.hn p hp
          · simp only [List.mem_singleton] at hp
            subst hp
            refine ⟨show 0 ≤ a + j by omega, show a + j < (all.length : Int) by omega, ?_⟩
            show ((q.getD j.toNat dM).1, (q.getD j.toNat dM).2.1, (q.getD j.toNat dM).2.2.1, ()) = all.getD (a + j).toNat dM
            have e1 : all.getD (a + j).toNat dM = q.getD j.toNat dM := by
              rw [h.hq, getD_drop]; congr 1; omega
            rw [e1]
        · rw [decide_eq_false hz]
          exact next _ _ _ _ _ _ (inv_same h hi)
      · rw [decide_eq_false c1]
        simp only [cond_false]
        by_cases c2 : Int.tmod y 4 = 2
        · -- given
          rw [decide_eq_true c2]
          simp only [cond_true]
          by_cases hz : (0 : Int) < (net.length : Int)
          · obtain ⟨m0, m1⟩ := tm t0 hz
            rw [decide_eq_true hz, decide_eq_false (show ¬ (net.length : Int) = 0 by omega), decide_eq_true m0, decide_eq_true m1]
            generalize Int.tmod z (net.length : Int) = j at m0 m1
            obtain ⟨p0, p1, p2⟩ := h.hn _ (mem_getD net dP j m0 m1)
            simp only [cond_true, cond_false, Bool.and_self]
            rw [arrI]
            unfold arrN
            by_cases ha : (net.getD j.toNat dP).2.2.2.1 = g ∧ 0 ≤ g ∧ g ≤ 99999
            · have hgot : got.length = g.toNat := by rw [h.hg, List.length_take]; omega
              rw [if_pos ha]
              simp only [Option.bind_some, cond_true, List.length_singleton, (blt_iff _ _).2 (show got.length + 1 < 2932031007402 by omega)]
              refine next _ _ _ _ _ _ ⟨by omega, by omega, by omega, by omega, h.ok, ha0, by omega, by omega, h.hq, hlq, ?_, h.hn⟩
              have e1 : (g + 1).toNat = g.toNat + 1 := by omega
              have hlt : g.toNat < all.length := by omega
              have e2 : ((net.getD j.toNat dP).2.2.2.2.1, (net.getD j.toNat dP).2.2.2.2.2.1, (net.getD j.toNat dP).2.2.2.2.2.2.1, ()) = all.getD g.toNat dM := by
                rw [ha.1] at p2; rw [← p2]
              rw [e1, List.take_add_one, List.getElem?_eq_getElem hlt, ← h.hg]
              show got ++ [((net.getD j.toNat dP).2.2.2.2.1, (net.getD j.toNat dP).2.2.2.2.2.1, (net.getD j.toNat dP).2.2.2.2.2.2.1, ())] = got ++ [all[g.toNat]]
              rw [e2, List.getD_eq_getElem?_getD, List.getElem?_eq_getElem hlt]
              rfl
            · rw [if_neg ha]
              simp only [Option.bind_some, cond_false]
              exact next _ _ _ _ _ _ (inv_same h hi)
          · rw [decide_eq_false hz]
            exact next _ _ _ _ _ _ (inv_same h hi)
        · -- acknowledged
          rw [decide_eq_false c2]
          simp only [cond_false]
          obtain ⟨m0, m1⟩ := tm t0 (show (0 : Int) < 2 by decide)
          rw [w64 (show -9223372036854775808 ≤ g - Int.tmod z 2 by omega) (by omega)]
          generalize Int.tmod z 2 = j at m0 m1
          rw [ackedI a q (g - j) ha0 hlq (by omega) (inv_okq h)]
          unfold ackedN
          by_cases hc : a ≤ g - j ∧ g - j ≤ a + (q.length : Int)
          · rw [if_pos hc]
            simp only [Option.bind_some]
            refine next _ _ _ _ _ _ ⟨by omega, by omega, by omega, by omega, h.ok, by omega, by omega, hgl, ?_, by rw [List.length_drop]; omega, h.hg, h.hn⟩
            rw [h.hq, List.drop_drop]
            congr 1
            omega
          · rw [if_neg hc]
            exact next _ _ _ _ _ _ (inv_same h hi)
theorem pages (all got q : List MsgN) (a g : Int) (b : Bool) (hg : got = all.take g.toNat) (hl : all.length ≤ 60) (k : Nat) : ∀ (n : Nat) (i : Int), 0 ≤ i → i ≤ got.length → (got.length : Int) - i = k → k < n →
    f_laws_FnInOrder.l1 n b i a all got q = some (.inr (b, a, q)) := by
  have hle : got.length ≤ all.length := by rw [hg, List.length_take]; omega
  have hlg : got.length ≤ g.toNat := by rw [hg, List.length_take]; omega
  induction k with
  | zero =>
    intro n i h0 h1 hd hk
    obtain ⟨n, rfl⟩ := succ_fuel hk
    simp only [f_laws_FnInOrder.l1]
    rw [decide_eq_false (show ¬ i < (got.length : Int) by omega), cond_false]
  | succ k ih =>
    intro n i h0 h1 hd hk
    obtain ⟨n, rfl⟩ := succ_fuel hk
    simp only [f_laws_FnInOrder.l1]
    have e : got.getD i.toNat dM = all.getD i.toNat dM := by
      rw [hg, List.getD_eq_getElem?_getD, List.getD_eq_getElem?_getD, List.getElem?_take_of_lt (by omega)]
    rw [decide_eq_true (show i < (got.length : Int) by omega), decide_eq_true h0, decide_eq_true (show i < (all.length : Int) by omega), e, decide_eq_true (rfl : (all.getD i.toNat dM).2.1 = (all.getD i.toNat dM).2.1), w64 (show -9223372036854775808 ≤ i + 1 by omega) (by omega)]
    simp only [cond_true, Bool.and_self, Bool.not_true, cond_false]
    exact ih n (i + 1) (by omega) (by omega) (by omega) (by omega)
theorem inOrder (x : List Int) (hx : ∀ e ∈ x, 0 ≤ e ∧ e ≤ 255) : f_laws_FnInOrder x = some true := by
  unfold f_laws_FnInOrder f_laws_big
  by_cases hb : (1048576 : Int) < (x.length : Int)
  · rw [decide_eq_true hb]; rfl
  rw [decide_eq_false hb]
  have hn : x.length ≤ 1048576 := by omega
  obtain ⟨a, g, net, all, got, q, h, e⟩ := run x hx hn false 60 N 0 0 0 [] [] [] [] ⟨by decide, by decide, by decide, by decide, (fun _ h => by cases h), by decide, by decide, by decide, rfl, by decide, rfl, (fun _ h => by cases h)⟩ (by omega) (by decide)
  have ha0 := h.a0; have hag := h.ag; have hgl := h.gl; have hla := h.la; have hlq := h.lq; have hlen := inv_lenq h
  have hgot : got.length = g.toNat := by rw [h.hg, List.length_take]; omega
  simp only [Option.bind_some, cond_false, e, cs]
  rw [decide_eq_false (show ¬ (all.length : Int) < (got.length : Int) by omega), decide_eq_false (show ¬ g < a by omega), pages all got q a g false h.hg (by omega) got.length N 0 (by omega) (by omega) (by omega) (lt_N (by omega))]
  simp only [cond_false, Option.bind_some, senderI a q ha0 hlq (by omega) (inv_okq h)]
theorem bytes_of (x : List Int) (h : ∀ i, i < x.length → (Lit.int .u8 (x.getD i 0)).wf = true) : ∀ e ∈ x, 0 ≤ e ∧ e ≤ 255 := fun e he => by
  obtain ⟨i, hi, e1⟩ := List.getElem_of_mem he
  have h1 := h i hi
  simp only [Lit.wf, Bool.and_eq_true, decide_eq_true_eq] at h1
  have e2 : x.getD i 0 = e := by rw [List.getD_eq_getElem?_getD, List.getElem?_eq_getElem hi, e1]; rfl
  rw [e2] at h1
  exact h1
theorem plain : Pure := fun x h => inOrder x (bytes_of x h.2)
end Go.Abs
