/- The law FnExactWorldNew returns true for all numbers: the program's WorldNew gives what the reference's gives, in rows of its own. No condition. -/
import Derived.Test.YtdhjooflkiagaaaMFnExactWorldNew
import Derived.Laws.BitsLemmas
namespace Go.Abs
open Go.RowKit
set_option linter.unusedVariables false
set_option linter.unusedSimpArgs false

theorem w64 {n : Int} (h0 : -9223372036854775808 ≤ n) (h1 : n ≤ 9223372036854775807) : IntKind.wrap .i64 n = n := by
  rw [IntKind.wrap_i64]
  omega
theorem succ_fuel {n d : Nat} (h : d < n) : ∃ m, n = m + 1 := ⟨n - 1, by omega⟩
theorem big : (1048577 : Nat) < N := by decide
theorem mem_getD {α : Type} (x : List α) (d : α) (i : Int) (h0 : 0 ≤ i) (h1 : i < x.length) : x.getD i.toNat d ∈ x := by
  have hlt : i.toNat < x.length := by omega
  rw [List.getD_eq_getElem?_getD, List.getElem?_eq_getElem hlt]
  exact List.getElem_mem hlt
theorem drop_getD {α : Type} (x : List α) (d : α) (i : Int) (h0 : 0 ≤ i) (h1 : i < x.length) : x.drop i.toNat = x.getD i.toNat d :: x.drop (i + 1).toNat := by
  have hlt : i.toNat < x.length := by omega
  have e : (i + 1).toNat = i.toNat + 1 := by omega
  rw [e, List.drop_eq_getElem_cons hlt, List.getD_eq_getElem?_getD, List.getElem?_eq_getElem hlt]
  rfl
theorem eq_gen {α : Type} {d : α} {F : Nat → List α → List α → Bool → Int → Option (Bool ⊕ Bool)} {q : α → α → Option Bool}
    (hs : ∀ n x y b i, F (n + 1) x y b i = bif decide (i < (x.length : Int)) then (bif (decide ((0 : Int) ≤ i) && decide (i < (x.length : Int))) then (bif (decide ((0 : Int) ≤ i) && decide (i < (y.length : Int))) then (q (x.getD i.toNat d) (y.getD i.toNat d)).bind fun r => (bif (!r) then some (.inl false) else F n x y b (IntKind.wrap .i64 (i + 1))) else none) else none) else some (.inr b))
    (x : List α) (hn : x.length ≤ 1048576) (hq : ∀ e ∈ x, q e e = some true) (b : Bool) (k : Nat) : ∀ (n : Nat) (i : Int), 0 ≤ i → i ≤ x.length → (x.length : Int) - i = k → k < n → F n x x b i = some (.inr b) := by
  induction k with
  | zero =>
    intro n i h0 h1 hd hk
    obtain ⟨n, rfl⟩ := succ_fuel hk
    rw [hs, decide_eq_false (by omega), cond_false]
  | succ k ih =>
    intro n i h0 h1 hd hk
    obtain ⟨n, rfl⟩ := succ_fuel hk
    have hw : IntKind.wrap .i64 (i + 1) = i + 1 := w64 (by omega) (by omega)
    rw [hs, decide_eq_true (show i < (x.length : Int) by omega), decide_eq_true h0, hw, hq _ (mem_getD x d i h0 (by omega))]
    simp only [cond_true, Bool.and_self, Option.bind_some, Bool.not_true, cond_false]
    exact ih n (i + 1) (by omega) (by omega) (by omega) (by omega)
theorem lt_N {x : Nat} (h : x ≤ 1048576) : x < N := Nat.lt_of_le_of_lt h (Nat.lt_trans (by omega) big)
def rg (x a b : Int) : Bool := decide (a ≤ x) && decide (x ≤ b)
theorem in_rg (x a b : Int) : f_spec_l1In x a b = some (rg x a b) := by
  unfold f_spec_l1In rg
  cases decide (a ≤ x) <;> rfl
theorem from_rg (x a b : Int) : f_impl_from x a b = some (rg x a b) := by
  unfold f_impl_from rg
  cases decide (a ≤ x) <;> rfl
theorem eqIntS_loop (x : List Int) (hn : x.length ≤ 1048576) (b : Bool) (d : Nat) : ∀ (n : Nat) (i : Int), 0 ≤ i → i ≤ x.length → (x.length : Int) - i = d → d < n → f_laws_eqIntS.l0 n x x b i = some (.inr b) := by
  induction d with
  | zero =>
    intro n i h0 h1 hd hk
    obtain ⟨n, rfl⟩ := succ_fuel hk
    simp only [f_laws_eqIntS.l0]
    rw [decide_eq_false (by omega), cond_false]
  | succ d ih =>
    intro n i h0 h1 hd hk
    obtain ⟨n, rfl⟩ := succ_fuel hk
    have hw : IntKind.wrap .i64 (i + 1) = i + 1 := w64 (by omega) (by omega)
    simp only [f_laws_eqIntS.l0]
    rw [decide_eq_true (show i < (x.length : Int) by omega), decide_eq_true h0, hw]
    simp only [cond_true, Bool.and_self, decide_true, Bool.not_true, cond_false]
    exact ih n (i + 1) (by omega) (by omega) (by omega) (by omega)
theorem eqIntS (x : List Int) (hn : x.length ≤ 1048576) : f_laws_eqIntS x x = some true := by
  unfold f_laws_eqIntS
  simp only [decide_true, Bool.not_true, cond_false]
  rw [eqIntS_loop x hn false x.length N 0 (by omega) (by omega) (by omega) (Nat.lt_of_le_of_lt (by omega) big)]
  rfl
theorem eqFrame_self (a : Int) (x : List Int) (c : Bool) (hn : x.length ≤ 1048576) : f_laws_eqFrame a x c a x c = some true := by
  unfold f_laws_eqFrame
  simp only [decide_true, Bool.not_true, cond_false, beq_self_eq_true, eqIntS x hn, Option.bind_some]
theorem eqMsg_self (a b : Int) (c : Bool) (x : List Int) (hn : x.length ≤ 1048576) : f_laws_eqMsg a b c x a b c x = some true := by
  unfold f_laws_eqMsg
  simp only [decide_true, Bool.not_true, cond_false, beq_self_eq_true, eqIntS x hn, Option.bind_some]
abbrev MsgL := Int × Int × Bool × List Int
theorem eqMsgS (x : List MsgL) (hn : x.length ≤ 1048576) (he : ∀ e ∈ x, e.2.2.2.length ≤ 1048576) : f_laws_eqMsgS x x = some true := by
  unfold f_laws_eqMsgS
  simp only [decide_true, Bool.not_true, cond_false]
  rw [eq_gen (F := f_laws_eqMsgS.l0) (q := fun e f => f_laws_eqMsg e.1 e.2.1 e.2.2.1 e.2.2.2 f.1 f.2.1 f.2.2.1 f.2.2.2) (d := (0, 0, false, [])) (fun n x y b i => rfl) x hn (fun e hm => eqMsg_self _ _ _ _ (he e hm)) false x.length N 0 (by omega) (by omega) (by omega) (lt_N hn)]
  rfl
theorem eqPacket_self (x0 x1 : Int) (x2 : Bool) (x3 x4 x5 : Int) (x6 : Bool) (x7 : List Int) (hn : x7.length ≤ 1048576) : f_laws_eqPacket x0 x1 x2 x3 x4 x5 x6 x7 x0 x1 x2 x3 x4 x5 x6 x7 = some true := by
  unfold f_laws_eqPacket
  simp only [decide_true, Bool.not_true, cond_false, beq_self_eq_true, eqMsg_self _ _ _ _ hn, Option.bind_some]
theorem eqSender_self (a : Int) (x : List MsgL) (hn : x.length ≤ 1048576) (he : ∀ e ∈ x, e.2.2.2.length ≤ 1048576) : f_laws_eqSender a x a x = some true := by
  unfold f_laws_eqSender
  simp only [decide_true, Bool.not_true, cond_false, eqMsgS x hn he, Option.bind_some]
structure HomeS (x0 : List Int) (x2 : List Bool) (x7 : List (Int × Bool)) : Prop where
  g0 : x0.length ≤ 1048576
  g2 : x2.length ≤ 1048576
  g7 : x7.length ≤ 1048576
theorem eqBoolS (x : List Bool) (hn : x.length ≤ 1048576) : f_laws_eqBoolS x x = some true := by
  unfold f_laws_eqBoolS
  simp only [decide_true, Bool.not_true, cond_false]
  rw [eq_gen (d := false) (F := f_laws_eqBoolS.l0) (q := fun a b => some (a == b)) (fun n x y b i => rfl) x hn (fun e _ => by simp) false x.length N 0 (by omega) (by omega) (by omega) (lt_N hn)]
  rfl
theorem eqWait_self (a : Int) (b : Bool) : f_laws_eqWait a b a b = some true := by
  unfold f_laws_eqWait
  simp
theorem eqWaitS (x : List (Int × Bool)) (hn : x.length ≤ 1048576) : f_laws_eqWaitS x x = some true := by
  unfold f_laws_eqWaitS
  simp only [decide_true, Bool.not_true, cond_false]
  rw [eq_gen (d := ((0 : Int), false)) (F := f_laws_eqWaitS.l0) (q := fun a b => f_laws_eqWait a.1 a.2 b.1 b.2) (fun n x y b i => rfl) x hn (fun e _ => eqWait_self _ _) false x.length N 0 (by omega) (by omega) (by omega) (lt_N hn)]
  rfl
theorem eqHome_self (x0 : List Int) (x1 : Int) (x2 : List Bool) (x3 : Bool) (x4 : Int) (x5 : Bool) (x6 : Int) (x7 : List (Int × Bool)) (g0 : x0.length ≤ 1048576) (g2 : x2.length ≤ 1048576) (g7 : x7.length ≤ 1048576) : f_laws_eqHome x0 x1 x2 x3 x4 x5 x6 x7 x0 x1 x2 x3 x4 x5 x6 x7 = some true := by
  unfold f_laws_eqHome
  simp only [eqIntS x0 g0, eqBoolS x2 g2, eqWaitS x7 g7, eqWait_self, decide_true, beq_self_eq_true, Bool.not_true, cond_false, Option.bind_some]
abbrev FrameT := Int × List Int × Bool
def okFrame (e : FrameT) : Prop := e.2.1.length ≤ 1048576
theorem eqFrameS (x : List FrameT) (hn : x.length ≤ 1048576) (he : ∀ e ∈ x, okFrame e) : f_laws_eqFrameS x x = some true := by
  unfold f_laws_eqFrameS
  simp only [decide_true, Bool.not_true, cond_false]
  rw [eq_gen (F := f_laws_eqFrameS.l0) (q := fun e f => f_laws_eqFrame e.1 e.2.1 e.2.2 f.1 f.2.1 f.2.2) (d := (0, [], false)) (fun n x y b i => rfl) x hn (fun e hm => eqFrame_self _ _ _ (he e hm)) false x.length N 0 (by omega) (by omega) (by omega) (lt_N hn)]
  rfl
abbrev HomeT := List Int × Int × List Bool × Bool × Int × Bool × Int × List (Int × Bool)
def okHome (e : HomeT) : Prop := HomeS e.1 e.2.2.1 e.2.2.2.2.2.2.2
theorem eqHomeS' (x : List HomeT) (hn : x.length ≤ 1048576) (he : ∀ e ∈ x, okHome e) : f_laws_eqHomeS x x = some true := by
  unfold f_laws_eqHomeS
  simp only [decide_true, Bool.not_true, cond_false]
  rw [eq_gen (F := f_laws_eqHomeS.l0) (q := fun e f => f_laws_eqHome e.1 e.2.1 e.2.2.1 e.2.2.2.1 e.2.2.2.2.1 e.2.2.2.2.2.1 e.2.2.2.2.2.2.1 e.2.2.2.2.2.2.2 f.1 f.2.1 f.2.2.1 f.2.2.2.1 f.2.2.2.2.1 f.2.2.2.2.2.1 f.2.2.2.2.2.2.1 f.2.2.2.2.2.2.2) (d := ([], 0, [], false, 0, false, 0, [])) (fun n x y b i => rfl) x hn (fun e hm => eqHome_self _ _ _ _ _ _ _ _ (he e hm).g0 (he e hm).g2 (he e hm).g7) false x.length N 0 (by omega) (by omega) (by omega) (lt_N hn)]
  rfl
abbrev SenderT := Int × List MsgL
def okSender (e : SenderT) : Prop := e.2.length ≤ 1048576 ∧ ∀ f ∈ e.2, f.2.2.2.length ≤ 1048576
theorem eqSenderS (x : List SenderT) (hn : x.length ≤ 1048576) (he : ∀ e ∈ x, okSender e) : f_laws_eqSenderS x x = some true := by
  unfold f_laws_eqSenderS
  simp only [decide_true, Bool.not_true, cond_false]
  rw [eq_gen (F := f_laws_eqSenderS.l0) (q := fun e f => f_laws_eqSender e.1 e.2 f.1 f.2) (d := (0, [])) (fun n x y b i => rfl) x hn (fun e hm => eqSender_self _ _ (he e hm).1 (he e hm).2) false x.length N 0 (by omega) (by omega) (by omega) (lt_N hn)]
  rfl
theorem eqReceiverS (x : List Int) (hn : x.length ≤ 1048576) : f_laws_eqReceiverS x x = some true := by
  unfold f_laws_eqReceiverS
  simp only [decide_true, Bool.not_true, cond_false]
  rw [eq_gen (d := (0 : Int)) (F := f_laws_eqReceiverS.l0) (q := f_laws_eqReceiver) (fun n x y b i => rfl) x hn (fun e _ => by unfold f_laws_eqReceiver; simp) false x.length N 0 (by omega) (by omega) (by omega) (lt_N hn)]
  rfl
structure NodeK (x1 : List FrameT) (x2 : List HomeT) (x3 : List SenderT) (x4 : List Int) : Prop where
  l1 : x1.length ≤ 1048576
  l2 : x2.length ≤ 1048576
  l3 : x3.length ≤ 1048576
  l4 : x4.length ≤ 1048576
  e1 : ∀ e ∈ x1, okFrame e
  e2 : ∀ e ∈ x2, okHome e
  e3 : ∀ e ∈ x3, okSender e
theorem eqNode_self (x0 : Int) (x1 : List FrameT) (x2 : List HomeT) (x3 : List SenderT) (x4 : List Int) (h : NodeK x1 x2 x3 x4) : f_laws_eqNode x0 x1 x2 x3 x4 x0 x1 x2 x3 x4 = some true := by
  unfold f_laws_eqNode
  simp only [decide_true, eqFrameS x1 h.l1 h.e1, eqHomeS' x2 h.l2 h.e2, eqSenderS x3 h.l3 h.e3, eqReceiverS x4 h.l4, Option.bind_some, Bool.not_true, cond_false]
theorem getD_set_self {α : Type} (x : List α) (d e : α) (i : Int) (h0 : 0 ≤ i) (h1 : i < x.length) : (x.set i.toNat e).getD i.toNat d = e := by
  rw [List.getD_eq_getElem?_getD, List.getElem?_set_self (by omega)]; rfl
theorem getD_set_other {α : Type} (x : List α) (d e : α) (i j : Nat) (h : i ≠ j) : (x.set i e).getD j d = x.getD j d := by
  rw [List.getD_eq_getElem?_getD, List.getElem?_set_ne h, List.getD_eq_getElem?_getD]
theorem mhB_loop {α : Type} {d : α} {F : Nat → Int → Int → Int → List α → Option (Int × Int × List α)} {H : Nat → List α → Int → Int → Int → Option (Int ⊕ (Int × Int))} {P : α → Prop} {M B : Int} (hM : 0 ≤ M)
    (f0 : ∀ n c q i x, ¬ i < (x.length : Int) → F (n + 1) c q i x = some (c, q, x)) (g0 : ∀ n x c q i, ¬ i < (x.length : Int) → H (n + 1) x c q i = some (.inr (c, q)))
    (f1 : ∀ c e, P e → 0 ≤ c → c ≤ B → ∃ e' c', c ≤ c' ∧ c' ≤ c + M ∧ (∀ n q i (x : List α), x.length ≤ 1048576 → 0 ≤ i → i < (x.length : Int) → x.getD i.toNat d = e → F (n + 1) c q i x = F n c' q (i + 1) (x.set i.toNat e')) ∧
      ∀ n q i (x : List α), x.length ≤ 1048576 → 0 ≤ i → i < (x.length : Int) → x.getD i.toNat d = e' → H (n + 1) x c q i = H n x c' q (i + 1))
    (k : Nat) : ∀ (n m : Nat) (x : List α) (c q q' i : Int), x.length ≤ 1048576 → (∀ j : Nat, i.toNat ≤ j → j < x.length → P (x.getD j d)) → 0 ≤ c → c + M * k ≤ B → 0 ≤ i → i ≤ x.length → (x.length : Int) - i = k → k < n → k < m →
      ∃ y c', F n c q i x = some (c', q, y) ∧ y.length = x.length ∧ c ≤ c' ∧ c' ≤ c + M * k ∧ (∀ j : Nat, j < i.toNat → y.getD j d = x.getD j d) ∧ H m y c q' i = some (.inr (c', q')) := by
  induction k with
  | zero =>
    intro n m x c q q' i hx hp hc0 hc1 h0 h1 hd hn hm
    obtain ⟨n, rfl⟩ := succ_fuel hn
    obtain ⟨m, rfl⟩ := succ_fuel hm
    exact ⟨x, c, f0 n c q i x (by omega), rfl, Int.le_refl _, by omega, fun _ _ => rfl, g0 m x c q' i (by omega)⟩
  | succ k ih =>
    intro n m x c q q' i hx hp hc0 hc1 h0 h1 hd hn hm
    obtain ⟨n, rfl⟩ := succ_fuel hn
    obtain ⟨m, rfl⟩ := succ_fuel hm
    have e1 : M * ((k + 1 : Nat) : Int) = M * (k : Int) + M := by rw [Int.natCast_add, Int.mul_add]; simp
    have e2 : 0 ≤ M * (k : Int) := Int.mul_nonneg hM (by omega)
    rw [e1] at hc1 ⊢
    obtain ⟨e', c1, b1, b2, b3, b4⟩ := f1 c _ (hp i.toNat (Nat.le_refl _) (by omega)) hc0 (by omega)
    obtain ⟨y, c', h2, h3, h4, h5, h6, h7⟩ := ih n m (x.set i.toNat e') c1 q q' (i + 1) (by rw [List.length_set]; exact hx) (fun j h2 h3 => by
      rw [List.length_set] at h3
      rw [getD_set_other x d e' i.toNat j (by omega)]
      exact hp j (by omega) h3) (by omega) (by omega) (by omega) (by rw [List.length_set]; omega) (by rw [List.length_set]; omega) (by omega) (by omega)
    rw [List.length_set] at h3
    refine ⟨y, c', ?_, h3, by omega, by omega, fun j hj => ?_, ?_⟩
    · rw [b3 n q i x hx h0 (by omega) rfl]; exact h2
    · rw [h6 j (by omega)]
      exact getD_set_other x d e' i.toNat j (by omega)
    · rw [b4 m q' i y (by omega) h0 (by omega) (by rw [h6 i.toNat (by omega)]; exact getD_set_self x d e' i h0 (by omega))]
      exact h7
/-- (with a bound.) What is marked from c on, holds what was marked. -/
theorem mhB_gen {α : Type} {d : α} {F : Nat → Int → Int → Int → List α → Option (Int × Int × List α)} {H : Nat → List α → Int → Int → Int → Option (Int ⊕ (Int × Int))} {P : α → Prop} {M B : Int} (hM : 0 ≤ M)
    (f0 : ∀ n c q i x, ¬ i < (x.length : Int) → F (n + 1) c q i x = some (c, q, x)) (g0 : ∀ n x c q i, ¬ i < (x.length : Int) → H (n + 1) x c q i = some (.inr (c, q)))
    (f1 : ∀ c e, P e → 0 ≤ c → c ≤ B → ∃ e' c', c ≤ c' ∧ c' ≤ c + M ∧ (∀ n q i (x : List α), x.length ≤ 1048576 → 0 ≤ i → i < (x.length : Int) → x.getD i.toNat d = e → F (n + 1) c q i x = F n c' q (i + 1) (x.set i.toNat e')) ∧
      ∀ n q i (x : List α), x.length ≤ 1048576 → 0 ≤ i → i < (x.length : Int) → x.getD i.toNat d = e' → H (n + 1) x c q i = H n x c' q (i + 1))
    (x : List α) (hx : x.length ≤ 1048576) (hp : ∀ e ∈ x, P e) (c : Int) (h0 : 0 ≤ c) (h1 : c + M * x.length ≤ B) : ∃ y c', F N c 0 0 x = some (c', 0, y) ∧ y.length = x.length ∧ c ≤ c' ∧ c' ≤ c + M * x.length ∧ H N y c 0 0 = some (.inr (c', 0)) := by
  have hN : x.length < N := Nat.lt_of_le_of_lt hx (Nat.lt_trans (by omega) big)
  obtain ⟨y, c', a1, a2, a3, a4, _, a5⟩ := mhB_loop (d := d) hM f0 g0 f1 x.length N N x c 0 0 0 hx (fun j _ hj => hp _ (by
    rw [List.getD_eq_getElem?_getD, List.getElem?_eq_getElem hj]
    exact List.getElem_mem hj)) h0 h1 (by omega) (by omega) (by omega) hN hN
  exact ⟨y, c', a1, a2, a3, a4, a5⟩
def sumW {α : Type} (W : α → Int) : List α → Int
  | [] => 0
  | a :: x => W a + sumW W x
theorem sumW_nonneg {α : Type} {W : α → Int} (hW : ∀ e, 0 ≤ W e) : ∀ x : List α, 0 ≤ sumW W x
  | [] => Int.le_refl _
  | a :: x => by have := hW a; have := sumW_nonneg hW x; simp only [sumW]; omega
theorem mhW_loop {α : Type} {d : α} {F : Nat → Int → Int → Int → List α → Option (Int × Int × List α)} {H : Nat → List α → Int → Int → Int → Option (Int ⊕ (Int × Int))} {P : α → Prop} {W : α → Int} {B : Int} (hW : ∀ e, 0 ≤ W e)
    (f0 : ∀ n c q i x, ¬ i < (x.length : Int) → F (n + 1) c q i x = some (c, q, x)) (g0 : ∀ n x c q i, ¬ i < (x.length : Int) → H (n + 1) x c q i = some (.inr (c, q)))
    (f1 : ∀ c e, P e → 0 ≤ c → c + W e ≤ B → ∃ e' c', c ≤ c' ∧ c' ≤ c + W e ∧ (∀ n q i (x : List α), x.length ≤ 1048576 → 0 ≤ i → i < (x.length : Int) → x.getD i.toNat d = e → F (n + 1) c q i x = F n c' q (i + 1) (x.set i.toNat e')) ∧
      ∀ n q i (x : List α), x.length ≤ 1048576 → 0 ≤ i → i < (x.length : Int) → x.getD i.toNat d = e' → H (n + 1) x c q i = H n x c' q (i + 1))
    (k : Nat) : ∀ (n m : Nat) (x : List α) (c q q' i : Int), x.length ≤ 1048576 → (∀ j : Nat, i.toNat ≤ j → j < x.length → P (x.getD j d)) → 0 ≤ c → c + sumW W (x.drop i.toNat) ≤ B → 0 ≤ i → i ≤ x.length → (x.length : Int) - i = k → k < n → k < m →
      ∃ y c', F n c q i x = some (c', q, y) ∧ y.length = x.length ∧ c ≤ c' ∧ c' ≤ c + sumW W (x.drop i.toNat) ∧ (∀ j : Nat, j < i.toNat → y.getD j d = x.getD j d) ∧ H m y c q' i = some (.inr (c', q')) := by
  induction k with
  | zero =>
    intro n m x c q q' i hx hp hc0 hc1 h0 h1 hd hn hm
    obtain ⟨n, rfl⟩ := succ_fuel hn
    obtain ⟨m, rfl⟩ := succ_fuel hm
    have := sumW_nonneg hW (x.drop i.toNat)
    exact ⟨x, c, f0 n c q i x (by omega), rfl, Int.le_refl _, by omega, fun _ _ => rfl, g0 m x c q' i (by omega)⟩
  | succ k ih =>
    intro n m x c q q' i hx hp hc0 hc1 h0 h1 hd hn hm
    obtain ⟨n, rfl⟩ := succ_fuel hn
    obtain ⟨m, rfl⟩ := succ_fuel hm
    have e1 : sumW W (x.drop i.toNat) = W (x.getD i.toNat d) + sumW W (x.drop (i + 1).toNat) := by rw [drop_getD x d i h0 (by omega)]; rfl
    have e2 : 0 ≤ sumW W (x.drop (i + 1).toNat) := sumW_nonneg hW _
    rw [e1] at hc1 ⊢
    obtain ⟨e', c1, b1, b2, b3, b4⟩ := f1 c _ (hp i.toNat (Nat.le_refl _) (by omega)) hc0 (by omega)
    have e3 : (x.set i.toNat e').drop (i + 1).toNat = x.drop (i + 1).toNat := by rw [List.drop_set_of_lt (by omega)]
    obtain ⟨y, c', h2, h3, h4, h5, h6, h7⟩ := ih n m (x.set i.toNat e') c1 q q' (i + 1) (by rw [List.length_set]; exact hx) (fun j h2 h3 => by
      rw [List.length_set] at h3
      rw [getD_set_other x d e' i.toNat j (by omega)]
      exact hp j (by omega) h3) (by omega) (by rw [e3]; omega) (by omega) (by rw [List.length_set]; omega) (by rw [List.length_set]; omega) (by omega) (by omega)
    rw [List.length_set] at h3
    rw [e3] at h5
    refine ⟨y, c', ?_, h3, by omega, by omega, fun j hj => ?_, ?_⟩
    · rw [b3 n q i x hx h0 (by omega) rfl]; exact h2
    · rw [h6 j (by omega)]
      exact getD_set_other x d e' i.toNat j (by omega)
    · rw [b4 m q' i y (by omega) h0 (by omega) (by rw [h6 i.toNat (by omega)]; exact getD_set_self x d e' i h0 (by omega))]
      exact h7
/-- (with weights.) What is marked from c on, holds what was marked. -/
theorem mhW_gen {α : Type} {d : α} {F : Nat → Int → Int → Int → List α → Option (Int × Int × List α)} {H : Nat → List α → Int → Int → Int → Option (Int ⊕ (Int × Int))} {P : α → Prop} {W : α → Int} {B : Int} (hW : ∀ e, 0 ≤ W e)
    (f0 : ∀ n c q i x, ¬ i < (x.length : Int) → F (n + 1) c q i x = some (c, q, x)) (g0 : ∀ n x c q i, ¬ i < (x.length : Int) → H (n + 1) x c q i = some (.inr (c, q)))
    (f1 : ∀ c e, P e → 0 ≤ c → c + W e ≤ B → ∃ e' c', c ≤ c' ∧ c' ≤ c + W e ∧ (∀ n q i (x : List α), x.length ≤ 1048576 → 0 ≤ i → i < (x.length : Int) → x.getD i.toNat d = e → F (n + 1) c q i x = F n c' q (i + 1) (x.set i.toNat e')) ∧
      ∀ n q i (x : List α), x.length ≤ 1048576 → 0 ≤ i → i < (x.length : Int) → x.getD i.toNat d = e' → H (n + 1) x c q i = H n x c' q (i + 1))
    (x : List α) (hx : x.length ≤ 1048576) (hp : ∀ e ∈ x, P e) (c : Int) (h0 : 0 ≤ c) (h1 : c + sumW W x ≤ B) : ∃ y c', F N c 0 0 x = some (c', 0, y) ∧ y.length = x.length ∧ c ≤ c' ∧ c' ≤ c + sumW W x ∧ H N y c 0 0 = some (.inr (c', 0)) := by
  have hN : x.length < N := Nat.lt_of_le_of_lt hx (Nat.lt_trans (by omega) big)
  obtain ⟨y, c', a1, a2, a3, a4, _, a5⟩ := mhW_loop (d := d) hW f0 g0 f1 x.length N N x c 0 0 0 hx (fun j _ hj => hp _ (by
    rw [List.getD_eq_getElem?_getD, List.getElem?_eq_getElem hj]
    exact List.getElem_mem hj)) h0 (by simpa using h1) (by omega) (by omega) (by omega) hN hN
  exact ⟨y, c', a1, a2, a3, by simpa using a4, a5⟩
theorem markIntB (x : List Int) (hx : x.length ≤ 1048576) (c : Int) (h0 : 0 ≤ c) (h1 : c ≤ 1152921504606846976) : ∃ y c', f_laws_markIntS x c = some (c', y) ∧ y.length = x.length ∧ c ≤ c' ∧ c' ≤ c + x.length ∧ f_laws_heldIntS y c = some c' := by
  obtain ⟨y, c', a1, a2, a3, a4, a5⟩ := mhB_gen (d := (0 : Int)) (F := f_laws_markIntS.l0) (H := f_laws_heldIntS.l0) (P := fun _ => True) (M := 1) (B := 2305843009213693952) (by omega)
    (fun n c q i x h => by simp only [f_laws_markIntS.l0, decide_eq_false h, cond_false]) (fun n x c q i h => by simp only [f_laws_heldIntS.l0, decide_eq_false h, cond_false])
    (fun c e _ h0 h1 => ⟨c, c + 1, by omega, by omega, fun n q i x hx hi0 hi1 _ => by
      simp only [f_laws_markIntS.l0, decide_eq_true hi1, decide_eq_true hi0, cond_true, Bool.and_self, Option.bind_some, w64 (show -9223372036854775808 ≤ c + 1 by omega) (by omega), w64 (show -9223372036854775808 ≤ i + 1 by omega) (by omega)],
      fun n q i x hx hi0 hi1 he => by
      simp only [f_laws_heldIntS.l0, decide_eq_true hi1, decide_eq_true hi0, cond_true, Bool.and_self, he, decide_true, Bool.not_true, cond_false, w64 (show -9223372036854775808 ≤ c + 1 by omega) (by omega), w64 (show -9223372036854775808 ≤ i + 1 by omega) (by omega)]⟩)
    x hx (fun _ _ => trivial) c h0 (by omega)
  refine ⟨y, c', ?_, a2, a3, by omega, ?_⟩
  · unfold f_laws_markIntS; rw [a1]; rfl
  · unfold f_laws_heldIntS; rw [a5]; rfl
theorem markBoolB (x : List Bool) (hx : x.length ≤ 1048576) (c : Int) (h0 : 0 ≤ c) (h1 : c ≤ 1152921504606846976) : ∃ y c', f_laws_markBoolS x c = some (c', y) ∧ y.length = x.length ∧ c ≤ c' ∧ c' ≤ c + x.length ∧ f_laws_heldBoolS y c = some c' := by
  obtain ⟨y, c', a1, a2, a3, a4, a5⟩ := mhB_gen (d := false) (F := f_laws_markBoolS.l0) (H := f_laws_heldBoolS.l0) (P := fun _ => True) (M := 1) (B := 2305843009213693952) (by omega)
    (fun n c q i x h => by simp only [f_laws_markBoolS.l0, decide_eq_false h, cond_false]) (fun n x c q i h => by simp only [f_laws_heldBoolS.l0, decide_eq_false h, cond_false])
    (fun c e _ h0 h1 => ⟨decide (Int.tmod c 3 = 0), c + 1, by omega, by omega, fun n q i x hx hi0 hi1 _ => by
      simp only [f_laws_markBoolS.l0, decide_eq_true hi1, decide_eq_true hi0, cond_true, Bool.and_self, Option.bind_some, w64 (show -9223372036854775808 ≤ c + 1 by omega) (by omega), w64 (show -9223372036854775808 ≤ i + 1 by omega) (by omega)],
      fun n q i x hx hi0 hi1 he => by
      simp only [f_laws_heldBoolS.l0, decide_eq_true hi1, decide_eq_true hi0, cond_true, Bool.and_self, he, beq_self_eq_true, Bool.not_true, cond_false, w64 (show -9223372036854775808 ≤ c + 1 by omega) (by omega), w64 (show -9223372036854775808 ≤ i + 1 by omega) (by omega)]⟩)
    x hx (fun _ _ => trivial) c h0 (by omega)
  refine ⟨y, c', ?_, a2, a3, by omega, ?_⟩
  · unfold f_laws_markBoolS; rw [a1]; rfl
  · unfold f_laws_heldBoolS; rw [a5]; rfl
theorem markWaitB (x : List (Int × Bool)) (hx : x.length ≤ 1048576) (c : Int) (h0 : 0 ≤ c) (h1 : c ≤ 1152921504606846976) : ∃ y c', f_laws_markWaitS x c = some (c', y) ∧ y.length = x.length ∧ c ≤ c' ∧ c' ≤ c + 2 * x.length ∧ f_laws_heldWaitS y c = some c' := by
  obtain ⟨y, c', a1, a2, a3, a4, a5⟩ := mhB_gen (d := ((0 : Int), false)) (F := f_laws_markWaitS.l0) (H := f_laws_heldWaitS.l0) (P := fun _ => True) (M := 2) (B := 2305843009213693952) (by omega)
    (fun n c q i x h => by simp only [f_laws_markWaitS.l0, decide_eq_false h, cond_false]) (fun n x c q i h => by simp only [f_laws_heldWaitS.l0, decide_eq_false h, cond_false])
    (fun c e _ h0 h1 => ⟨(c, decide (Int.tmod (c + 1) 3 = 0)), c + 1 + 1, by omega, by omega, fun n q i x hx hi0 hi1 _ => by
      simp only [f_laws_markWaitS.l0, decide_eq_true hi1, decide_eq_true hi0, cond_true, Bool.and_self, Option.bind_some, w64 (show -9223372036854775808 ≤ c + 1 by omega) (by omega), w64 (show -9223372036854775808 ≤ c + 1 + 1 by omega) (by omega), w64 (show -9223372036854775808 ≤ i + 1 by omega) (by omega), List.length_set, List.set_set, getD_set_self _ _ _ i hi0 hi1],
      fun n q i x hx hi0 hi1 he => by
      simp only [f_laws_heldWaitS.l0, decide_eq_true hi1, decide_eq_true hi0, cond_true, Bool.and_self, he, beq_self_eq_true, decide_true, Bool.not_true, cond_false, w64 (show -9223372036854775808 ≤ c + 1 by omega) (by omega), w64 (show -9223372036854775808 ≤ c + 1 + 1 by omega) (by omega), w64 (show -9223372036854775808 ≤ i + 1 by omega) (by omega)]⟩)
    x hx (fun _ _ => trivial) c h0 (by omega)
  refine ⟨y, c', ?_, a2, a3, by omega, ?_⟩
  · unfold f_laws_markWaitS; rw [a1]; rfl
  · unfold f_laws_heldWaitS; rw [a5]; rfl
def wFrame (e : FrameT) : Int := 2 + (e.2.1.length : Int)
def wHome (e : HomeT) : Int := 5 + (e.1.length : Int) + (e.2.2.1.length : Int) + 2 * (e.2.2.2.2.2.2.2.length : Int)
def wMsg (e : MsgL) : Int := 3 + (e.2.2.2.length : Int)
def wSender (e : SenderT) : Int := 1 + sumW wMsg e.2
theorem wMsg0 (e : MsgL) : 0 ≤ wMsg e := by unfold wMsg; omega
theorem wSender0 (e : SenderT) : 0 ≤ wSender e := by have := sumW_nonneg wMsg0 e.2; unfold wSender; omega
theorem markFrameW (x : List FrameT) (hx : x.length ≤ 1048576) (he : ∀ e ∈ x, okFrame e) (c : Int) (h0 : 0 ≤ c) (h1 : c + sumW wFrame x ≤ 1152921504606846976) : ∃ y c', f_laws_markFrameS x c = some (c', y) ∧ y.length = x.length ∧ c ≤ c' ∧ c' ≤ c + sumW wFrame x ∧ f_laws_heldFrameS y c = some c' := by
  obtain ⟨y, c', a1, a2, a3, a4, a5⟩ := mhW_gen (d := ((0 : Int), ([] : List Int), false)) (F := f_laws_markFrameS.l0) (H := f_laws_heldFrameS.l0) (P := okFrame) (W := wFrame) (B := 1152921504606846976) (fun e => by unfold wFrame; omega)
    (fun n c q i x h => by simp only [f_laws_markFrameS.l0, decide_eq_false h, cond_false]) (fun n x c q i h => by simp only [f_laws_heldFrameS.l0, decide_eq_false h, cond_false])
    (fun c e he h0 h1 => by
      unfold wFrame at h1 ⊢
      have hel : e.2.1.length ≤ 1048576 := he
      obtain ⟨y, c1, b1, b2, b3, b4, b5⟩ := markIntB e.2.1 hel (c + 1) (by omega) (by omega)
      refine ⟨(c, y, decide (Int.tmod c1 3 = 0)), c1 + 1, by omega, by omega, fun n q i x hx hi0 hi1 hxe => ?_, fun n q i x hx hi0 hi1 hxe => ?_⟩
      · simp only [f_laws_markFrameS.l0, decide_eq_true hi1, decide_eq_true hi0, cond_true, Bool.and_self, hxe, Option.bind_some, List.length_set, List.set_set, getD_set_self x _ _ i hi0 hi1, w64 (show -9223372036854775808 ≤ c + 1 by omega) (by omega), b1, w64 (show -9223372036854775808 ≤ i + 1 by omega) (by omega), w64 (show -9223372036854775808 ≤ c1 + 1 by omega) (by omega)]
      · simp only [f_laws_heldFrameS.l0, decide_eq_true hi1, decide_eq_true hi0, cond_true, Bool.and_self, hxe, decide_true, Bool.not_true, cond_false, w64 (show -9223372036854775808 ≤ c + 1 by omega) (by omega), b5, Option.bind_some, decide_eq_false (show ¬ c1 < 0 by omega), beq_self_eq_true, w64 (show -9223372036854775808 ≤ i + 1 by omega) (by omega), w64 (show -9223372036854775808 ≤ c1 + 1 by omega) (by omega)])
    x hx he c h0 h1
  refine ⟨y, c', ?_, a2, a3, a4, ?_⟩
  · unfold f_laws_markFrameS; rw [a1]; rfl
  · unfold f_laws_heldFrameS; rw [a5]; rfl
theorem markHomeW (x : List HomeT) (hx : x.length ≤ 1048576) (he : ∀ e ∈ x, okHome e) (c : Int) (h0 : 0 ≤ c) (h1 : c + sumW wHome x ≤ 1152921504606846976) : ∃ y c', f_laws_markHomeS x c = some (c', y) ∧ y.length = x.length ∧ c ≤ c' ∧ c' ≤ c + sumW wHome x ∧ f_laws_heldHomeS y c = some c' := by
  obtain ⟨y, c', a1, a2, a3, a4, a5⟩ := mhW_gen (d := (([] : List Int), (0 : Int), ([] : List Bool), false, (0 : Int), false, (0 : Int), ([] : List (Int × Bool)))) (F := f_laws_markHomeS.l0) (H := f_laws_heldHomeS.l0) (P := okHome) (W := wHome) (B := 1152921504606846976) (fun e => by unfold wHome; omega)
    (fun n c q i x h => by simp only [f_laws_markHomeS.l0, decide_eq_false h, cond_false]) (fun n x c q i h => by simp only [f_laws_heldHomeS.l0, decide_eq_false h, cond_false])
    (fun c e he h0 h1 => by
      unfold wHome at h1 ⊢
      obtain ⟨y, c1, b1, b2, b3, b4, b5⟩ := markIntB e.1 he.g0 c (by omega) (by omega)
      obtain ⟨y2, c2, d1, d2, d3, d4, d5⟩ := markBoolB e.2.2.1 he.g2 (c1 + 1) (by omega) (by omega)
      obtain ⟨y3, c3, g1, g2, g3, g4, g5⟩ := markWaitB e.2.2.2.2.2.2.2 he.g7 (c2 + 4) (by omega) (by omega)
      refine ⟨(y, c1, y2, decide (Int.tmod c2 3 = 0), c2 + 1, decide (Int.tmod (c2 + 2) 3 = 0), c2 + 3, y3), c3, by omega, by omega, fun n q i x hx hi0 hi1 hxe => ?_, fun n q i x hx hi0 hi1 hxe => ?_⟩
      · simp only [f_laws_markHomeS.l0, decide_eq_true hi1, decide_eq_true hi0, cond_true, Bool.and_self, hxe, b1, Option.bind_some, List.length_set, List.set_set, getD_set_self x _ _ i hi0 hi1, w64 (show -9223372036854775808 ≤ c1 + 1 by omega) (by omega), d1, w64 (show -9223372036854775808 ≤ c2 + 1 by omega) (by omega), show c2 + 1 + 1 = c2 + 2 by omega, w64 (show -9223372036854775808 ≤ c2 + 2 by omega) (by omega), show c2 + 2 + 1 = c2 + 3 by omega, w64 (show -9223372036854775808 ≤ c2 + 3 by omega) (by omega), show c2 + 3 + 1 = c2 + 4 by omega, w64 (show -9223372036854775808 ≤ c2 + 4 by omega) (by omega), g1, w64 (show -9223372036854775808 ≤ i + 1 by omega) (by omega)]
      · simp only [f_laws_heldHomeS.l0, decide_eq_true hi1, decide_eq_true hi0, cond_true, Bool.and_self, hxe, b5, Option.bind_some, decide_eq_false (show ¬ c1 < 0 by omega), cond_false, decide_true, Bool.not_true, w64 (show -9223372036854775808 ≤ c1 + 1 by omega) (by omega), d5, decide_eq_false (show ¬ c2 < 0 by omega), beq_self_eq_true, w64 (show -9223372036854775808 ≤ c2 + 1 by omega) (by omega), show c2 + 1 + 1 = c2 + 2 by omega, w64 (show -9223372036854775808 ≤ c2 + 2 by omega) (by omega), show c2 + 2 + 1 = c2 + 3 by omega, w64 (show -9223372036854775808 ≤ c2 + 3 by omega) (by omega), show c2 + 3 + 1 = c2 + 4 by omega, w64 (show -9223372036854775808 ≤ c2 + 4 by omega) (by omega), g5, decide_eq_false (show ¬ c3 < 0 by omega), w64 (show -9223372036854775808 ≤ i + 1 by omega) (by omega)])
    x hx he c h0 h1
  refine ⟨y, c', ?_, a2, a3, a4, ?_⟩
  · unfold f_laws_markHomeS; rw [a1]; rfl
  · unfold f_laws_heldHomeS; rw [a5]; rfl
theorem markMsgW (x : List MsgL) (hx : x.length ≤ 1048576) (he : ∀ e ∈ x, e.2.2.2.length ≤ 1048576) (c : Int) (h0 : 0 ≤ c) (h1 : c + sumW wMsg x ≤ 1152921504606846976) : ∃ y c', f_laws_markMsgS x c = some (c', y) ∧ y.length = x.length ∧ c ≤ c' ∧ c' ≤ c + sumW wMsg x ∧ f_laws_heldMsgS y c = some c' := by
  obtain ⟨y, c', a1, a2, a3, a4, a5⟩ := mhW_gen (d := ((0 : Int), (0 : Int), false, ([] : List Int))) (F := f_laws_markMsgS.l0) (H := f_laws_heldMsgS.l0) (P := fun e : MsgL => e.2.2.2.length ≤ 1048576) (W := wMsg) (B := 1152921504606846976) wMsg0
    (fun n c q i x h => by simp only [f_laws_markMsgS.l0, decide_eq_false h, cond_false]) (fun n x c q i h => by simp only [f_laws_heldMsgS.l0, decide_eq_false h, cond_false])
    (fun c e he h0 h1 => by
      unfold wMsg at h1 ⊢
      obtain ⟨y, c1, b1, b2, b3, b4, b5⟩ := markIntB e.2.2.2 he (c + 3) (by omega) (by omega)
      refine ⟨(c, c + 1, decide (Int.tmod (c + 2) 3 = 0), y), c1, by omega, by omega, fun n q i x hx hi0 hi1 hxe => ?_, fun n q i x hx hi0 hi1 hxe => ?_⟩
      · simp only [f_laws_markMsgS.l0, decide_eq_true hi1, decide_eq_true hi0, cond_true, Bool.and_self, hxe, Option.bind_some, List.length_set, List.set_set, getD_set_self x _ _ i hi0 hi1, w64 (show -9223372036854775808 ≤ c + 1 by omega) (by omega), w64 (show -9223372036854775808 ≤ i + 1 by omega) (by omega), show c + 1 + 1 = c + 2 by omega, w64 (show -9223372036854775808 ≤ c + 2 by omega) (by omega), show c + 2 + 1 = c + 3 by omega, w64 (show -9223372036854775808 ≤ c + 3 by omega) (by omega), b1]
      · simp only [f_laws_heldMsgS.l0, decide_eq_true hi1, decide_eq_true hi0, cond_true, Bool.and_self, hxe, w64 (show -9223372036854775808 ≤ c + 1 by omega) (by omega), w64 (show -9223372036854775808 ≤ i + 1 by omega) (by omega), show c + 1 + 1 = c + 2 by omega, w64 (show -9223372036854775808 ≤ c + 2 by omega) (by omega), show c + 2 + 1 = c + 3 by omega, w64 (show -9223372036854775808 ≤ c + 3 by omega) (by omega), b5, Option.bind_some, decide_eq_false (show ¬ c1 < 0 by omega), cond_false, decide_true, Bool.not_true, beq_self_eq_true])
    x hx he c h0 h1
  refine ⟨y, c', ?_, a2, a3, a4, ?_⟩
  · unfold f_laws_markMsgS; rw [a1]; rfl
  · unfold f_laws_heldMsgS; rw [a5]; rfl
theorem markSenderW (x : List SenderT) (hx : x.length ≤ 1048576) (he : ∀ e ∈ x, okSender e) (c : Int) (h0 : 0 ≤ c) (h1 : c + sumW wSender x ≤ 1152921504606846976) : ∃ y c', f_laws_markSenderS x c = some (c', y) ∧ y.length = x.length ∧ c ≤ c' ∧ c' ≤ c + sumW wSender x ∧ f_laws_heldSenderS y c = some c' := by
  obtain ⟨y, c', a1, a2, a3, a4, a5⟩ := mhW_gen (d := ((0 : Int), ([] : List MsgL))) (F := f_laws_markSenderS.l0) (H := f_laws_heldSenderS.l0) (P := okSender) (W := wSender) (B := 1152921504606846976) wSender0
    (fun n c q i x h => by simp only [f_laws_markSenderS.l0, decide_eq_false h, cond_false]) (fun n x c q i h => by simp only [f_laws_heldSenderS.l0, decide_eq_false h, cond_false])
    (fun c e he h0 h1 => by
      unfold wSender at h1 ⊢
      obtain ⟨y, c1, b1, b2, b3, b4, b5⟩ := markMsgW e.2 he.1 he.2 (c + 1) (by omega) (by omega)
      have hs := sumW_nonneg wMsg0 e.2
      refine ⟨(c, y), c1, by omega, by omega, fun n q i x hx hi0 hi1 hxe => ?_, fun n q i x hx hi0 hi1 hxe => ?_⟩
      · simp only [f_laws_markSenderS.l0, decide_eq_true hi1, decide_eq_true hi0, cond_true, Bool.and_self, hxe, Option.bind_some, List.length_set, List.set_set, getD_set_self x _ _ i hi0 hi1, w64 (show -9223372036854775808 ≤ c + 1 by omega) (by omega), w64 (show -9223372036854775808 ≤ i + 1 by omega) (by omega), b1]
      · simp only [f_laws_heldSenderS.l0, decide_eq_true hi1, decide_eq_true hi0, cond_true, Bool.and_self, hxe, w64 (show -9223372036854775808 ≤ c + 1 by omega) (by omega), w64 (show -9223372036854775808 ≤ i + 1 by omega) (by omega), b5, Option.bind_some, decide_eq_false (show ¬ c1 < 0 by omega), cond_false, decide_true, Bool.not_true])
    x hx he c h0 h1
  refine ⟨y, c', ?_, a2, a3, a4, ?_⟩
  · unfold f_laws_markSenderS; rw [a1]; rfl
  · unfold f_laws_heldSenderS; rw [a5]; rfl
theorem markReceiverB (x : List Int) (hx : x.length ≤ 1048576) (c : Int) (h0 : 0 ≤ c) (h1 : c ≤ 1152921504606846976) : ∃ y c', f_laws_markReceiverS x c = some (c', y) ∧ y.length = x.length ∧ c ≤ c' ∧ c' ≤ c + x.length ∧ f_laws_heldReceiverS y c = some c' := by
  obtain ⟨y, c', a1, a2, a3, a4, a5⟩ := mhB_gen (d := (0 : Int)) (F := f_laws_markReceiverS.l0) (H := f_laws_heldReceiverS.l0) (P := fun _ => True) (M := 1) (B := 2305843009213693952) (by omega)
    (fun n c q i x h => by simp only [f_laws_markReceiverS.l0, decide_eq_false h, cond_false]) (fun n x c q i h => by simp only [f_laws_heldReceiverS.l0, decide_eq_false h, cond_false])
    (fun c e _ h0 h1 => ⟨c, c + 1, by omega, by omega, fun n q i x hx hi0 hi1 _ => by
      simp only [f_laws_markReceiverS.l0, decide_eq_true hi1, decide_eq_true hi0, cond_true, Bool.and_self, Option.bind_some, w64 (show -9223372036854775808 ≤ c + 1 by omega) (by omega), w64 (show -9223372036854775808 ≤ i + 1 by omega) (by omega)],
      fun n q i x hx hi0 hi1 he => by
      simp only [f_laws_heldReceiverS.l0, decide_eq_true hi1, decide_eq_true hi0, cond_true, Bool.and_self, he, decide_true, Bool.not_true, cond_false, w64 (show -9223372036854775808 ≤ c + 1 by omega) (by omega), w64 (show -9223372036854775808 ≤ i + 1 by omega) (by omega)]⟩)
    x hx (fun _ _ => trivial) c h0 (by omega)
  refine ⟨y, c', ?_, a2, a3, by omega, ?_⟩
  · unfold f_laws_markReceiverS; rw [a1]; rfl
  · unfold f_laws_heldReceiverS; rw [a5]; rfl
def wNode (x1 : List FrameT) (x2 : List HomeT) (x3 : List SenderT) (x4 : List Int) : Int := sumW wFrame x1 + sumW wHome x2 + sumW wSender x3 + (x4.length : Int)
def homeNew (k : Int) : HomeT := (List.replicate 4 0, -1, List.replicate k.toNat false, false, 0, false, 0, [])
def nodeNewB (x0 k : Int) : Int × List FrameT × List HomeT × List SenderT × List Int × Bool := if (1 ≤ k ∧ k ≤ 4) ∧ 0 ≤ x0 ∧ x0 ≤ k - 1 then (x0, List.replicate 6 (0, [], false), List.replicate 6 (homeNew k), List.replicate k.toNat (0, []), List.replicate k.toNat 0, true) else (0, [], [], [], [], false)
theorem specHomeNew (k : Int) (h0 : 1 ≤ k) (h1 : k ≤ 4) : f_spec_HomeNew k = some (homeNew k) := by
  unfold f_spec_HomeNew homeNew
  have hr : rg k 1 4 = true := by unfold rg; rw [decide_eq_true h0, decide_eq_true h1]; rfl
  simp only [in_rg, hr, Option.bind_some, Bool.not_true, cond_false, decide_eq_true (show 0 ≤ k by omega), show Nat.ble k.toNat 140737488355328 = true from Nat.ble_eq_true_of_le (by omega), Bool.and_self, cond_true]
theorem implHomeNew (k : Int) (h0 : 1 ≤ k) (h1 : k ≤ 4) : f_impl_HomeNew k = some (homeNew k) := by
  unfold f_impl_HomeNew homeNew
  have hr : rg k 1 4 = true := by unfold rg; rw [decide_eq_true h0, decide_eq_true h1]; rfl
  simp only [from_rg, hr, Option.bind_some, Bool.not_true, cond_false, decide_eq_true (show 0 ≤ k by omega), show Nat.ble k.toNat 140737488355328 = true from Nat.ble_eq_true_of_le (by omega), Bool.and_self, cond_true]
theorem specNodeNew (x0 k : Int) : f_spec_NodeNew x0 k = some (nodeNewB x0 k) := by
  unfold f_spec_NodeNew nodeNewB
  simp only [in_rg, Option.bind_some]
  by_cases hk : 1 ≤ k ∧ k ≤ 4
  · have hr : rg k 1 4 = true := by unfold rg; rw [decide_eq_true hk.1, decide_eq_true hk.2]; rfl
    rw [hr, w64 (show -9223372036854775808 ≤ k - 1 by omega) (by omega)]
    by_cases hx : 0 ≤ x0 ∧ x0 ≤ k - 1
    · have hr2 : rg x0 0 (k - 1) = true := by unfold rg; rw [decide_eq_true hx.1, decide_eq_true hx.2]; rfl
      obtain ⟨n, hn⟩ : ∃ n, N = n + 7 := ⟨N - 7, rfl⟩
      rw [hr2, if_pos ⟨hk, hx.1, hx.2⟩, hn]
      simp only [Bool.not_true, cond_false, decide_eq_true (show 0 ≤ k by omega), show Nat.ble k.toNat 4398046511104 = true from Nat.ble_eq_true_of_le (by omega), show Nat.ble k.toNat 17592186044416 = true from Nat.ble_eq_true_of_le (by omega), Bool.and_self, cond_true, f_spec_NodeNew.l0, specHomeNew k hk.1 hk.2, Option.bind_some]
      rfl
    · have hr2 : rg x0 0 (k - 1) = false := by
        unfold rg
        by_cases h : 0 ≤ x0
        · rw [decide_eq_true h, decide_eq_false (fun h' => hx ⟨h, h'⟩)]; rfl
        · rw [decide_eq_false h]; rfl
      rw [hr2, if_neg (fun h => hx h.2)]
      rfl
  · have hr : rg k 1 4 = false := by
      unfold rg
      by_cases h : 1 ≤ k
      · rw [decide_eq_true h, decide_eq_false (fun h' => hk ⟨h, h'⟩)]; rfl
      · rw [decide_eq_false h]; rfl
    rw [hr, if_neg (fun h => hk h.1)]
    rfl
theorem implNodeNew (x0 k : Int) : f_impl_NodeNew x0 k = some (nodeNewB x0 k) := by
  unfold f_impl_NodeNew nodeNewB f_impl_isOf
  simp only [from_rg, Option.bind_some]
  by_cases hk : 1 ≤ k ∧ k ≤ 4
  · have hr : rg k 1 4 = true := by unfold rg; rw [decide_eq_true hk.1, decide_eq_true hk.2]; rfl
    rw [hr, w64 (show -9223372036854775808 ≤ k - 1 by omega) (by omega)]
    by_cases hx : 0 ≤ x0 ∧ x0 ≤ k - 1
    · have hr2 : rg x0 0 (k - 1) = true := by unfold rg; rw [decide_eq_true hx.1, decide_eq_true hx.2]; rfl
      obtain ⟨n, hn⟩ : ∃ n, N = n + 7 := ⟨N - 7, rfl⟩
      rw [hr2, if_pos ⟨hk, hx.1, hx.2⟩, hn]
      simp only [Bool.not_true, cond_false, decide_eq_true (show 0 ≤ k by omega), show Nat.ble k.toNat 4398046511104 = true from Nat.ble_eq_true_of_le (by omega), show Nat.ble k.toNat 17592186044416 = true from Nat.ble_eq_true_of_le (by omega), Bool.and_self, cond_true, f_impl_NodeNew.l0, implHomeNew k hk.1 hk.2, Option.bind_some]
      rfl
    · have hr2 : rg x0 0 (k - 1) = false := by
        unfold rg
        by_cases h : 0 ≤ x0
        · rw [decide_eq_true h, decide_eq_false (fun h' => hx ⟨h, h'⟩)]; rfl
        · rw [decide_eq_false h]; rfl
      rw [hr2, if_neg (fun h => hx h.2)]
      rfl
  · have hr : rg k 1 4 = false := by
      unfold rg
      by_cases h : 1 ≤ k
      · rw [decide_eq_true h, decide_eq_false (fun h' => hk ⟨h, h'⟩)]; rfl
      · rw [decide_eq_false h]; rfl
    rw [hr, if_neg (fun h => hk h.1)]
    rfl
theorem sumW_const {α : Type} (W : α → Int) (a : α) : ∀ n : Nat, sumW W (List.replicate n a) = n * W a
  | 0 => by simp [sumW]
  | n + 1 => by rw [List.replicate_succ]; simp only [sumW, sumW_const W a n]; rw [Int.natCast_add, Int.add_mul]; omega
theorem nodeNew_ok (x0 k : Int) : NodeK (nodeNewB x0 k).2.1 (nodeNewB x0 k).2.2.1 (nodeNewB x0 k).2.2.2.1 (nodeNewB x0 k).2.2.2.2.1 ∧ wNode (nodeNewB x0 k).2.1 (nodeNewB x0 k).2.2.1 (nodeNewB x0 k).2.2.2.1 (nodeNewB x0 k).2.2.2.2.1 ≤ 1000 := by
  unfold nodeNewB
  by_cases h : (1 ≤ k ∧ k ≤ 4) ∧ 0 ≤ x0 ∧ x0 ≤ k - 1
  · rw [if_pos h]
    refine ⟨⟨by simp, by simp, by simp; omega, by simp; omega, fun e he => ?_, fun e he => ?_, fun e he => ?_⟩, ?_⟩
    · rw [List.eq_of_mem_replicate he]; exact Nat.zero_le _
    · rw [List.eq_of_mem_replicate he]; exact ⟨by simp [homeNew], by simp [homeNew]; omega, by simp [homeNew]⟩
    · rw [List.eq_of_mem_replicate he]; exact ⟨Nat.zero_le _, fun f hf => by cases hf⟩
    · unfold wNode
      rw [sumW_const, sumW_const, sumW_const, List.length_replicate]
      simp only [wFrame, wHome, homeNew, wSender, sumW, List.length_replicate, List.length_nil]
      omega
  · rw [if_neg h]
    exact ⟨⟨by simp, by simp, by simp, by simp, fun e he => (by cases he), fun e he => (by cases he), fun e he => (by cases he)⟩, by simp [wNode, sumW]⟩
abbrev NodeT := Int × List FrameT × List HomeT × List SenderT × List Int
def okNode (e : NodeT) : Prop := NodeK e.2.1 e.2.2.1 e.2.2.2.1 e.2.2.2.2
theorem eqNodeS (x : List NodeT) (hn : x.length ≤ 1048576) (he : ∀ e ∈ x, okNode e) : f_laws_eqNodeS x x = some true := by
  unfold f_laws_eqNodeS
  simp only [decide_true, Bool.not_true, cond_false]
  rw [eq_gen (F := f_laws_eqNodeS.l0) (q := fun e f => f_laws_eqNode e.1 e.2.1 e.2.2.1 e.2.2.2.1 e.2.2.2.2 f.1 f.2.1 f.2.2.1 f.2.2.2.1 f.2.2.2.2) (d := (0, [], [], [], [])) (fun n x y b i => rfl) x hn (fun e hm => eqNode_self _ _ _ _ _ (he e hm)) false x.length N 0 (by omega) (by omega) (by omega) (lt_N hn)]
  rfl
abbrev PacketT := Int × Int × Bool × Int × Int × Int × Bool × List Int
def okPacket (e : PacketT) : Prop := e.2.2.2.2.2.2.2.length ≤ 1048576
theorem eqPacketS (x : List PacketT) (hn : x.length ≤ 1048576) (he : ∀ e ∈ x, okPacket e) : f_laws_eqPacketS x x = some true := by
  unfold f_laws_eqPacketS
  simp only [decide_true, Bool.not_true, cond_false]
  rw [eq_gen (F := f_laws_eqPacketS.l0) (q := fun e f => f_laws_eqPacket e.1 e.2.1 e.2.2.1 e.2.2.2.1 e.2.2.2.2.1 e.2.2.2.2.2.1 e.2.2.2.2.2.2.1 e.2.2.2.2.2.2.2 f.1 f.2.1 f.2.2.1 f.2.2.2.1 f.2.2.2.2.1 f.2.2.2.2.2.1 f.2.2.2.2.2.2.1 f.2.2.2.2.2.2.2) (d := (0, 0, false, 0, 0, 0, false, [])) (fun n x y b i => rfl) x hn (fun e hm => eqPacket_self _ _ _ _ _ _ _ _ (he e hm)) false x.length N 0 (by omega) (by omega) (by omega) (lt_N hn)]
  rfl
def wNodeE (e : NodeT) : Int := 1 + wNode e.2.1 e.2.2.1 e.2.2.2.1 e.2.2.2.2
def wPacket (e : PacketT) : Int := 7 + (e.2.2.2.2.2.2.2.length : Int)
theorem wFrame0 (e : FrameT) : 0 ≤ wFrame e := by unfold wFrame; omega
theorem wHome0 (e : HomeT) : 0 ≤ wHome e := by unfold wHome; omega
theorem wNode0 (x1 : List FrameT) (x2 : List HomeT) (x3 : List SenderT) (x4 : List Int) : 0 ≤ wNode x1 x2 x3 x4 := by
  have s1 := sumW_nonneg wFrame0 x1
  have s2 := sumW_nonneg wHome0 x2
  have s3 := sumW_nonneg wSender0 x3
  unfold wNode; omega
theorem wNodeE0 (e : NodeT) : 0 ≤ wNodeE e := by have := wNode0 e.2.1 e.2.2.1 e.2.2.2.1 e.2.2.2.2; unfold wNodeE; omega
theorem wPacket0 (e : PacketT) : 0 ≤ wPacket e := by unfold wPacket; omega
theorem markNodeSW (x : List NodeT) (hx : x.length ≤ 1048576) (he : ∀ e ∈ x, okNode e) (c : Int) (h0 : 0 ≤ c) (h1 : c + sumW wNodeE x ≤ 1152921504606846976) : ∃ y c', f_laws_markNodeS x c = some (c', y) ∧ y.length = x.length ∧ c ≤ c' ∧ c' ≤ c + sumW wNodeE x ∧ f_laws_heldNodeS y c = some c' := by
  obtain ⟨y, c', a1, a2, a3, a4, a5⟩ := mhW_gen (d := ((0 : Int), ([] : List FrameT), ([] : List HomeT), ([] : List SenderT), ([] : List Int))) (F := f_laws_markNodeS.l0) (H := f_laws_heldNodeS.l0) (P := okNode) (W := wNodeE) (B := 1152921504606846976) wNodeE0
    (fun n c q i x h => by simp only [f_laws_markNodeS.l0, decide_eq_false h, cond_false]) (fun n x c q i h => by simp only [f_laws_heldNodeS.l0, decide_eq_false h, cond_false])
    (fun c e he h0 h1 => by
      have h : NodeK e.2.1 e.2.2.1 e.2.2.2.1 e.2.2.2.2 := he
      unfold wNodeE wNode at h1 ⊢
      have s1 := sumW_nonneg wFrame0 e.2.1
      have s2 := sumW_nonneg wHome0 e.2.2.1
      have s3 := sumW_nonneg wSender0 e.2.2.2.1
      obtain ⟨y1, c1, a1, a2, a3, a4, a5⟩ := markFrameW e.2.1 h.l1 h.e1 (c + 1) (by omega) (by omega)
      obtain ⟨y2, c2, b1, b2, b3, b4, b5⟩ := markHomeW e.2.2.1 h.l2 h.e2 c1 (by omega) (by omega)
      obtain ⟨y3, c3, d1, d2, d3, d4, d5⟩ := markSenderW e.2.2.2.1 h.l3 h.e3 c2 (by omega) (by omega)
      obtain ⟨y4, c4, g1, g2, g3, g4, g5⟩ := markReceiverB e.2.2.2.2 h.l4 c3 (by omega) (by omega)
      refine ⟨(c, y1, y2, y3, y4), c4, by omega, by omega, fun n q i x hx hi0 hi1 hxe => ?_, fun n q i x hx hi0 hi1 hxe => ?_⟩
      · simp only [f_laws_markNodeS.l0, decide_eq_true hi1, decide_eq_true hi0, cond_true, Bool.and_self, hxe, Option.bind_some, List.length_set, List.set_set, getD_set_self x _ _ i hi0 hi1, w64 (show -9223372036854775808 ≤ c + 1 by omega) (by omega), a1, b1, d1, g1, w64 (show -9223372036854775808 ≤ i + 1 by omega) (by omega)]
      · simp only [f_laws_heldNodeS.l0, decide_eq_true hi1, decide_eq_true hi0, cond_true, Bool.and_self, hxe, decide_true, Bool.not_true, cond_false, w64 (show -9223372036854775808 ≤ c + 1 by omega) (by omega), a5, b5, d5, g5, Option.bind_some, decide_eq_false (show ¬ c1 < 0 by omega), decide_eq_false (show ¬ c2 < 0 by omega), decide_eq_false (show ¬ c3 < 0 by omega), decide_eq_false (show ¬ c4 < 0 by omega), w64 (show -9223372036854775808 ≤ i + 1 by omega) (by omega)])
    x hx he c h0 h1
  refine ⟨y, c', ?_, a2, a3, a4, ?_⟩
  · unfold f_laws_markNodeS; rw [a1]; rfl
  · unfold f_laws_heldNodeS; rw [a5]; rfl
theorem markPacketSW (x : List PacketT) (hx : x.length ≤ 1048576) (he : ∀ e ∈ x, okPacket e) (c : Int) (h0 : 0 ≤ c) (h1 : c + sumW wPacket x ≤ 1152921504606846976) : ∃ y c', f_laws_markPacketS x c = some (c', y) ∧ y.length = x.length ∧ c ≤ c' ∧ c' ≤ c + sumW wPacket x ∧ f_laws_heldPacketS y c = some c' := by
  obtain ⟨y, c', a1, a2, a3, a4, a5⟩ := mhW_gen (d := ((0 : Int), (0 : Int), false, (0 : Int), (0 : Int), (0 : Int), false, ([] : List Int))) (F := f_laws_markPacketS.l0) (H := f_laws_heldPacketS.l0) (P := okPacket) (W := wPacket) (B := 1152921504606846976) wPacket0
    (fun n c q i x h => by simp only [f_laws_markPacketS.l0, decide_eq_false h, cond_false]) (fun n x c q i h => by simp only [f_laws_heldPacketS.l0, decide_eq_false h, cond_false])
    (fun c e he h0 h1 => by
      have h : e.2.2.2.2.2.2.2.length ≤ 1048576 := he
      unfold wPacket at h1 ⊢
      obtain ⟨y, c1, b1, b2, b3, b4, b5⟩ := markIntB e.2.2.2.2.2.2.2 h (c + 7) (by omega) (by omega)
      refine ⟨(c, c + 1, decide (Int.tmod (c + 2) 3 = 0), c + 3, c + 4, c + 5, decide (Int.tmod (c + 6) 3 = 0), y), c1, by omega, by omega, fun n q i x hx hi0 hi1 hxe => ?_, fun n q i x hx hi0 hi1 hxe => ?_⟩
      · simp only [f_laws_markPacketS.l0, decide_eq_true hi1, decide_eq_true hi0, cond_true, Bool.and_self, hxe, Option.bind_some, List.length_set, List.set_set, getD_set_self x _ _ i hi0 hi1, w64 (show -9223372036854775808 ≤ c + 1 by omega) (by omega), w64 (show -9223372036854775808 ≤ i + 1 by omega) (by omega), show c + 1 + 1 = c + 2 by omega, w64 (show -9223372036854775808 ≤ c + 2 by omega) (by omega), show c + 2 + 1 = c + 3 by omega, w64 (show -9223372036854775808 ≤ c + 3 by omega) (by omega), show c + 3 + 1 = c + 4 by omega, w64 (show -9223372036854775808 ≤ c + 4 by omega) (by omega), show c + 4 + 1 = c + 5 by omega, w64 (show -9223372036854775808 ≤ c + 5 by omega) (by omega), show c + 5 + 1 = c + 6 by omega, w64 (show -9223372036854775808 ≤ c + 6 by omega) (by omega), show c + 6 + 1 = c + 7 by omega, w64 (show -9223372036854775808 ≤ c + 7 by omega) (by omega), b1]
      · simp only [f_laws_heldPacketS.l0, decide_eq_true hi1, decide_eq_true hi0, cond_true, Bool.and_self, hxe, w64 (show -9223372036854775808 ≤ c + 1 by omega) (by omega), w64 (show -9223372036854775808 ≤ i + 1 by omega) (by omega), show c + 1 + 1 = c + 2 by omega, w64 (show -9223372036854775808 ≤ c + 2 by omega) (by omega), show c + 2 + 1 = c + 3 by omega, w64 (show -9223372036854775808 ≤ c + 3 by omega) (by omega), show c + 3 + 1 = c + 4 by omega, w64 (show -9223372036854775808 ≤ c + 4 by omega) (by omega), show c + 4 + 1 = c + 5 by omega, w64 (show -9223372036854775808 ≤ c + 5 by omega) (by omega), show c + 5 + 1 = c + 6 by omega, w64 (show -9223372036854775808 ≤ c + 6 by omega) (by omega), show c + 6 + 1 = c + 7 by omega, w64 (show -9223372036854775808 ≤ c + 7 by omega) (by omega), b5, Option.bind_some, decide_eq_false (show ¬ c1 < 0 by omega), cond_false, decide_true, Bool.not_true, beq_self_eq_true])
    x hx he c h0 h1
  refine ⟨y, c', ?_, a2, a3, a4, ?_⟩
  · unfold f_laws_markPacketS; rw [a1]; rfl
  · unfold f_laws_heldPacketS; rw [a5]; rfl
theorem markWorldW (x0 : Int) (x1 : List NodeT) (x2 : List PacketT) (l1 : x1.length ≤ 1048576) (l2 : x2.length ≤ 1048576) (e1 : ∀ e ∈ x1, okNode e) (e2 : ∀ e ∈ x2, okPacket e) (c : Int) (h0 : 0 ≤ c) (h1 : c + (sumW wNodeE x1 + sumW wPacket x2) ≤ 1152921504606846976) : ∃ y1 y2 c', f_laws_markWorld x0 x1 x2 c = some (c', y1, y2) ∧ c ≤ c' ∧ c' ≤ c + (sumW wNodeE x1 + sumW wPacket x2) ∧ f_laws_heldWorld x0 y1 y2 c = some c' := by
  have s1 := sumW_nonneg wNodeE0 x1
  have s2 := sumW_nonneg wPacket0 x2
  obtain ⟨y1, c1, a1, a2, a3, a4, a5⟩ := markNodeSW x1 l1 e1 c h0 (by omega)
  obtain ⟨y2, c2, b1, b2, b3, b4, b5⟩ := markPacketSW x2 l2 e2 c1 (by omega) (by omega)
  refine ⟨y1, y2, c2, ?_, by omega, by omega, ?_⟩
  · unfold f_laws_markWorld; simp only [a1, b1, Option.bind_some]
  · unfold f_laws_heldWorld; simp only [a5, b5, Option.bind_some, decide_eq_false (show ¬ c1 < 0 by omega), decide_eq_false (show ¬ c2 < 0 by omega), cond_false]
theorem eqWorld_self (x0 : Int) (x1 : List NodeT) (x2 : List PacketT) (l1 : x1.length ≤ 1048576) (l2 : x2.length ≤ 1048576) (e1 : ∀ e ∈ x1, okNode e) (e2 : ∀ e ∈ x2, okPacket e) : f_laws_eqWorld x0 x1 x2 x0 x1 x2 = some true := by
  unfold f_laws_eqWorld
  simp only [eqNodeS x1 l1 e1, eqPacketS x2 l2 e2, decide_true, Bool.not_true, cond_false, Option.bind_some]
def nodeAt (k j : Nat) : NodeT := ((j : Int), List.replicate 6 (0, [], false), List.replicate 6 (homeNew (k : Int)), List.replicate k (0, []), List.replicate k 0)
def worldNewB (x0 : Int) : Int × List NodeT × List PacketT × Bool := if 1 ≤ x0 ∧ x0 ≤ 4 then (x0, (List.range x0.toNat).map (nodeAt x0.toNat), [], true) else (0, [], [], false)
theorem nodeNewB_at (k j : Nat) (h1 : 1 ≤ k) (h2 : k ≤ 4) (hj : j < k) : nodeNewB (j : Int) (k : Int) = ((nodeAt k j).1, (nodeAt k j).2.1, (nodeAt k j).2.2.1, (nodeAt k j).2.2.2.1, (nodeAt k j).2.2.2.2, true) := by
  unfold nodeNewB nodeAt
  rw [if_pos (by omega)]
  simp
theorem specWorldNew (x0 : Int) : f_spec_WorldNew x0 = some (worldNewB x0) := by
  unfold f_spec_WorldNew worldNewB
  simp only [in_rg, Option.bind_some]
  by_cases h : 1 ≤ x0 ∧ x0 ≤ 4
  · obtain ⟨k, rfl⟩ : ∃ k : Nat, x0 = k := ⟨x0.toNat, by omega⟩
    have hr : rg (k : Int) 1 4 = true := by unfold rg; rw [decide_eq_true h.1, decide_eq_true h.2]; rfl
    have hl : ∀ (r j n : Nat) (x : List NodeT), j + r = k → r < n → x.length = j → f_spec_WorldNew.l0 n (k : Int) false (j : Int) 0 (k : Int) [] [] x [] = some (false, 0, (k : Int), [], [], x ++ ((List.range' j r).map (nodeAt k)), []) := by
      intro r
      induction r with
      | zero => intro j n x hj hn hx; obtain ⟨m, rfl⟩ : ∃ m, n = m + 1 := ⟨n - 1, by omega⟩; obtain rfl : j = k := by omega
                simp only [f_spec_WorldNew.l0, decide_eq_false (show ¬ (j : Int) < (j : Int) by omega), cond_false, List.range'_zero, List.map_nil, List.append_nil]
      | succ r ih =>
        intro j n x hj hn hx
        obtain ⟨m, rfl⟩ : ∃ m, n = m + 1 := ⟨n - 1, by omega⟩
        simp only [f_spec_WorldNew.l0, decide_eq_true (show (j : Int) < (k : Int) by omega), cond_true, specNodeNew, Option.bind_some, nodeNewB_at k j (by omega) (by omega) (by omega)]
        rw [show Nat.blt (x.length + _) 1353245080339 = true from Nat.ble_eq_true_of_le (show _ + 1 ≤ _ by simp only [List.length_cons, List.length_nil]; omega), w64 (show -9223372036854775808 ≤ (j : Int) + 1 by omega) (by omega), cond_true, show ((j : Int) + 1) = ((j + 1 : Nat) : Int) by omega, ih (j + 1) m _ (by omega) (by omega) (by simp [hx]), List.range'_succ, List.map_cons, List.append_assoc]
        rfl
    have := hl k 0 N [] (by omega) (Nat.lt_of_le_of_lt (show k ≤ 4 by omega) (Nat.lt_trans (by omega) big)) rfl
    rw [hr, if_pos h]
    simp only [Bool.not_true, cond_false]
    rw [show f_spec_WorldNew.l0 N (k : Int) false 0 0 (k : Int) [] [] [] [] = _ from this]
    simp [List.range_eq_range']
  · have hr : rg x0 1 4 = false := by
      unfold rg
      by_cases h' : 1 ≤ x0
      · rw [decide_eq_true h', decide_eq_false (fun h2 => h ⟨h', h2⟩)]; rfl
      · rw [decide_eq_false h']; rfl
    rw [hr, if_neg h]
    rfl
theorem implWorldNew (x0 : Int) : f_impl_WorldNew x0 = some (worldNewB x0) := by
  unfold f_impl_WorldNew worldNewB
  simp only [from_rg, Option.bind_some]
  by_cases h : 1 ≤ x0 ∧ x0 ≤ 4
  · obtain ⟨k, rfl⟩ : ∃ k : Nat, x0 = k := ⟨x0.toNat, by omega⟩
    have hr : rg (k : Int) 1 4 = true := by unfold rg; rw [decide_eq_true h.1, decide_eq_true h.2]; rfl
    have hl : ∀ (r j n : Nat) (x : List NodeT), j + r = k → r < n → x.length = j → f_impl_WorldNew.l0 n (k : Int) false (k : Int) (j : Int) 0 (k : Int) [] [] x [] = some (false, 0, (k : Int), [], [], x ++ ((List.range' j r).map (nodeAt k)), []) := by
      intro r
      induction r with
      | zero => intro j n x hj hn hx; obtain ⟨m, rfl⟩ : ∃ m, n = m + 1 := ⟨n - 1, by omega⟩; obtain rfl : j = k := by omega
                simp only [f_impl_WorldNew.l0, decide_eq_false (show ¬ (j : Int) < (j : Int) by omega), cond_false, List.range'_zero, List.map_nil, List.append_nil]
      | succ r ih =>
        intro j n x hj hn hx
        obtain ⟨m, rfl⟩ : ∃ m, n = m + 1 := ⟨n - 1, by omega⟩
        simp only [f_impl_WorldNew.l0, decide_eq_true (show (j : Int) < (k : Int) by omega), cond_true, implNodeNew, Option.bind_some, nodeNewB_at k j (by omega) (by omega) (by omega)]
        rw [show Nat.blt (x.length + _) 1353245080339 = true from Nat.ble_eq_true_of_le (show _ + 1 ≤ _ by simp only [List.length_cons, List.length_nil]; omega), w64 (show -9223372036854775808 ≤ (j : Int) + 1 by omega) (by omega), cond_true, show ((j : Int) + 1) = ((j + 1 : Nat) : Int) by omega, ih (j + 1) m _ (by omega) (by omega) (by simp [hx]), List.range'_succ, List.map_cons, List.append_assoc]
        rfl
    have := hl k 0 N [] (by omega) (Nat.lt_of_le_of_lt (show k ≤ 4 by omega) (Nat.lt_trans (by omega) big)) rfl
    rw [hr, if_pos h]
    simp only [Bool.not_true, cond_false]
    rw [show f_impl_WorldNew.l0 N (k : Int) false (k : Int) 0 0 (k : Int) [] [] [] [] = _ from this]
    simp [List.range_eq_range']
  · have hr : rg x0 1 4 = false := by
      unfold rg
      by_cases h' : 1 ≤ x0
      · rw [decide_eq_true h', decide_eq_false (fun h2 => h ⟨h', h2⟩)]; rfl
      · rw [decide_eq_false h']; rfl
    rw [hr, if_neg h]
    rfl
theorem sumW_le {α : Type} {W : α → Int} {M : Int} : ∀ x : List α, (∀ e ∈ x, W e ≤ M) → sumW W x ≤ M * x.length
  | [], _ => by simp [sumW]
  | a :: x, h => by
    have h1 := h a (.head _)
    have h2 := sumW_le x (fun e he => h e (.tail _ he))
    simp only [sumW, List.length_cons, Int.natCast_add, Int.mul_add]
    omega
theorem worldNew_ok (x0 : Int) : (worldNewB x0).2.1.length ≤ 4 ∧ (worldNewB x0).2.2.1 = [] ∧ (∀ e ∈ (worldNewB x0).2.1, okNode e) ∧ sumW wNodeE (worldNewB x0).2.1 ≤ 4004 := by
  unfold worldNewB
  by_cases h : 1 ≤ x0 ∧ x0 ≤ 4
  · rw [if_pos h]
    obtain ⟨k, rfl⟩ : ∃ k : Nat, x0 = k := ⟨x0.toNat, by omega⟩
    have hk : ∀ e ∈ (List.range k).map (nodeAt k), okNode e ∧ wNodeE e ≤ 1001 := by
      intro e he
      obtain ⟨j, hj, rfl⟩ := List.mem_map.mp he
      have hj := List.mem_range.mp hj
      obtain ⟨a, b⟩ := nodeNew_ok (j : Int) (k : Int)
      rw [nodeNewB_at k j (by omega) (by omega) hj] at a b
      exact ⟨a, show 1 + wNode _ _ _ _ ≤ 1001 by simp only at b; omega⟩
    refine ⟨by simp; omega, rfl, fun e he => (hk e he).1, ?_⟩
    have := sumW_le (W := wNodeE) (M := 1001) ((List.range k).map (nodeAt k)) (fun e he => (hk e he).2)
    simp only [List.length_map, List.length_range] at this
    show sumW wNodeE ((List.range k).map (nodeAt k)) ≤ 4004
    omega
  · rw [if_neg h]
    exact ⟨by simp, rfl, fun e he => (by cases he), by simp [sumW]⟩
theorem worldNew (x0 : Int) : f_laws_FnExactWorldNew x0 = some true := by
  unfold f_laws_FnExactWorldNew
  obtain ⟨l1, l2, h1, h2⟩ := worldNew_ok x0
  simp only [specWorldNew, implWorldNew]
  generalize worldNewB x0 = r at l1 l2 h1 h2
  have e2 : ∀ e ∈ r.2.2.1, okPacket e := by rw [l2]; intro e he; cases he
  have l3 : r.2.2.1.length ≤ 1048576 := by rw [l2]; simp
  have s2 : sumW wPacket r.2.2.1 = 0 := by rw [l2]; rfl
  obtain ⟨y1, y2, c, a1, a2, a3, a4⟩ := markWorldW r.1 r.2.1 r.2.2.1 (by omega) l3 h1 e2 1 (by omega) (by omega)
  simp only [Option.bind_some, eqWorld_self r.1 r.2.1 r.2.2.1 (by omega) l3 h1 e2, Bool.not_true, cond_false, beq_self_eq_true, a1, a4, decide_eq_false (show ¬ c < 0 by omega), decide_true]
theorem plain : Pure := fun x _ => worldNew x
end Go.Abs
