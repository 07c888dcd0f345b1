import Derived.Test.YtdhjooflkiagaaaAbtA
import Derived.ArgAppend
import Derived.Orders
import Derived.Laws.CopyRow
import Derived.Lib.SliceRun
import Derived.WalkSpells
import Derived.Laws.StructEq
import Derived.Laws.MakeOwn
import Derived.Laws.Tables
import Derived.Laws.BytesString
import Derived.Great.BuildSlice
namespace Go.Abs
set_option linter.unusedSimpArgs false
set_option linter.unusedVariables false
open Go.RowKit

/-! ### what the table of types says is so -/
def zval : CT → Value
  | .int k => .int k 0
  | .bool => .bool false
  | .str => .string ⟨#[]⟩
  | .nl _ => .slice none 0 0
  | .sl _ => .slice none 0 0
  | .vs _ => .slice none 0 0
def isZ : CT → Value → Bool
  | .int k, .int k' n => IntKind.same k k' && decide (n = 0)
  | .bool, .bool b => !b
  | .str, .string s => Nat.beq s.size 0
  | .sl _, .slice none n c => Nat.beq n 0 && Nat.beq c 0
  | .nl _, .slice none n c => Nat.beq n 0 && Nat.beq c 0
  | _, _ => false
def isZs : List CT → List Value → Bool
  | [], [] => true
  | c :: cs, v :: vs => isZ c v && isZs cs vs
  | _, _ => false
def sameKey : List Field → List (Nat × Nat) → Bool
  | [], [] => true
  | f :: fs, (o, t) :: ps => Nat.beq f.offset o && (Nat.beq f.type t && sameKey fs ps)
  | _, _ => false
def descOk (tb : Tb) (I : TyI) : TypeDesc → Bool
  | .int k => !I.agg && (match I.cells with | [.int k'] => IntKind.same k k' | _ => false)
  | .bool => !I.agg && (match I.cells with | [.bool] => true | _ => false)
  | .string => !I.agg && (match I.cells with | [.str] => true | _ => false)
  | .slice e => !I.agg && (Nat.beq I.elem e && (match I.cells with
    | [.sl r] => (match rtOf (tyOf tb e).cells with | some q => q.same r | none => false)
    | [.nl r] => (match rtOf (tyOf tb e).cells with | some q => q.same r | none => false)
    | _ => false))
  | .struct fs => I.agg && (sameKey fs.toList I.fields && I.fields.all fun p => !(tyOf tb p.2).cells.isEmpty)
  | _ => false
def fitC : Option TypeDesc → CT → Bool
  | some .bool, .bool => true
  | some (.int q), .int q' => IntKind.same q q'
  | _, _ => false
/-- The fields are one plain cell each. -/
def fieldsFlat (P : Program) : List Field → List CT → Nat → Bool
  | [], [], _ => true
  | f :: fs, c :: cs, k => f.name != "_" && (Nat.beq f.offset k && (fitC (P.underlying f.type) c && fieldsFlat P fs cs (k + 1)))
  | _, _, _ => false
def eqFlat (P : Program) (t : Nat) (cs : List CT) : Bool :=
  match P.underlying t with
  | some (.struct fs) => !P.stoodInHeld t && (!P.eqGuardType P.depth t && fieldsFlat P fs.toList cs 0)
  | _ => false
def tyChk (P : Program) (tb : Tb) (x : Nat × TyI) : Bool :=
  x.2.cells.isEmpty || (!flatI x.2 || eqFlat P x.1 x.2.cells) && (match P.info? x.1, P.underlying x.1 with
    | some i, some d => Nat.beq i.size x.2.cells.length && (Nat.beq i.bytes x.2.bytes && ((match i.zero with | some z => isZs x.2.cells z.cells.toList | none => false) && descOk tb x.2 d))
    | _, _ => false)
def tyCheck (P : Program) (tb : Tb) : Bool := tb.all (tyChk P tb)

theorem isZ_eq {c : CT} {v : Value} (h : isZ c v = true) : v = zval c := by
  unfold isZ at h
  split at h
  · simp only [Bool.and_eq_true, decide_eq_true_eq] at h
    obtain ⟨h1, rfl⟩ := h
    rw [IntKind.eq_of_same h1]; rfl
  · rename_i b
    cases b <;> first | rfl | cases h
  · rename_i s
    obtain ⟨⟨l⟩⟩ := s
    cases l with
    | nil => rfl
    | cons x l => simp [ByteArray.size] at h
  · rename_i n m
    simp only [Bool.and_eq_true, beq_iff] at h
    obtain ⟨rfl, rfl⟩ := h
    rfl
  · rename_i n m
    simp only [Bool.and_eq_true, beq_iff] at h
    obtain ⟨rfl, rfl⟩ := h
    rfl
  · cases h
theorem isZs_eq : ∀ {cs : List CT} {vs : List Value}, isZs cs vs = true → vs = cs.map zval
  | [], [], _ => rfl
  | c :: cs, v :: vs, h => by
    simp only [isZs, Bool.and_eq_true] at h
    rw [isZ_eq h.1, isZs_eq h.2]; rfl
  | [], _ :: _, h => by simp [isZs] at h
  | _ :: _, [], h => by simp [isZs] at h

theorem IntKind.same_refl (k : IntKind) : IntKind.same k k = true := by cases k <;> rfl
mutual
theorem CT.same_refl : ∀ c : CT, c.same c = true
  | .int k => by simp [CT.same, IntKind.same_refl]
  | .bool => rfl
  | .str => rfl
  | .nl r => by simp [CT.same, RT.same_refl r]
  | .sl r => by simp [CT.same, RT.same_refl r]
  | .vs r => by simp [CT.same, RT.same_refl r]
theorem RT.same_refl : ∀ r : RT, r.same r = true
  | .one c => by simp [RT.same, CT.same_refl c]
  | .cons c r => by simp [RT.same, CT.same_refl c, RT.same_refl r]
end
structure TyOk (P : Program) (tb : Tb) (t : Nat) : Prop where
  out : ∃ i d z, P.info? t = some i ∧ P.underlying t = some d ∧ i.size = (tyOf tb t).cells.length ∧ i.bytes = (tyOf tb t).bytes ∧ i.zero = some z ∧ z.cells.toList = (tyOf tb t).cells.map zval ∧ descOk tb (tyOf tb t) d = true
theorem tyOf_mem : ∀ (tb : Tb) (t : Nat), (tyOf tb t).cells ≠ [] → (t, tyOf tb t) ∈ tb
  | [], t, h => by simp [tyOf] at h
  | (s, x) :: r, t, h => by
    simp only [tyOf] at h ⊢
    cases e : Nat.beq s t with
    | true => have := (beq_iff _ _).1 e; subst this; simp
    | false => rw [e, cond_false] at h; simp only [cond_false]; exact List.mem_cons_of_mem _ (tyOf_mem r t h)
theorem TyOk.of {P : Program} {tb : Tb} (h : tyCheck P tb = true) {t : Nat} (hc : (tyOf tb t).cells ≠ []) : TyOk P tb t := by
  have := List.all_eq_true.1 h _ (tyOf_mem tb t hc)
  simp only [tyChk] at this
  rw [Bool.or_eq_true, List.isEmpty_iff] at this
  rcases this with this | this
  · exact absurd this hc
  · rw [Bool.and_eq_true] at this
    replace this := this.2
    cases hi : P.info? t with
    | none => simp [hi] at this
    | some i =>
      cases hd : P.underlying t with
      | none => simp [hi, hd] at this
      | some d =>
        simp only [hi, hd, Bool.and_eq_true, beq_iff] at this
        obtain ⟨h1, h2, h3, h4⟩ := this
        cases hz : i.zero with
        | none => simp [hz] at h3
        | some z =>
          simp only [hz] at h3
          exact ⟨i, d, z, hi, hd, h1, h2, hz, isZs_eq h3, h4⟩

theorem eqFlat_of {P : Program} {tb : Tb} (h : tyCheck P tb = true) {t : Nat} (hc : (tyOf tb t).cells ≠ []) (hf : flatI (tyOf tb t) = true) : eqFlat P t (tyOf tb t).cells = true := by
  have := List.all_eq_true.1 h _ (tyOf_mem tb t hc)
  simp only [tyChk] at this
  rw [Bool.or_eq_true, List.isEmpty_iff] at this
  rcases this with this | this
  · exact absurd this hc
  · rw [Bool.and_eq_true, hf] at this
    simpa using this.1

theorem oneT_eq {tb : Tb} {t : Nat} {c : CT} (h : oneT tb t = some c) : (tyOf tb t).agg = false ∧ (tyOf tb t).cells = [c] := by
  unfold oneT at h
  cases ha : (tyOf tb t).agg with
  | true => rw [ha] at h; cases h
  | false =>
    rw [ha, cond_false] at h
    refine ⟨rfl, ?_⟩
    match hc : (tyOf tb t).cells, h with
    | [d], h => rw [Option.some.inj h]
def descC (tb : Tb) (c : CT) (d : TypeDesc) (el : Nat) : Prop :=
  match c with
  | .int k => d = .int k
  | .bool => d = .bool
  | .str => d = .string
  | .nl r => d = .slice el ∧ rtOf (tyOf tb el).cells = some r
  | .sl r => d = .slice el ∧ rtOf (tyOf tb el).cells = some r
  | .vs r => False
theorem oneT_desc {P : Program} {tb : Tb} (h : tyCheck P tb = true) {t : Nat} {c : CT} (ho : oneT tb t = some c) :
    ∃ i d, P.info? t = some i ∧ P.underlying t = some d ∧ i.size = 1 ∧ descC tb c d (tyOf tb t).elem := by
  obtain ⟨h1, h2⟩ := oneT_eq ho
  obtain ⟨i, d, z, hi, hd, hs, _, _, _, hok⟩ := (TyOk.of h (t := t) (by rw [h2]; simp)).out
  refine ⟨i, d, hi, hd, by rw [hs, h2]; rfl, ?_⟩
  unfold descOk at hok
  cases d with
  | int k =>
    simp only [h1, h2, Bool.not_false, Bool.true_and] at hok
    cases c <;> first | (simp at hok; done) | skip
    simp only at hok
    show _ = _
    rw [IntKind.eq_of_same hok]
  | bool => simp only [h1, h2, Bool.not_false, Bool.true_and] at hok; cases c <;> first | (simp at hok; done) | rfl
  | string => simp only [h1, h2, Bool.not_false, Bool.true_and] at hok; cases c <;> first | (simp at hok; done) | rfl
  | slice e =>
    simp only [h1, h2, Bool.not_false, Bool.true_and, Bool.and_eq_true, beq_iff] at hok
    obtain ⟨he, hok⟩ := hok
    cases c <;> first | (simp at hok; done) | skip
    all_goals
      rename_i r
      simp only at hok
      cases hq : rtOf (tyOf tb e).cells with
      | none => rw [hq] at hok; simp at hok
      | some q =>
        rw [hq] at hok
        exact ⟨by rw [he], by rw [he, hq, RT.eq_of_same hok]⟩
  | struct fs => simp [h1] at hok
  | _ => simp at hok

theorem rtOf_size : ∀ {cs : List CT} {r : RT}, rtOf cs = some r → cs.length = r.size
  | [c], r, h => by simp only [rtOf, Option.some.injEq] at h; subst h; rfl
  | c :: d :: cs, r, h => by
    simp only [rtOf, Option.map_eq_some_iff] at h
    obtain ⟨q, h1, rfl⟩ := h
    simp only [List.length_cons, RT.size]
    rw [← rtOf_size h1]; rfl
  | [], r, h => by simp [rtOf] at h
theorem RT.size_pos : ∀ r : RT, 0 < r.size
  | .one _ => Nat.one_pos
  | .cons _ r => Nat.succ_pos _

theorem CT.toVs_z (c : CT) : zval c.toVs = zval c := by cases c <;> rfl
theorem RT.size_toVs : ∀ r : RT, r.toVs.size = r.size
  | .one _ => rfl
  | .cons _ r => by simp only [RT.toVs, RT.size]; rw [RT.size_toVs r]
/-- The rows that elements of these cells have, or have when their slices are lent. -/
def RtFit (cs : List CT) (q : RT) : Prop := ∃ r, rtOf cs = some r ∧ (q = r ∨ q = r.toVs)
theorem RtFit.size {cs : List CT} {q : RT} (h : RtFit cs q) : cs.length = q.size := by
  obtain ⟨r, h1, rfl | rfl⟩ := h
  · exact rtOf_size h1
  · rw [RT.size_toVs]; exact rtOf_size h1
theorem TyI.row_fit {I : TyI} {q : RT} (h : I.row = some q) : RtFit I.cells q := by
  unfold TyI.row at h
  cases hl : I.lend with
  | false => rw [hl] at h; exact ⟨q, h, .inl rfl⟩
  | true => rw [hl] at h; obtain ⟨r, h1, h2⟩ := Option.map_eq_some_iff.1 h; exact ⟨r, h1, .inr h2.symm⟩
/-- The element of a slice's type. -/
theorem isSlT_elem {P : Program} {tb : Tb} (h : tyCheck P tb = true) {t : Nat} {q : RT} (hs : isSlT tb t q = true) :
    P.underlying t = some (.slice (tyOf tb t).elem) ∧ ∃ i z, P.info? (tyOf tb t).elem = some i ∧ i.size = q.size ∧ i.bytes = (tyOf tb (tyOf tb t).elem).bytes ∧ i.zero = some z ∧ z.cells.toList = (tyOf tb (tyOf tb t).elem).cells.map zval ∧ RtFit (tyOf tb (tyOf tb t).elem).cells q := by
  unfold isSlT at hs
  cases ho : oneT tb t with
  | none => rw [ho] at hs; simp at hs
  | some c =>
    rw [ho] at hs
    cases c with
    | sl r =>
      simp only at hs
      obtain ⟨i, d, hi, hd, h1, h2⟩ := oneT_desc h ho
      obtain ⟨rfl, h3⟩ := h2
      have hne : (tyOf tb (tyOf tb t).elem).cells ≠ [] := by intro e; rw [e] at h3; simp [rtOf] at h3
      obtain ⟨i', d', z, hi', _, hs', hb', hz, hzc, _⟩ := (TyOk.of h hne).out
      have hq : RtFit (tyOf tb (tyOf tb t).elem).cells q := ⟨r, h3, by
        rw [Bool.or_eq_true] at hs
        rcases hs with hs | hs
        · exact .inl (RT.eq_of_same hs)
        · exact .inr (RT.eq_of_same hs)⟩
      exact ⟨hd, i', z, hi', by rw [hs', hq.size], hb', hz, hzc, hq⟩
    | int k => simp at hs
    | bool => simp at hs
    | str => simp at hs
    | nl q0 => simp at hs
    | vs q0 => simp at hs
theorem isSlT0_elem {P : Program} {tb : Tb} (h : tyCheck P tb = true) {t : Nat} (hs : isSlT0 tb t = true) :
    P.underlying t = some (.slice (tyOf tb t).elem) ∧ ∃ q, isSlT tb t q = true := by
  unfold isSlT0 at hs
  cases ho : oneT tb t with
  | none => rw [ho] at hs; simp at hs
  | some c =>
    rw [ho] at hs
    cases c with
    | sl r =>
      obtain ⟨i, d, hi, hd, h1, h2⟩ := oneT_desc h ho
      obtain ⟨rfl, h3⟩ := h2
      refine ⟨hd, r, ?_⟩
      unfold isSlT
      rw [ho]
      show (r.same r || r.same r.toVs) = true
      rw [RT.same_refl r]; rfl
    | int k => simp at hs
    | bool => simp at hs
    | str => simp at hs
    | nl q0 => simp at hs
    | vs q0 => simp at hs
theorem isNlT_elem {P : Program} {tb : Tb} (h : tyCheck P tb = true) {t : Nat} (hs : isNlT tb t = true) :
    P.underlying t = some (.slice (tyOf tb t).elem) ∧ ∃ q i z, P.info? (tyOf tb t).elem = some i ∧ i.size = RT.size q ∧ i.bytes = (tyOf tb (tyOf tb t).elem).bytes ∧ i.zero = some z ∧ z.cells.toList = (tyOf tb (tyOf tb t).elem).cells.map zval ∧ rtOf (tyOf tb (tyOf tb t).elem).cells = some q := by
  unfold isNlT at hs
  cases ho : oneT tb t with
  | none => rw [ho] at hs; simp at hs
  | some c =>
    rw [ho] at hs
    cases c with
    | nl r =>
      obtain ⟨i, d, hi, hd, h1, h2⟩ := oneT_desc h ho
      obtain ⟨rfl, h3⟩ := h2
      have hne : (tyOf tb (tyOf tb t).elem).cells ≠ [] := by intro e; rw [e] at h3; simp [rtOf] at h3
      obtain ⟨i', d', z, hi', _, hs', hb', hz, hzc, _⟩ := (TyOk.of h hne).out
      exact ⟨hd, r, i', z, hi', by rw [hs', rtOf_size h3], hb', hz, hzc, h3⟩
    | int k => simp at hs
    | bool => simp at hs
    | str => simp at hs
    | sl q0 => simp at hs
    | vs q0 => simp at hs
theorem isSN_elem {P : Program} {tb : Tb} (h : tyCheck P tb = true) {t : Nat} (hs : (isSlT0 tb t || isNlT tb t) = true) :
    P.underlying t = some (.slice (tyOf tb t).elem) ∧ ∃ q i z, P.info? (tyOf tb t).elem = some i ∧ i.size = RT.size q ∧ i.bytes = (tyOf tb (tyOf tb t).elem).bytes ∧ i.zero = some z ∧ z.cells.toList = (tyOf tb (tyOf tb t).elem).cells.map zval ∧ RtFit (tyOf tb (tyOf tb t).elem).cells q := by
  rw [Bool.or_eq_true] at hs
  rcases hs with hs | hs
  · obtain ⟨hd, q, hq⟩ := isSlT0_elem h hs
    obtain ⟨_, i, z, x⟩ := isSlT_elem h hq
    exact ⟨hd, q, i, z, x⟩
  · obtain ⟨hd, q, i, z, a1, a2, a3, a4, a5, a6⟩ := isNlT_elem h hs
    exact ⟨hd, q, i, z, a1, a2, a3, a4, a5, q, a6, .inl rfl⟩
theorem isStrT_under {P : Program} {tb : Tb} (h : tyCheck P tb = true) {t : Nat} (hs : isStrT tb t = true) : P.underlying t = some .string := by
  unfold isStrT at hs
  cases ho : oneT tb t with
  | none => rw [ho] at hs; simp at hs
  | some c =>
    rw [ho] at hs
    cases c with
    | str => obtain ⟨i, d, hi, hd, h1, h2⟩ := oneT_desc h ho; cases h2; exact hd
    | nl q0 => simp at hs
    | vs q0 => simp at hs
    | sl r => simp at hs
    | int k => simp at hs
    | bool => simp at hs

end Go.Abs

namespace Go.Abs
set_option linter.unusedSimpArgs false
set_option linter.unusedVariables false
open Go.RowKit

structure EnvR (B : Base) (G : Gh) (e : Env) (a : Act) : Prop where
  rel : ∀ t, VRel B G (getE e t) (a.tmps.getD t undef)
theorem constAV_rel {B : Base} {G : Gh} (v : Value) : VRel B G (constAV v) v := by
  unfold constAV
  split <;> first | rfl | trivial
theorem evalO_rel {B : Base} {G : Gh} {e : Env} {a : Act} (h : EnvR B G e a) (x : Operand) : VRel B G (evalO e x) (a.eval x) := by
  cases x with
  | tmp t => exact h.rel t
  | const v => exact constAV_rel v
  | global g => trivial
  | func f => exact ⟨[], rfl, trivial⟩

/-- What an operation leaves. -/
structure Post (B : Base) (G : Gh) (nb : Nat) (av : AV) (z : List Pl) (h' : Heap) (v : Value) (w' : World) : Prop where
  out : ∃ G', Sim B G' (purgeHs z h') w' ∧ VRel B G' av v ∧ (∀ x u, (∀ i ∈ z, x.deepS i = false) → VRelS B G x u → VRelS B G' x u) ∧
    (∀ id, G id = none → (id < nb ∨ nb + 16 ≤ id) → G' id = none) ∧ (z = [] → ∀ id go, G id = some go → G' id = some go)
theorem Post.pure {B : Base} {G : Gh} {nb : Nat} {av : AV} {h : Heap} {v : Value} {w : World} (s : Sim B G h w) (hv : VRel B G av v) : Post B G nb av [] h v w :=
  ⟨⟨G, s, hv, fun _ _ _ h => h, fun _ h _ => h, fun _ _ _ h => h⟩⟩
/-- A new object with the first number. -/
theorem Post.new {B : Base} {G : Gh} {nb : Nat} {av : AV} {h : Heap} {v : Value} {w : World} {o : Obj} {go : GO} (hn : G nb = none) (s : Sim B (G.set nb go) (setO h nb o) w) (hv : VRel B (G.set nb go) av v) : Post B G nb av [] (setO h nb o) v w := by
  have hle : ∀ id g, G id = some g → (G.set nb go) id = some g := by
    intro id g hg
    unfold Gh.set
    by_cases e : nb = id
    · subst e; rw [hn] at hg; cases hg
    · rw [if_neg e]; exact hg
  refine ⟨⟨_, s, hv, fun x u _ hx => hx.mono (Gh.le_of_same hle), fun id hid hne => ?_, fun _ => hle⟩⟩
  unfold Gh.set
  rw [if_neg (by omega)]; exact hid

structure OpOk (B : Base) (G : Gh) (a : Act) (w : World) (o : Oper) (nb : Nat) (av : AV) (z : List Pl) (h' : Heap) : Prop where
  out : ∃ n v w', (execOp a.eval o).run B.P w = .ok n w' ∧ (n = .value v ∨ (n = .skip ∧ v = undef)) ∧ Post B G nb av z h' v w'
theorem OpOk.pure {B : Base} {G : Gh} {a : Act} {w : World} {o : Oper} {nb : Nat} {av : AV} {h : Heap} {v : Value} (s : Sim B G h w) (hr : (execOp a.eval o).run B.P w = .ok (.value v) w) (hv : VRel B G av v) : OpOk B G a w o nb av [] h :=
  ⟨⟨_, v, w, hr, .inl rfl, .pure s hv⟩⟩
/-- The premises that all operations have. -/
structure Pre (tb : Tb) (B : Base) (G : Gh) (e : Env) (h : Heap) (a : Act) (w : World) (nb : Nat) : Prop where
  ty : tyCheck B.P tb = true
  sim : Sim B G h w
  env : EnvR B G e a
  free : ∀ id, nb ≤ id → id < nb + 16 → G id = none
section
variable {tb : Tb} {B : Base} {G : Gh} {e : Env} {h : Heap} {a : Act} {w : World} {nb : Nat} {o : Oper} {av : AV} {z : List Pl} {h' : Heap}

theorem ret_has {v : AV} (hev : (DH.ret (v, ([] : List Pl))).Has h (av, z) h') : av = v ∧ z = [] ∧ h' = h := by
  obtain ⟨h1, h2⟩ := hev
  cases h1
  exact ⟨rfl, rfl, h2.symm⟩
theorem Pre.done (p : Pre tb B G e h a w nb) {v : AV} (hev : (DH.ret (v, ([] : List Pl))).Has h (av, z) h') {u : Value} (hr : (execOp a.eval o).run B.P w = .ok (.value u) w) (hv : VRel B G v u) : OpOk B G a w o nb av z h' := by
  obtain ⟨rfl, rfl, rfl⟩ := ret_has hev
  exact .pure p.sim hr hv

theorem typedNil_rel {t : Nat} {v : AV} {u : Value} (hv : VRel B G v u) : VRel B G (typedNil tb t v) u := by
  unfold typedNil
  split
  · split <;> exact hv
  · exact hv
theorem op_move (p : Pre tb B G e h a w nb) {x : Operand} (hop : o.op = .move x ∨ o.op = .assign x) (hev : (DH.ret (typedNil tb o.type (evalO e x), ([] : List Pl))).Has h (av, z) h') : OpOk B G a w o nb av z h' := by
  refine p.done hev (u := a.eval x) ?_ (typedNil_rel (evalO_rel p.env x))
  rcases hop with hop | hop <;> simp [execOp, hop]

theorem pickV_has {c : Bool} {x y v : AV} {h1 : Heap} (hp : (pickV c x y).Has h v h1) {u u' : Value} (hx : VRel B G x u) (hy : VRel B G y u') : h1 = h ∧ VRel B G v (if c then u else u') := by
  unfold pickV at hp
  split at hp
  · rename_i k n k' n'
    cases hk : IntKind.same k k' with
    | false => rw [hk] at hp; exact hp.elim
    | true =>
      rw [hk] at hp
      obtain ⟨rfl, rfl⟩ := hp
      have := IntKind.eq_of_same hk
      subst this
      cases hx; cases hy
      cases c <;> exact ⟨rfl, rfl⟩
  · obtain ⟨rfl, rfl⟩ := hp
    cases hx; cases hy
    cases c <;> exact ⟨rfl, rfl⟩
  · rcases hp with ⟨rfl, rfl, rfl⟩ | ⟨rfl, rfl, rfl⟩
    · exact ⟨rfl, hx⟩
    · exact ⟨rfl, hy⟩
theorem op_pick (p : Pre tb B G e h a w nb) {c x y : Operand} (hop : o.op = .pick c x y) {t : Bool} (hc : evalO e c = .bool t)
    (hev : ((pickV t (evalO e x) (evalO e y)).andThen fun v => .ret (v, [])).Has h (av, z) h') : OpOk B G a w o nb av z h' := by
  obtain ⟨v, h1, hp, hev2⟩ := (DH.has_andThen _ _ _ _ _).1 hev
  clear hev
  obtain ⟨rfl, hv⟩ := pickV_has hp (evalO_rel p.env x) (evalO_rel p.env y)
  have hb := evalO_rel p.env c
  rw [hc] at hb
  have hb : a.eval c = .bool t := hb
  refine p.done hev2 (u := if t then a.eval x else a.eval y) ?_ hv
  simp [execOp, hop, hb, asBool]

theorem op_nilCheck (p : Pre tb B G e h a w nb) {x : Operand} (hop : o.op = .nilCheck x) (hk : (∃ id off, evalO e x = .ptr id off) ∨ (∃ id q i j, evalO e x = .eptr id q i j) ∨ ∃ f cs, evalO e x = .func f cs)
    (hev : (DH.ret (evalO e x, ([] : List Pl))).Has h (av, z) h') : OpOk B G a w o nb av z h' := by
  have hv := evalO_rel p.env x
  refine p.done hev (u := a.eval x) ?_ hv
  rcases hk with ⟨id, off, hk⟩ | ⟨id, q, i, j, hk⟩ | ⟨f, cs, hk⟩
  · rw [hk] at hv
    obtain ⟨b, _, hb⟩ := hv
    simp [execOp, hop, hb]
  · rw [hk] at hv
    obtain ⟨b, off, cap, sz, n, _, _, _, hb⟩ := hv
    simp [execOp, hop, hb]
  · rw [hk] at hv
    obtain ⟨vs, hb, _⟩ := hv
    simp [execOp, hop, hb]

theorem op_neg (p : Pre tb B G e h a w nb) {t : TypeId} {x : Operand} (hop : o.op = .unOp .neg t x) {k : IntKind} {n : Int} (hx : evalO e x = .int k n)
    (hev : (DH.ret (AV.int k (k.wrap (0 - n)), ([] : List Pl))).Has h (av, z) h') : OpOk B G a w o nb av z h' := by
  have hv := evalO_rel p.env x
  rw [hx] at hv
  have hv : a.eval x = .int k n := hv
  exact p.done hev (u := .int k (k.wrap (0 - n))) (by simp [execOp, hop, hv, Op.unary, Op.intArith]) rfl
theorem op_not (p : Pre tb B G e h a w nb) {t : TypeId} {x : Operand} (hop : o.op = .unOp .not t x) {b : Bool} (hx : evalO e x = .bool b)
    (hev : (DH.ret (AV.bool (!b), ([] : List Pl))).Has h (av, z) h') : OpOk B G a w o nb av z h' := by
  have hv := evalO_rel p.env x
  rw [hx] at hv
  have hv : a.eval x = .bool b := hv
  exact p.done hev (u := .bool (!b)) (by simp [execOp, hop, hv, Op.unary]) rfl

theorem op_extract (p : Pre tb B G e h a w nb) {x : Operand} {n : Nat} (hop : o.op = .extract x n) {vs : List AV} (hx : evalO e x = .tup vs) {v : AV} (hn : vs[n]? = some v)
    (hev : (DH.ret (v, ([] : List Pl))).Has h (av, z) h') : OpOk B G a w o nb av z h' := by
  have hv := evalO_rel p.env x
  rw [hx] at hv
  obtain ⟨us, hu, hr⟩ := hv
  have : ∀ {as : List AV} {us : List Value}, VRelAs B G as us → ∀ {n : Nat} {v : AV}, as[n]? = some v → ∃ u, us[n]? = some u ∧ VRelA B G v u := by
    intro as
    induction as with
    | nil => intro us _ n v h; simp at h
    | cons b as ih =>
      intro us hr n v hn
      cases us with
      | nil => exact hr.elim
      | cons u us =>
        cases n with
        | zero => simp at hn; subst hn; exact ⟨u, by simp, hr.1⟩
        | succ n => simp at hn; obtain ⟨u', h1, h2⟩ := ih hr.2 hn; exact ⟨u', by simpa using h1, h2⟩
  obtain ⟨u, h1, h2⟩ := this hr hn
  refine p.done hev (u := u) ?_ ?_
  · simp [execOp, hop, hu, Instr.extract, h1]
  · cases v with
    | tup cs => exact h2.elim
    | _ => rw [VRel_A rfl]; exact h2

theorem convI (p : Pre tb B G e h a w nb) {s d : TypeId} {x : Operand} (hop : o.op = .convert s d x) {k k' : IntKind} {k'' : IntKind} {n : Int} (h1 : oneT tb s = some (.int k')) (h2 : oneT tb d = some (.int k)) (hx : evalO e x = .int k'' n)
    (hev : (DH.ret (AV.int k (k.wrap n), ([] : List Pl))).Has h (av, z) h') : OpOk B G a w o nb av z h' := by
  have hv := evalO_rel p.env x
  rw [hx] at hv
  have hv : a.eval x = .int k'' n := hv
  obtain ⟨i1, d1, _, hd1, _, hc1⟩ := oneT_desc p.ty h1
  obtain ⟨i2, d2, _, hd2, _, hc2⟩ := oneT_desc p.ty h2
  cases hc1; cases hc2
  exact p.done hev (u := .int k (k.wrap n)) (by simp [execOp, hop, hv, convert, run_underlying hd1, run_underlying hd2, Conv.intToInt]) rfl
theorem convS (p : Pre tb B G e h a w nb) {s d : TypeId} {x : Operand} (hop : o.op = .convert s d x) {b : ByteArray} (h1 : oneT tb s = some .str) (h2 : oneT tb d = some .str) (hx : evalO e x = .str b)
    (hev : (DH.ret (AV.str b, ([] : List Pl))).Has h (av, z) h') : OpOk B G a w o nb av z h' := by
  have hv := evalO_rel p.env x
  rw [hx] at hv
  have hv : a.eval x = .string b := hv
  obtain ⟨i1, d1, _, hd1, _, hc1⟩ := oneT_desc p.ty h1
  obtain ⟨i2, d2, _, hd2, _, hc2⟩ := oneT_desc p.ty h2
  cases hc1; cases hc2
  exact p.done hev (u := .string b) (by simp [execOp, hop, hv, convert, run_underlying hd1, run_underlying hd2]) rfl
end
end Go.Abs

namespace Go.Abs
open Go.RowKit
set_option linter.unusedSimpArgs false
set_option linter.unusedVariables false
section
variable {tb : Tb} {B : Base} {G : Gh} {e : Env} {h : Heap} {a : Act} {w : World} {nb : Nat} {o : Oper} {av : AV} {z : List Pl} {h' : Heap}

theorem ret_has1 {α : Type} {v x : α} {h h1 : Heap} (hh : (DH.ret v).Has h x h1) : x = v ∧ h1 = h := ⟨hh.1.symm, hh.2.symm⟩
theorem cond_has {α : Type} {c : Bool} {l r : DH α} {x : α} {h h1 : Heap} (hh : (DH.cond c l r).Has h x h1) : (c = true ∧ l.Has h x h1) ∨ (c = false ∧ r.Has h x h1) := hh

/-! ### two operands -/
theorem cmp_run {op : BinOp} {x y : Int} {av : AV} (hc : cmpI op x y = av) (hne : av ≠ .undef) : ∃ v, (Op.intCmp op x y).run B.P w = .ok v w ∧ VRel B G av v := by
  subst hc
  cases op <;> first | exact absurd rfl hne | skip
  · exact ⟨.bool (decide (x = y)), by rfl, rfl⟩
  · exact ⟨.bool (!decide (x = y)), by rfl, rfl⟩
  · exact ⟨.bool (decide (x < y)), by simp [Op.intCmp, Sem.run, pure], rfl⟩
  · exact ⟨.bool (decide (x ≤ y)), by simp [Op.intCmp, Sem.run, pure], rfl⟩
  · exact ⟨.bool (decide (y < x)), by simp [Op.intCmp, Sem.run, pure, GT.gt], rfl⟩
  · exact ⟨.bool (decide (y ≤ x)), by simp [Op.intCmp, Sem.run, pure, GE.ge], rfl⟩

theorem binI_run {op : BinOp} {k k' : IntKind} {x y : Int} (hk : (IntKind.same k k' || isShift op) = true) {h1 : Heap} (hb : (binI op k x y).Has h av h1) (t : TypeId) (p q : Operand) :
    h1 = h ∧ ∃ v, (eqGuard op t p q (.int k x) (.int k' y) >>= fun _ => binOp op t (.int k x) (.int k' y)).run B.P w = .ok v w ∧ VRel B G av v := by
  have same : isShift op = false → k = k' := by
    intro hs
    rw [hs, Bool.or_false] at hk
    exact IntKind.eq_of_same hk
  cases op
  case add => obtain ⟨rfl, rfl⟩ := ret_has1 hb; cases same rfl; exact ⟨rfl, _, by simp [eqGuard, binOp, Op.intArith], rfl⟩
  case sub => obtain ⟨rfl, rfl⟩ := ret_has1 hb; cases same rfl; exact ⟨rfl, _, by simp [eqGuard, binOp, Op.intArith], rfl⟩
  case mul => obtain ⟨rfl, rfl⟩ := ret_has1 hb; cases same rfl; exact ⟨rfl, _, by simp [eqGuard, binOp, Op.intArith], rfl⟩
  case quo =>
    rcases cond_has hb with ⟨_, hb⟩ | ⟨hy, hb⟩
    · exact hb.elim
    · obtain ⟨rfl, rfl⟩ := ret_has1 hb
      cases same rfl
      have hy : ¬ y = 0 := of_decide_eq_false hy
      exact ⟨rfl, _, by simp [eqGuard, binOp, Op.intDiv, hy], rfl⟩
  case rem =>
    rcases cond_has hb with ⟨_, hb⟩ | ⟨hy, hb⟩
    · exact hb.elim
    · obtain ⟨rfl, rfl⟩ := ret_has1 hb
      cases same rfl
      have hy : ¬ y = 0 := of_decide_eq_false hy
      exact ⟨rfl, _, by simp [eqGuard, binOp, Op.intDiv, hy], rfl⟩
  case and => obtain ⟨rfl, rfl⟩ := ret_has1 hb; cases same rfl; exact ⟨rfl, _, by simp [eqGuard, binOp, Op.intBits, bitI], rfl⟩
  case or => obtain ⟨rfl, rfl⟩ := ret_has1 hb; cases same rfl; exact ⟨rfl, _, by simp [eqGuard, binOp, Op.intBits, bitI], rfl⟩
  case xor => obtain ⟨rfl, rfl⟩ := ret_has1 hb; cases same rfl; exact ⟨rfl, _, by simp [eqGuard, binOp, Op.intBits, bitI], rfl⟩
  case andNot => exact hb.elim
  case shl =>
    rcases cond_has hb with ⟨_, hb⟩ | ⟨hy, hb⟩
    · exact hb.elim
    · obtain ⟨rfl, rfl⟩ := ret_has1 hb
      have hy : ¬ y < 0 := of_decide_eq_false hy
      exact ⟨rfl, _, by simp [eqGuard, binOp, Op.shift, hy, shlI, shrI], rfl⟩
  case shr =>
    rcases cond_has hb with ⟨_, hb⟩ | ⟨hy, hb⟩
    · exact hb.elim
    · obtain ⟨rfl, rfl⟩ := ret_has1 hb
      have hy : ¬ y < 0 := of_decide_eq_false hy
      exact ⟨rfl, _, by simp [eqGuard, binOp, Op.shift, hy, shlI, shrI], rfl⟩
  case eql =>
    obtain ⟨rfl, rfl⟩ := ret_has1 hb
    cases same rfl
    obtain ⟨v, h1, h2⟩ := cmp_run (B := B) (G := G) (w := w) (op := .eql) (x := x) (y := y) rfl (by simp [cmpI])
    exact ⟨rfl, v, by simp [eqGuard_at_int, binOp, h1], h2⟩
  case neq =>
    obtain ⟨rfl, rfl⟩ := ret_has1 hb
    cases same rfl
    obtain ⟨v, h1, h2⟩ := cmp_run (B := B) (G := G) (w := w) (op := .neq) (x := x) (y := y) rfl (by simp [cmpI])
    exact ⟨rfl, v, by simp [eqGuard_at_int, binOp, h1], h2⟩
  case lss =>
    obtain ⟨rfl, rfl⟩ := ret_has1 hb
    cases same rfl
    obtain ⟨v, h1, h2⟩ := cmp_run (B := B) (G := G) (w := w) (op := .lss) (x := x) (y := y) rfl (by simp [cmpI])
    exact ⟨rfl, v, by simp [eqGuard_at_int, binOp, h1], h2⟩
  case leq =>
    obtain ⟨rfl, rfl⟩ := ret_has1 hb
    cases same rfl
    obtain ⟨v, h1, h2⟩ := cmp_run (B := B) (G := G) (w := w) (op := .leq) (x := x) (y := y) rfl (by simp [cmpI])
    exact ⟨rfl, v, by simp [eqGuard_at_int, binOp, h1], h2⟩
  case gtr =>
    obtain ⟨rfl, rfl⟩ := ret_has1 hb
    cases same rfl
    obtain ⟨v, h1, h2⟩ := cmp_run (B := B) (G := G) (w := w) (op := .gtr) (x := x) (y := y) rfl (by simp [cmpI])
    exact ⟨rfl, v, by simp [eqGuard_at_int, binOp, h1], h2⟩
  case geq =>
    obtain ⟨rfl, rfl⟩ := ret_has1 hb
    cases same rfl
    obtain ⟨v, h1, h2⟩ := cmp_run (B := B) (G := G) (w := w) (op := .geq) (x := x) (y := y) rfl (by simp [cmpI])
    exact ⟨rfl, v, by simp [eqGuard_at_int, binOp, h1], h2⟩

theorem nilEq_val {x : AV} {b : Bool} (hx : nilEq x = some b) {u : Value} (hu : VRel B G x u) : ∃ a n c, u = .slice a n c ∧ a.isNone = b := by
  unfold nilEq at hx
  split at hx
  · cases hx
    exact ⟨none, 0, 0, hu, rfl⟩
  · rename_i t r rows
    cases ht : Nat.ble 1000 t with
    | false => rw [ht] at hx; cases hx
    | true =>
      rw [ht] at hx
      cases hx
      obtain ⟨_, h1⟩ := hu
      obtain ⟨h1, h2⟩ := h1 t rfl
      obtain ⟨a, n, c, h3⟩ := h2 (Nat.le_of_ble_eq_true ht)
      exact ⟨some a, n, c, h3, rfl⟩
  · cases hx

theorem run_equal_bool {P : Program} {w : World} {t : TypeId} (hd : P.underlying t = some .bool) (a b : Bool) : (Op.equal t (.bool a) (.bool b)).run P w = .ok (a == b) w := by
  have h : ∀ d, (Op.equalIn (d + 1) t (.bool a) (.bool b)).run P w = .ok (a == b) w := fun d => by simp [Op.equalIn, run_underlying hd]
  exact h 9999
theorem run_eql_bool {P : Program} {w : World} {t : TypeId} (hd : P.underlying t = some .bool) (a b : Bool) : (binOp .eql t (.bool a) (.bool b)).run P w = .ok (.bool (a == b)) w := by
  have e : binOp .eql t (.bool a) (.bool b) = (do pure (.bool (← Op.equal t (.bool a) (.bool b)))) := rfl
  rw [e, Sem.run_bind, run_equal_bool hd]; rfl
theorem run_neq_bool {P : Program} {w : World} {t : TypeId} (hd : P.underlying t = some .bool) (a b : Bool) : (binOp .neq t (.bool a) (.bool b)).run P w = .ok (.bool (!(a == b))) w := by
  have e : binOp .neq t (.bool a) (.bool b) = (do pure (.bool (!(← Op.equal t (.bool a) (.bool b))))) := rfl
  rw [e, Sem.run_bind, run_equal_bool hd]; rfl
theorem guard_run {P : Program} {w : World} {op : BinOp} {t : TypeId} {p q : Operand} {u v : Value} {r : Value} (hg : eqGuard op t p q u v = pure ()) (h : (binOp op t u v).run P w = .ok r w) : (eqGuard op t p q u v >>= fun _ => binOp op t u v).run P w = .ok r w := by
  rw [hg]; exact h
theorem run_equalIn_int {P : Program} {w : World} {t : TypeId} {k : IntKind} (hd : P.underlying t = some (.int k)) (d : Nat) (a b : Int) : (Op.equalIn (d + 1) t (.int k a) (.int k b)).run P w = .ok (decide (a = b)) w := by
  simp [Op.equalIn, run_underlying hd]
  rfl
theorem run_equalIn_bool {P : Program} {w : World} {t : TypeId} (hd : P.underlying t = some .bool) (d : Nat) (a b : Bool) : (Op.equalIn (d + 1) t (.bool a) (.bool b)).run P w = .ok (a == b) w := by
  simp [Op.equalIn, run_underlying hd]
theorem eqC_run {P : Program} {w : World} {d : Nat} {c : CT} {a b : AV} {r : Bool} (h3 : eqC c a b = some r) {t : TypeId} (ht : fitC (P.underlying t) c = true) {x y : Value} (hx : VRelS B G a x) (hy : VRelS B G b y) {xs ys : List Value} {off : Nat} (g1 : xs.toArray[off]? = some x) (g2 : ys.toArray[off]? = some y) :
    (part t xs.toArray off).run P w = .ok x w ∧ (part t ys.toArray off).run P w = .ok y w ∧ (Op.equalIn (d + 1) t x y).run P w = .ok r w := by
  cases hu : P.underlying t with
  | none => rw [hu] at ht; simp [fitC] at ht
  | some D =>
    rw [hu] at ht
    cases c with
    | int q =>
      cases D <;> simp [fitC] at ht
      have := IntKind.eq_of_same ht
      subst this
      cases a <;> try (simp [eqC] at h3; done)
      cases b <;> try (simp [eqC] at h3; done)
      rename_i kk n kk' m
      have hx : x = .int kk n := hx
      have hy : y = .int kk' m := hy
      subst hx; subst hy
      simp only [eqC] at h3
      cases hk : (IntKind.same kk _ && IntKind.same kk' _) with
      | false => rw [hk] at h3; cases h3
      | true =>
        rw [hk] at h3
        simp only [Bool.and_eq_true] at hk
        have e1 := IntKind.eq_of_same hk.1
        have e2 := IntKind.eq_of_same hk.2
        subst e1; subst e2
        simp only [cond_true, Option.some.injEq] at h3
        subst h3
        exact ⟨by simp [part, isAgg, run_underlying hu, g1], by simp [part, isAgg, run_underlying hu, g2], run_equalIn_int hu d n m⟩
    | bool =>
      cases D <;> simp [fitC] at ht
      cases a <;> try (simp [eqC] at h3; done)
      cases b <;> try (simp [eqC] at h3; done)
      rename_i n m
      have hx : x = .bool n := hx
      have hy : y = .bool m := hy
      subst hx; subst hy
      simp only [eqC, Option.some.injEq] at h3
      subst h3
      exact ⟨by simp [part, isAgg, run_underlying hu, g1], by simp [part, isAgg, run_underlying hu, g2], run_equalIn_bool hu d n m⟩
    | str => cases D <;> simp [fitC] at ht
    | nl q0 => cases D <;> simp [fitC] at ht
    | vs q0 => cases D <;> simp [fitC] at ht
    | sl r => cases D <;> simp [fitC] at ht
/-- Structs of plain cells. -/
theorem eqFields_run {P : Program} {w : World} (d : Nat) : ∀ (fs : List Field) (cs : List CT) (k : Nat) (as bs : List AV) (xs ys : List Value) (pre pre' : List Value) (r : Bool), fieldsFlat P fs cs k = true → pre.length = k → pre'.length = k →
    VRelL B G as xs → VRelL B G bs ys → eqCs cs as bs = some r → (Op.eqFields (d + 1) (pre ++ xs).toArray (pre' ++ ys).toArray fs).run P w = .ok r w
  | [], [], k, as, bs, xs, ys, pre, pre', r, hf, h1, h2, hx, hy, he => by
    cases as with
    | nil =>
      cases bs with
      | nil => simp only [eqCs, Option.some.injEq] at he; subst he; rfl
      | cons b bs => simp [eqCs] at he
    | cons a as => simp [eqCs] at he
  | f :: fs, c :: cs, k, as, bs, xs, ys, pre, pre', r, hf, h1, h2, hx, hy, he => by
    simp only [fieldsFlat, Bool.and_eq_true, beq_iff] at hf
    obtain ⟨hn, ho, ht, hf⟩ := hf
    have hn : f.name ≠ "_" := by simpa using hn
    cases as with
    | nil => simp [eqCs] at he
    | cons a as =>
      obtain ⟨x, xs', rfl, hx1, hx2⟩ := hx.cons
      cases bs with
      | nil => cases cs <;> cases as <;> simp [eqCs] at he
      | cons b bs =>
        obtain ⟨y, ys', rfl, hy1, hy2⟩ := hy.cons
        have hstep : ∃ r1 r2, eqC c a b = some r1 ∧ eqCs cs as bs = some r2 ∧ r = (r1 && r2) := by
          have full : (match eqC c a b, eqCs cs as bs with
              | some a, some b => some (a && b)
              | _, _ => none) = some r → ∃ r1 r2, eqC c a b = some r1 ∧ eqCs cs as bs = some r2 ∧ r = (r1 && r2) := by
            intro he
            cases h3 : eqC c a b with
            | none => rw [h3] at he; cases he
            | some r1 =>
              cases h4 : eqCs cs as bs with
              | none => rw [h3, h4] at he; cases he
              | some r2 => rw [h3, h4] at he; exact ⟨r1, r2, rfl, rfl, (Option.some.inj he).symm⟩
          cases cs with
          | nil =>
            cases as with
            | nil =>
              cases bs with
              | nil => simp only [eqCs] at he; exact ⟨r, true, he, rfl, by simp⟩
              | cons b' bs => simp [eqCs] at he
            | cons a' as => simp [eqCs] at he
          | cons c' cs => exact full (by cases as <;> cases bs <;> exact he)
        obtain ⟨r1, r2, h3, h4, rfl⟩ := hstep
        have g1 : (pre ++ x :: xs').toArray[f.offset]? = some x := by rw [ho, ← h1]; simp
        have g2 : (pre' ++ y :: ys').toArray[f.offset]? = some y := by rw [ho, ← h2]; simp
        have hp1 := eqC_run (P := P) (w := w) (d := d) h3 ht hx1 hy1 g1 g2
        have ih := eqFields_run (P := P) (w := w) d fs cs (k + 1) as bs xs' ys' (pre ++ [x]) (pre' ++ [y]) r2 hf (by simp [h1]) (by simp [h2]) hx2 hy2 h4
        simp only [List.append_assoc, List.singleton_append] at ih
        simp only [Op.eqFields, hn, ne_eq, not_false_eq_true, if_true, Sem.run_bind, hp1.1, hp1.2.1, hp1.2.2, Result.andThen_ok]
        cases r1
        · simp
        · simpa using ih
  | [], _ :: _, _, _, _, _, _, _, _, _, hf, _, _, _, _, _ => by simp [fieldsFlat] at hf
  | _ :: _, [], _, _, _, _, _, _, _, _, hf, _, _, _, _, _ => by simp [fieldsFlat] at hf
theorem binO_run (hty : tyCheck B.P tb = true) {t : TypeId} {op : BinOp} {x y : AV} {h1 : Heap} (hb : (binO tb t op x y).Has h av h1) {u v : Value} (hx : VRel B G x u) (hy : VRel B G y v) (p q : Operand) :
    h1 = h ∧ ∃ r, (eqGuard op t p q u v >>= fun _ => binOp op t u v).run B.P w = .ok r w ∧ VRel B G av r := by
  unfold binO at hb
  split at hb
  · have hy : v = .slice none 0 0 := hy
    subst hy
    split at hb
    · rename_i b r hn ho
      obtain ⟨a', n, c, rfl, rfl⟩ := nilEq_val hn hx
      obtain ⟨rfl, rfl⟩ := ret_has1 hb
      obtain ⟨i, d, _, hd, _, hc⟩ := oneT_desc hty ho
      obtain ⟨rfl, _⟩ := hc
      exact ⟨rfl, _, guard_run (eqGuard_at_slice ..) (Lib.run_eql_slice_nil w t _ a' n c 0 0 hd), rfl⟩
    · rename_i b r hn ho
      obtain ⟨a', n, c, rfl, rfl⟩ := nilEq_val hn hx
      obtain ⟨rfl, rfl⟩ := ret_has1 hb
      obtain ⟨i, d, _, hd, _, hc⟩ := oneT_desc hty ho
      obtain ⟨rfl, _⟩ := hc
      exact ⟨rfl, _, guard_run (eqGuard_at_slice ..) (run_neq_slice_nil_any w t _ a' n c 0 0 hd), rfl⟩
    · rename_i b r hn ho
      obtain ⟨a', n, c, rfl, rfl⟩ := nilEq_val hn hx
      obtain ⟨rfl, rfl⟩ := ret_has1 hb
      obtain ⟨i, d, _, hd, _, hc⟩ := oneT_desc hty ho
      obtain ⟨rfl, _⟩ := hc
      exact ⟨rfl, _, guard_run (eqGuard_at_slice ..) (Lib.run_eql_slice_nil w t _ a' n c 0 0 hd), rfl⟩
    · rename_i b r hn ho
      obtain ⟨a', n, c, rfl, rfl⟩ := nilEq_val hn hx
      obtain ⟨rfl, rfl⟩ := ret_has1 hb
      obtain ⟨i, d, _, hd, _, hc⟩ := oneT_desc hty ho
      obtain ⟨rfl, _⟩ := hc
      exact ⟨rfl, _, guard_run (eqGuard_at_slice ..) (run_neq_slice_nil_any w t _ a' n c 0 0 hd), rfl⟩
    · exact hb.elim
  · rename_i k x k' y
    have hx : u = .int k x := hx
    have hy : v = .int k' y := hy
    subst hx; subst hy
    cases hk : (IntKind.same k k' || isShift op) with
    | false => rw [hk] at hb; exact hb.elim
    | true => rw [hk] at hb; exact binI_run hk hb t p q
  · rename_i x y
    have hx : u = .bool x := hx
    have hy : v = .bool y := hy
    subst hx; subst hy
    split at hb
    · rename_i ho
      obtain ⟨rfl, rfl⟩ := ret_has1 hb
      obtain ⟨i, d, _, hd, _, hc⟩ := oneT_desc hty ho
      cases hc
      exact ⟨rfl, _, guard_run (eqGuard_at_bool ..) (run_eql_bool hd x y), rfl⟩
    · rename_i ho
      obtain ⟨rfl, rfl⟩ := ret_has1 hb
      obtain ⟨i, d, _, hd, _, hc⟩ := oneT_desc hty ho
      cases hc
      exact ⟨rfl, _, guard_run (eqGuard_at_bool ..) (run_neq_bool hd x y), rfl⟩
    · exact hb.elim
  · rename_i x y
    have hx : u = .string x := hx
    have hy : v = .string y := hy
    subst hx; subst hy
    split at hb
    · obtain ⟨rfl, rfl⟩ := ret_has1 hb
      exact ⟨rfl, _, guard_run (eqGuard_at_string ..) rfl, rfl⟩
    · obtain ⟨rfl, rfl⟩ := ret_has1 hb
      exact ⟨rfl, _, guard_run (eqGuard_at_string ..) rfl, rfl⟩
    · rcases cond_has hb with ⟨hs, hb⟩ | ⟨_, hb⟩
      · obtain ⟨rfl, rfl⟩ := ret_has1 hb
        have hs : ((x.size + y.size : Nat) : Int) ≤ 140737488355328 := of_decide_eq_true hs
        have hm : ¬ IntKind.i64.max < ((x.size + y.size : Nat) : Int) := by
          have : IntKind.i64.max = 9223372036854775807 := by decide
          rw [this]; omega
        refine ⟨rfl, .string (x ++ y), ?_, rfl⟩
        refine guard_run (eqGuard_at_string ..) ?_
        show (Op.stringOp .add x y).run _ _ = _
        simp only [Op.stringOp]
        rw [if_neg hm]
        rfl
      · exact hb.elim
    · exact hb.elim
  · rename_i xs ys
    obtain ⟨us, rfl, hxr⟩ := hx
    obtain ⟨vs, rfl, hyr⟩ := hy
    cases hc : (flatI (tyOf tb t) && Nat.beq xs.length (tyOf tb t).cells.length) with
    | false => rw [hc] at hb; exact hb.elim
    | true =>
      rw [hc, cond_true] at hb
      simp only [Bool.and_eq_true] at hc
      have hne : (tyOf tb t).cells ≠ [] := by
        intro e1
        have := hc.1
        unfold flatI at this
        rw [e1] at this
        simp at this
      have hflat := eqFlat_of hty hne hc.1
      unfold eqFlat at hflat
      cases hu : B.P.underlying t with
      | none => rw [hu] at hflat; simp at hflat
      | some D =>
        rw [hu] at hflat
        cases D with
        | struct fs =>
          simp only [Bool.and_eq_true, Bool.not_eq_true'] at hflat
          obtain ⟨hst, hgd, hff⟩ := hflat
          have hfo : B.P.fieldsOf t = fs := by simp [Program.fieldsOf, hu]
          have eqrun : ∀ b, eqCs (tyOf tb t).cells xs ys = some b → (Op.equal t (.agg us.toArray) (.agg vs.toArray)).run B.P w = .ok b w := by
            intro b hb2
            have h5 := eqFields_run (P := B.P) (w := w) 9998 fs.toList (tyOf tb t).cells 0 xs ys us vs [] [] b hff rfl rfl hxr hyr hb2
            have h6 := run_equalIn_struct (P := B.P) w 9999 t us.toArray vs.toArray (by rw [hfo]; exact hu) hst
            rw [hfo] at h6
            exact h6.trans h5
          have hguard : ∀ op, (op = .eql ∨ op = .neq) → (eqGuard op t p q (.agg us.toArray) (.agg vs.toArray)).run B.P w = .ok () w := by
            intro op ho
            rcases ho with rfl | rfl <;> simp [eqGuard, hgd]
          split at hb
          · rename_i b hb2
            obtain ⟨rfl, rfl⟩ := ret_has1 hb
            refine ⟨rfl, .bool b, ?_, rfl⟩
            rw [Sem.run_bind, hguard _ (.inl rfl), Result.andThen_ok]
            have e : binOp .eql t (.agg us.toArray) (.agg vs.toArray) = (do pure (.bool (← Op.equal t (.agg us.toArray) (.agg vs.toArray)))) := rfl
            rw [e, Sem.run_bind, eqrun b hb2]; rfl
          · rename_i b hb2
            obtain ⟨rfl, rfl⟩ := ret_has1 hb
            refine ⟨rfl, .bool (!b), ?_, rfl⟩
            rw [Sem.run_bind, hguard _ (.inr rfl), Result.andThen_ok]
            have e : binOp .neq t (.agg us.toArray) (.agg vs.toArray) = (do pure (.bool (!(← Op.equal t (.agg us.toArray) (.agg vs.toArray))))) := rfl
            rw [e, Sem.run_bind, eqrun b hb2]; rfl
          · exact hb.elim
        | _ => simp at hflat
  · exact hb.elim
theorem op_bin (p : Pre tb B G e h a w nb) {op : BinOp} {t yt : TypeId} {x y : Operand} (hop : o.op = .binOp op t x y yt)
    (hev : ((binO tb t op (evalO e x) (evalO e y)).andThen fun v => .ret (v, [])).Has h (av, z) h') : OpOk B G a w o nb av z h' := by
  obtain ⟨v, h1, hp, hev2⟩ := (DH.has_andThen _ _ _ _ _).1 hev
  clear hev
  obtain ⟨rfl, r, hr, hv⟩ := binO_run (B := B) (G := G) (w := w) p.ty hp (evalO_rel p.env x) (evalO_rel p.env y) x y
  refine p.done hev2 (u := r) ?_ hv
  simp only [execOp, hop]
  rw [Sem.run_bind, hr]
  rfl
end
end Go.Abs

namespace Go.Abs
open Go.RowKit
set_option linter.unusedSimpArgs false
set_option linter.unusedVariables false
section
variable {tb : Tb} {B : Base} {G : Gh} {e : Env} {h : Heap} {a : Act} {w : World} {nb : Nat} {o : Oper} {av : AV} {z : List Pl} {h' : Heap}

theorem VRel.S {a : AV} (ha : a.isS = true) {v : Value} (h : VRel B G a v) : VRelS B G a v := by rwa [VRel_S ha] at h
theorem VRel.ofS {a : AV} (ha : a.isS = true) {v : Value} (h : VRelS B G a v) : VRel B G a v := by rwa [VRel_S ha]
theorem capsRel (he : EnvR B G e a) : ∀ (xs : List Operand), (xs.map (evalO e)).all AV.isS = true → VRelL B G (xs.map (evalO e)) (xs.map a.eval)
  | [], _ => trivial
  | x :: xs, h => by
    simp only [List.map_cons, List.all_cons, Bool.and_eq_true] at h
    exact ⟨(evalO_rel he x).S h.1, capsRel he xs h.2⟩
theorem op_makeFunc (p : Pre tb B G e h a w nb) {f : Nat} {first cap : Array Operand} (hop : o.op = .makeFunc (.func f) first cap) (hc : (first.isEmpty && (cap.toList.map (evalO e)).all AV.isS) = true)
    (hev : (DH.ret (AV.func f (cap.toList.map (evalO e)), ([] : List Pl))).Has h (av, z) h') : OpOk B G a w o nb av z h' := by
  simp only [Bool.and_eq_true, Array.isEmpty_iff] at hc
  obtain ⟨rfl, hc⟩ := hc
  refine p.done hev (u := .func (.func f) #[] (cap.map a.eval)) ?_ ⟨cap.toList.map a.eval, by rw [← Array.toList_map], capsRel p.env _ hc⟩
  simp [execOp, hop, Instr.makeFunc]

/-! ### cells of a value -/
theorem oneCell_cells {v : Value} (h : v.oneCell' = true) : v.cells = #[v] := by cases v <;> first | rfl | cases h
theorem okF_flat {x : AV} (hx : x.okF = true) {u : Value} (h : VRel B G x u) : VRelL B G x.flat u.cells.toList := by
  cases x with
  | agg cs => obtain ⟨vs, rfl, h⟩ := h; simpa [Value.cells, AV.flat] using h
  | undef => cases hx
  | tup cs => cases hx
  | func f cs => cases hx
  | _ =>
    have h := h.S rfl
    have hu := okS_one rfl h
    rw [oneCell_cells hu]
    exact ⟨h, trivial⟩
theorem okS_okF {x : AV} (hx : x.flat.all AV.okS = true) : x.okF = true := by
  cases x <;> first | rfl | (simp [AV.flat, AV.okS] at hx)
theorem mkV_rel {g : Bool} {cs : List AV} {vs : List Value} (h : VRelL B G cs vs) (hl : g = false → cs.length = 1) : VRel B G (mkV g cs) (if g then .agg vs.toArray else vs.headD undef) := by
  cases g with
  | true => exact ⟨vs, rfl, h⟩
  | false =>
    match cs, hl rfl, h with
    | [c], _, h =>
      obtain ⟨v, rfl, hv⟩ := h.one
      show VRel B G c v
      cases c with
      | agg cs => exact hv.elim
      | func f cs => exact hv.elim
      | tup cs => exact hv.elim
      | _ => exact hv

/-! ### a field of a struct -/
theorem sameKey_get : ∀ {fs : List Field} {ps : List (Nat × Nat)}, sameKey fs ps = true → ∀ {i o t : Nat}, ps[i]? = some (o, t) → ∃ f, fs[i]? = some f ∧ f.offset = o ∧ f.type = t
  | f :: fs, (o', t') :: ps, h, 0, o, t, hi => by
    simp only [sameKey, Bool.and_eq_true, beq_iff] at h
    simp at hi
    obtain ⟨rfl, rfl⟩ := hi
    exact ⟨f, by simp, h.1, h.2.1⟩
  | f :: fs, (o', t') :: ps, h, i + 1, o, t, hi => by
    simp only [sameKey, Bool.and_eq_true] at h
    obtain ⟨f', h1, h2⟩ := sameKey_get h.2.2 (i := i) (by simpa using hi)
    exact ⟨f', by simpa using h1, h2⟩
  | [], [], _, _, _, _, hi => by simp at hi
  | [], _ :: _, h, _, _, _, _ => by simp [sameKey] at h
  | _ :: _, [], h, _, _, _, _ => by simp [sameKey] at h
theorem isAgg_run {P : Program} {tb : Tb} {t : Nat} {d : TypeDesc} {w : World} (hd : P.underlying t = some d) (hok : descOk tb (tyOf tb t) d = true) : (isAgg t).run P w = .ok (tyOf tb t).agg w := by
  unfold isAgg
  rw [Sem.run_bind, run_underlying hd, Result.andThen_ok]
  unfold descOk at hok
  cases d <;> simp at hok <;> simp [hok.1, Sem.run, pure] <;> simp_all
theorem agg_one {tb : Tb} {t : Nat} {d : TypeDesc} (hok : descOk tb (tyOf tb t) d = true) (ha : (tyOf tb t).agg = false) : (tyOf tb t).cells.length = 1 := by
  unfold descOk at hok
  cases d <;> simp [ha] at hok <;> (split at hok <;> simp_all)
/-- What a struct's type says of its fields. -/
theorem field_ty {P : Program} {tb : Tb} (hty : tyCheck P tb = true) {t f off u : Nat} (hc : (!(tyOf tb t).agg || (tyOf tb t).cells.isEmpty) = false) (hf : (tyOf tb t).fields[f]? = some (off, u)) :
    ∃ fs F, P.underlying t = some (.struct fs) ∧ fs[f]? = some F ∧ F.offset = off ∧ F.type = u ∧ TyOk P tb u ∧ (tyOf tb u).cells ≠ [] := by
  simp only [Bool.or_eq_false_iff, Bool.not_eq_false'] at hc
  obtain ⟨i, d, zz, hi, hd, hs, hb, hz, hzc, hok⟩ := (TyOk.of hty (t := t) (by intro e; rw [e] at hc; simp at hc)).out
  cases d with
  | struct fs =>
    simp only [descOk, Bool.and_eq_true] at hok
    obtain ⟨F, h1, h2, h3⟩ := sameKey_get hok.2.1 hf
    have := List.all_eq_true.1 hok.2.2 _ (List.mem_of_getElem? hf)
    have hne : (tyOf tb u).cells ≠ [] := by intro e; simp [e] at this
    exact ⟨fs, F, hd, by simpa using h1, h2, h3, .of hty hne, hne⟩
  | _ => simp [descOk, hc.1] at hok

theorem isS_ptr {id off : Nat} : (AV.ptr id off).isS = true := rfl
theorem Addr_add (b o n : Nat) : (⟨b, o, none⟩ : Addr).add n = ⟨b, o + n, none⟩ := by unfold Addr.add; split <;> simp_all
theorem fieldAt_run {P : Program} (hty : tyCheck P tb = true) {t f off u : Nat} (hc : (!(tyOf tb t).agg || (tyOf tb t).cells.isEmpty) = false) (hf : (tyOf tb t).fields[f]? = some (off, u)) (b o : Nat) (w : World) :
    (Instr.fieldAt t (.pointer (some ⟨b, o, none⟩)) f).run P w = .ok (.pointer (some ⟨b, o + off, none⟩)) w := by
  obtain ⟨fs, F, hd, hF, h1, h2, hu, hne⟩ := field_ty hty hc hf
  obtain ⟨i, d, zz, hi, _, hs, _⟩ := hu.out
  have hs0 : ¬ i.size = 0 := by rw [hs]; intro e; exact hne (List.length_eq_zero_iff.1 e)
  subst h2
  simp [Instr.fieldAt, run_underlying hd, hF, Instr.sureAddr, fieldPlace, sizeOf, typeInfo, hi, hs0, Addr_add, h1]
theorem op_fieldAddr (p : Pre tb B G e h a w nb) {t : TypeId} {x : Operand} {f off u : Nat} (hop : o.op = .fieldAddr t x f) (hc : (!(tyOf tb t).agg || (tyOf tb t).cells.isEmpty) = false) (hf : (tyOf tb t).fields[f]? = some (off, u)) {r : AV}
    (hx : (∃ id j, evalO e x = .ptr id j ∧ r = .ptr id (j + off)) ∨ (∃ q row j, evalO e x = .bptr q row j ∧ r = .bptr q row (j + off)) ∨ ∃ id q i j, evalO e x = .eptr id q i j ∧ r = .eptr id q i (j + off))
    (hev : (DH.ret (r, ([] : List Pl))).Has h (av, z) h') : OpOk B G a w o nb av z h' := by
  have hv := evalO_rel p.env x
  rcases hx with ⟨id, j, hx, rfl⟩ | ⟨q, row, j, hx, rfl⟩ | ⟨id, q, i, j, hx, rfl⟩
  · rw [hx] at hv
    obtain ⟨b, hg, hb⟩ := hv
    refine p.done hev (u := .pointer (some ⟨b, j + off, none⟩)) ?_ ⟨b, hg, rfl⟩
    simp [execOp, hop, hb, fieldAt_run p.ty hc hf]
  · rw [hx] at hv
    obtain ⟨b, o1, ls, h1, h2, h3, hb⟩ := hv
    refine p.done hev (u := .pointer (some ⟨b, o1 + (j + off), none⟩)) ?_ ⟨b, o1, ls, h1, h2, h3, rfl⟩
    simp [execOp, hop, hb, fieldAt_run p.ty hc hf, Nat.add_assoc]
  · rw [hx] at hv
    obtain ⟨b, o1, cap, sz, n, h1, h2, h3, hb⟩ := hv
    refine p.done hev (u := .pointer (some ⟨b, o1 + i.toNat * sz + (j + off), none⟩)) ?_ ⟨b, o1, cap, sz, n, h1, h2, h3, rfl⟩
    simp [execOp, hop, hb, fieldAt_run p.ty hc hf, Nat.add_assoc]

theorem part_run {P : Program} {u : Nat} (hu : TyOk P tb u) {cs : List Value} {off : Nat} {w : World} (hl : ((cs.drop off).take (tyOf tb u).cells.length).length = (tyOf tb u).cells.length) (hn : 1 ≤ (tyOf tb u).cells.length) :
    (part u cs.toArray off).run P w = .ok (if (tyOf tb u).agg then .agg ((cs.drop off).take (tyOf tb u).cells.length).toArray else ((cs.drop off).take (tyOf tb u).cells.length).headD undef) w := by
  obtain ⟨i, d, zz, hi, hd, hs, hb, hz, hzc, hok⟩ := hu.out
  unfold part
  rw [Sem.run_bind, isAgg_run hd hok, Result.andThen_ok]
  cases ha : (tyOf tb u).agg with
  | true =>
    simp only [if_true]
    simp [sizeOf, typeInfo, hi, hs]
  | false =>
    have h1 := agg_one hok ha
    rw [h1] at hl ⊢
    simp only [Bool.false_eq_true, if_false]
    have : off < cs.length := by simp only [List.length_take, List.length_drop] at hl; omega
    have e1 : cs.toArray[off]? = some cs[off] := by simp [this]
    rw [e1]
    have e2 : ((cs.drop off).take 1).headD undef = cs[off] := by
      rw [List.drop_eq_getElem_cons this]; rfl
    rw [e2]
    rfl
theorem op_field (p : Pre tb B G e h a w nb) {t : TypeId} {x : Operand} {f off u : Nat} (hop : o.op = .field t x f) (hc : (!(tyOf tb t).agg || (tyOf tb t).cells.isEmpty) = false) (hf : (tyOf tb t).fields[f]? = some (off, u)) {cs : List AV}
    (hx : evalO e x = .agg cs) (hl : (Nat.beq ((cs.drop off).take (tyOf tb u).cells.length).length (tyOf tb u).cells.length && Nat.ble 1 ((cs.drop off).take (tyOf tb u).cells.length).length) = true)
    (hev : (DH.ret (mkV (tyOf tb u).agg ((cs.drop off).take (tyOf tb u).cells.length), ([] : List Pl))).Has h (av, z) h') : OpOk B G a w o nb av z h' := by
  have hv := evalO_rel p.env x
  rw [hx] at hv
  obtain ⟨vs, hb, hr⟩ := hv
  simp only [Bool.and_eq_true, beq_iff] at hl
  obtain ⟨fs, F, hd, hF, h1, h2, hu, hne⟩ := field_ty p.ty hc hf
  have hr2 := (hr.drop off).take (tyOf tb u).cells.length
  have hlv := hr2.length
  obtain ⟨i, d, zz, hi, hd', hs, hb', hz, hzc, hok⟩ := hu.out
  refine p.done hev (u := _) ?_ (mkV_rel hr2 fun ha => by rw [hl.1, agg_one hok ha])
  subst h1 h2
  simp only [execOp, hop, hb]
  rw [Sem.run_bind]
  unfold Instr.field
  rw [Sem.run_bind, run_underlying hd, Result.andThen_ok]
  simp only [hF, asAgg]
  rw [Sem.run_bind]
  have : (pure vs.toArray : Sem (Array Value)).run B.P w = .ok vs.toArray w := rfl
  rw [this, Result.andThen_ok, part_run hu (by rw [← hlv, hl.1]) (by rw [← hl.1]; exact Nat.le_of_ble_eq_true hl.2)]
  rfl

end
end Go.Abs

namespace Go.Abs
open Go.RowKit
set_option linter.unusedSimpArgs false
set_option linter.unusedVariables false
section
variable {tb : Tb} {B : Base} {G : Gh} {e : Env} {h : Heap} {a : Act} {w : World} {nb : Nat} {o : Oper} {av : AV} {z : List Pl} {h' : Heap}

theorem and_dec {p q : Prop} [Decidable p] [Decidable q] (h : (decide p && decide q) = true) : p ∧ q := by simpa using h
theorem op_index (p : Pre tb B G e h a w nb) {t : TypeId} {x ix : Operand} (hop : o.op = .index t x ix) {b : ByteArray} (hx : evalO e x = .str b) {k : IntKind} {i : Int} (hi : evalO e ix = .int k i) (hs : isStrT tb t = true)
    (hev : (DH.cond (decide (0 ≤ i) && decide (i < (b.size : Int))) (DH.ret (AV.int .u8 ((b.data.getD i.toNat 0).toNat : Int), ([] : List Pl))) .fail).Has h (av, z) h') : OpOk B G a w o nb av z h' := by
  have hv := evalO_rel p.env x
  rw [hx] at hv
  have hv : a.eval x = .string b := hv
  have hw := evalO_rel p.env ix
  rw [hi] at hw
  have hw : a.eval ix = .int k i := hw
  rcases cond_has hev with ⟨hc, hev⟩ | ⟨_, hev⟩
  · obtain ⟨h0, h1⟩ := and_dec hc
    refine p.done hev (u := .int .u8 ((b.data.getD i.toNat 0).toNat : Int)) ?_ rfl
    have hlt : i.toNat < b.size := by omega
    have hg : b[i.toNat]? = some (b.data.getD i.toNat 0) := by
      rw [getElem?_pos b i.toNat hlt]
      congr 1
      simp only [Array.getD_eq_getD_getElem?]
      rw [Array.getElem?_eq_getElem hlt]
      rfl
    simp [execOp, hop, hv, hw, Instr.index, asIntOf, run_underlying (isStrT_under p.ty hs), h0, hg]
  · exact hev.elim

/-! ### the place of an element -/
theorem indexAt_run {P : Program} (hty : tyCheck P tb = true) {t : TypeId} {q : RT} (hs : isSlT tb t q = true) {k : IntKind} {i : Int} {n c : Nat} (h0 : 0 ≤ i) (h1 : i < (n : Int)) (b off : Nat) (w : World) :
    (Instr.indexAt t (.slice (some ⟨b, off, none⟩) n c) (.int k i)).run P w = .ok (.pointer (some ⟨b, off + i.toNat * q.size, none⟩)) w := by
  obtain ⟨hd, I, zz, hI, hsz, _⟩ := isSlT_elem hty hs
  simp [Instr.indexAt, asIntOf, run_underlying hd, sizeOf, typeInfo, hI, hsz, h0, h1, Addr_add]
theorem op_indexAddrB (p : Pre tb B G e h a w nb) {t : TypeId} {x ix : Operand} (hop : o.op = .indexAddr t x ix) {tk : Option Nat} {q : RT} {rows : List q.den} (hx : evalO e x = .bor tk q rows) {k : IntKind} {i : Int} (hi : evalO e ix = .int k i) (hs : isSlT tb t q = true)
    (hev : (DH.cond (decide (0 ≤ i) && decide (i < (rows.length : Int))) (DH.ret (AV.bptr q (rows.getD i.toNat q.dflt) 0, ([] : List Pl))) .fail).Has h (av, z) h') : OpOk B G a w o nb av z h' := by
  have hv := evalO_rel p.env x
  rw [hx] at hv
  have hw := evalO_rel p.env ix
  rw [hi] at hw
  have hw : a.eval ix = .int k i := hw
  rcases cond_has hev with ⟨hc, hev⟩ | ⟨_, hev⟩
  · obtain ⟨h0, h1⟩ := and_dec hc
    obtain ⟨⟨l, hcell, hsafe⟩, _⟩ := hv
    obtain ⟨loc, kids, rfl, hb, hk, hl, hr⟩ := hcell
    have hit : i.toNat < rows.length := by omega
    cases loc with
    | nil => simp only [LocOk] at hl; omega
    | emp a c => simp only [LocOk] at hl; omega
    | «at» b off cap sz =>
      obtain ⟨rfl, _, _⟩ := hl
      refine p.done hev (u := .pointer (some ⟨b, off + i.toNat * q.size, none⟩)) ?_ ⟨b, off + i.toNat * q.size, kids.getD i.toNat [], hr b off cap _ rfl i.toNat hit, hsafe b (by simp [L.bl, Loc.bl]), fun b' hb' => hsafe b' ?_, rfl⟩
      · simp only [Loc.val] at hb
        simp [execOp, hop, hw, hb, indexAt_run p.ty hs h0 h1]
      · simp only [L.bl, List.mem_append]
        exact .inr (Lss.bl_getD kids _ b' hb')
  · exact hev.elim

theorem op_indexAddrR (p : Pre tb B G e h a w nb) {t : TypeId} {x ix : Operand} (hop : o.op = .indexAddr t x ix) {id : Nat} {path : List (Int × Nat)} {v : Option (Int × Int)} (hx : evalO e x = .ref id path v) {k : IntKind} {i : Int} (hi : evalO e ix = .int k i)
    (hev : ((navD id path).andThen fun ⟨q, rs⟩ => bif !isSlT tb t q then .fail else DH.cond (decide (0 ≤ i) && decide (i < lenR rs v)) (DH.ret (AV.eptr id path (offR v i) 0, ([] : List Pl))) .fail).Has h (av, z) h') : OpOk B G a w o nb av z h' := by
  have hv := evalO_rel p.env x
  rw [hx] at hv
  have hw := evalO_rel p.env ix
  rw [hi] at hw
  have hw : a.eval ix = .int k i := hw
  obtain ⟨qr, h1, hn, hev2⟩ := (DH.has_andThen _ _ _ _ _).1 hev
  clear hev
  obtain ⟨rfl, r0, rows0, ho, hnav⟩ := navD_has hn
  obtain ⟨q, rs⟩ := qr
  simp only at hev2
  cases hs : isSlT tb t q with
  | false => rw [hs] at hev2; exact hev2.elim
  | true =>
    rw [hs] at hev2
    simp only [Bool.not_true, cond_false] at hev2
    rcases cond_has hev2 with ⟨hc, hev2⟩ | ⟨_, hev2⟩
    · obtain ⟨h0, h1⟩ := and_dec hc
      cases v with
      | none =>
        obtain ⟨loc, n, hG, hb⟩ := hv
        obtain ⟨l, kids, hg, hk, hcell, hlen, hbl, hsub⟩ := p.sim.nav hG ho hnav
        simp only [lenR] at h1
        obtain ⟨loc', kids', e1, _, hkk, hloc, hr⟩ := hcell
        cases e1
        cases loc with
        | nil => simp only [LocOk] at hloc; omega
        | emp a c => simp only [LocOk] at hloc; omega
        | «at» b off cap sz =>
          obtain ⟨rfl, hcap, _⟩ := hloc
          refine p.done hev2 (u := .pointer (some ⟨b, off + i.toNat * q.size, none⟩)) ?_ ⟨b, off, cap, q.size, n, hG, h0, by simp only [offR]; omega, by simp [offR]⟩
          simp only [Loc.val] at hb
          simp [execOp, hop, hw, hb, indexAt_run p.ty hs h0 (show i < (n : Int) by omega)]
      | some ol =>
        obtain ⟨o1, l1⟩ := ol
        obtain ⟨loc, n, hG, hv0, hv1, hv2, hb⟩ := hv
        obtain ⟨l, kids, hg, hk, hcell, hlen, hbl, hsub⟩ := p.sim.nav hG ho hnav
        simp only [lenR] at h1
        obtain ⟨loc', kids', e1, _, hkk, hloc, hr⟩ := hcell
        cases e1
        cases loc with
        | nil => simp only [LocOk] at hloc; omega
        | emp a c => simp only [LocOk] at hloc; omega
        | «at» b off cap sz =>
          obtain ⟨rfl, hcap, _⟩ := hloc
          simp only at hb
          obtain ⟨c', ⟨hb, hc'⟩ | ⟨hl0, _⟩⟩ := hb
          · refine p.done hev2 (u := .pointer (some ⟨b, off + o1.toNat * q.size + i.toNat * q.size, none⟩)) ?_ ⟨b, off, cap, q.size, n, hG, by simp only [offR]; omega, by simp only [offR]; omega, ?_⟩
            · simp [execOp, hop, hw, hb, indexAt_run p.ty hs h0 (show i < (l1.toNat : Int) by omega)]
            · simp only [offR, Nat.add_zero]
              rw [show (o1 + i).toNat = o1.toNat + i.toNat by omega, Nat.add_mul, Nat.add_assoc]
          · omega
    · exact hev2.elim

/-! ### lengths -/
theorem len_str (p : Pre tb B G e h a w nb) {k : Call} {ts : List TypeId} {x : Operand} {t : TypeId} (hop : o.op = .call k) (hc : k.callee = .builtin .len) (ha : k.args = #[x]) (ht : k.argTypes.toList = t :: ts) (hs : isStrT tb t = true) {b : ByteArray} (hx : evalO e x = .str b)
    (hev : (DH.ret (AV.int .i64 (b.size : Int), ([] : List Pl))).Has h (av, z) h') : OpOk B G a w o nb av z h' := by
  have hv := evalO_rel p.env x
  rw [hx] at hv
  have hv : a.eval x = .string b := hv
  have ht0 : k.argTypes[0]? = some t := by rw [← Array.getElem?_toList, ht]; rfl
  refine p.done hev (u := .int .i64 (b.size : Int)) ?_ rfl
  simp [execOp, hop, resolve, hc, ha, invoke, builtin, Builtin.len_, ht0, hv, run_underlying (isStrT_under p.ty hs), goInt]
theorem len_sl (p : Pre tb B G e h a w nb) {k : Call} {ts : List TypeId} {x : Operand} {t : TypeId} (hop : o.op = .call k) (hc : k.callee = .builtin .len) (ha : k.args = #[x]) (ht : k.argTypes.toList = t :: ts) (hs : (isSlT0 tb t || isNlT tb t) = true) {b : Option Addr} {n c : Nat} (hx : a.eval x = .slice b n c) {m : Int} (hm : m = n)
    (hev : (DH.ret (AV.int .i64 m, ([] : List Pl))).Has h (av, z) h') : OpOk B G a w o nb av z h' := by
  have ht0 : k.argTypes[0]? = some t := by rw [← Array.getElem?_toList, ht]; rfl
  refine p.done hev (u := .int .i64 m) ?_ rfl
  subst hm
  simp [execOp, hop, resolve, hc, ha, invoke, builtin, Builtin.len_, ht0, hx, run_underlying (isSN_elem p.ty hs).1, goInt]
theorem bor_val {tk : Option Nat} {q : RT} {rows : List q.den} {v : Value} (h : VRelS B G (.bor tk q rows) v) : ∃ b c, v = .slice b rows.length c := by
  obtain ⟨⟨l, ⟨loc, kids, _, rfl, _, hl, _⟩, _⟩, _⟩ := h
  cases loc with
  | nil => simp only [LocOk] at hl; exact ⟨none, 0, by simp [Loc.val, hl]⟩
  | emp a c => simp only [LocOk] at hl; exact ⟨a, c, by simp [Loc.val, hl.1]⟩
  | «at» b off cap sz => exact ⟨_, _, rfl⟩
theorem ref_val (s : Sim B G h w) {id : Nat} {path : List (Int × Nat)} {vw : Option (Int × Int)} {v : Value} (hv : VRelS B G (.ref id path vw) v) {r : RT} {rows : List r.den} (ho : getO h id = some (.row r rows)) {q : RT} {rs : List q.den} (hn : navG r rows path = some ⟨q, rs⟩) :
    ∃ b n c, v = .slice b n c ∧ (n : Int) = lenR rs vw := by
  cases vw with
  | none =>
    obtain ⟨loc, n, hG, rfl⟩ := hv
    obtain ⟨l, kids, hg, hk, hcell, hlen, hbl, hsub⟩ := s.nav hG ho hn
    obtain ⟨loc', kids', e1, _, hkk, hloc, hr⟩ := hcell
    cases e1
    cases loc with
    | nil => simp only [LocOk] at hloc; exact ⟨none, 0, 0, rfl, by simp only [lenR]; omega⟩
    | emp a c => simp only [LocOk] at hloc; exact ⟨a, 0, c, rfl, by simp only [lenR]; omega⟩
    | «at» b off cap sz => exact ⟨_, n, _, rfl, by simp only [lenR]; omega⟩
  | some ol =>
    obtain ⟨o1, l1⟩ := ol
    obtain ⟨loc, n, hG, hv0, hv1, hv2, hb⟩ := hv
    obtain ⟨l, kids, hg, hk, hcell, hlen, hbl, hsub⟩ := s.nav hG ho hn
    obtain ⟨loc', kids', e1, _, hkk, hloc, hr⟩ := hcell
    cases e1
    cases loc with
    | nil => simp only [LocOk] at hloc; exact ⟨none, 0, 0, hb, by simp only [lenR]; omega⟩
    | emp a c => simp only [LocOk] at hloc; exact ⟨a, 0, c, hb, by simp only [lenR]; omega⟩
    | «at» b off cap sz =>
      obtain ⟨c', ⟨hb, _⟩ | ⟨hl0, _, a', hb⟩⟩ := hb
      · exact ⟨_, l1.toNat, c', hb, by simp only [lenR]; omega⟩
      · exact ⟨_, 0, 0, hb, by simp only [lenR]; omega⟩

theorem op_min (p : Pre tb B G e h a w nb) {k : Call} {x y : Operand} (hop : o.op = .call k) (hc : k.callee = .builtin .min) (ha : k.args = #[x, y]) {kd kd' : IntKind} {i j : Int} (hx : evalO e x = .int kd i) (hy : evalO e y = .int kd' j) (hk : IntKind.same kd kd' = true)
    (hev : (DH.ret (AV.int kd (_root_.cond (decide (j < i)) j i), ([] : List Pl))).Has h (av, z) h') : OpOk B G a w o nb av z h' := by
  have hv := evalO_rel p.env x
  rw [hx] at hv
  have hv : a.eval x = .int kd i := hv
  have hw := evalO_rel p.env y
  rw [hy] at hw
  have hw : a.eval y = .int kd' j := hw
  refine p.done hev (u := .int kd (_root_.cond (decide (j < i)) j i)) ?_ rfl
  simp [execOp, hop, resolve, hc, ha, invoke, builtin, Builtin.min_, Builtin.min2, hv, hw]
end
end Go.Abs

namespace Go.Abs
open Go.RowKit
set_option linter.unusedSimpArgs false
set_option linter.unusedVariables false
section
variable {tb : Tb} {B : Base} {G : Gh} {e : Env} {h : Heap} {a : Act} {w : World} {nb : Nat} {o : Oper} {av : AV} {z : List Pl} {h' : Heap}

/-- A bound as it is and as a value. -/
def BndR (x : Option Operand) (a : Act) (l : Option Int) : Prop :=
  match x, l with
  | none, none => True
  | some y, some n => ∃ k, a.eval y = .int k n
  | _, _ => False
theorem intOpt_rel (he : EnvR B G e a) {x : Option Operand} {l : Option Int} (hx : intOpt e x = some l) : BndR x a l := by
  cases x with
  | none => simp only [intOpt, Option.some.injEq] at hx; subst hx; trivial
  | some y =>
    simp only [intOpt] at hx
    split at hx
    · rename_i k n hy
      cases hx
      have := evalO_rel he y
      rw [hy] at this
      exact ⟨k, this⟩
    · cases hx
def lowOf : Option Int → Int
  | none => 0
  | some l => l
def highOf (n : Int) : Option Int → Int
  | none => n
  | some h => h

theorem bounds_run {P : Program} {w : World} {b : Bool} {x y : Option Operand} {a : Act} {l h : Option Int} {n c : Nat} (hx : BndR x a l) (hy : BndR y a h) (h0 : 0 ≤ lowOf l) (h1 : lowOf l ≤ highOf n h) (h2 : highOf n h ≤ n) (hc : n ≤ c) :
    (Instr.sliceBounds b n c (x.map a.eval) (y.map a.eval) none).run P w = .ok ((lowOf l).toNat, (highOf n h).toNat, c) w := by
  unfold Instr.sliceBounds
  cases y with
  | none =>
    cases h with
    | some _ => exact hy.elim
    | none =>
      simp only [highOf] at h1 h2 ⊢
      cases x with
      | none =>
        cases l with
        | some _ => exact hx.elim
        | none => simp [lowOf]
      | some x =>
        cases l with
        | none => exact hx.elim
        | some l =>
          obtain ⟨k, hx⟩ := hx
          simp only [lowOf] at h0 h1 ⊢
          simp [hx, Instr.sliceBound, asIntOf, h0, h1]
  | some y =>
    cases h with
    | none => exact hy.elim
    | some h =>
      obtain ⟨k', hy⟩ := hy
      simp only [highOf] at h1 h2 ⊢
      have h3 : 0 ≤ h := Int.le_trans h0 h1
      have h4 : h ≤ (c : Int) := by omega
      cases x with
      | none =>
        cases l with
        | some _ => exact hx.elim
        | none => simp [lowOf, hy, Instr.sliceBound, asIntOf, h3, h4]
      | some x =>
        cases l with
        | none => exact hx.elim
        | some l =>
          obtain ⟨k, hx⟩ := hx
          simp only [lowOf] at h0 h1 ⊢
          have h5 : l ≤ max h 0 := by omega
          simp [hx, hy, Instr.sliceBound, asIntOf, h0, h1, h3, h4, h5]

theorem sliceAt_run {P : Program} {w : World} (hty : tyCheck P tb = true) {t : TypeId} {q : RT} (hs : isSlT tb t q = true) {x y : Option Operand} {a : Act} {l h : Option Int} {n c : Nat} {b : Option Addr} (hx : BndR x a l) (hy : BndR y a h) (h0 : 0 ≤ lowOf l) (h1 : lowOf l ≤ highOf n h) (h2 : highOf n h ≤ n) (hc : n ≤ c) :
    (Instr.sliceAt t (.slice b n c) (x.map a.eval) (y.map a.eval) none).run P w = .ok (.slice (if c = (lowOf l).toNat then b else b.map (·.add ((lowOf l).toNat * q.size))) ((highOf n h).toNat - (lowOf l).toNat) (c - (lowOf l).toNat)) w := by
  obtain ⟨hd, I, zz, hI, hsz, _⟩ := isSlT_elem hty hs
  have hb := bounds_run (P := P) (w := w) (b := true) hx hy h0 h1 h2 hc
  simp [Instr.sliceAt, run_underlying hd, Instr.slice, hb, sizeOf, typeInfo, hI, hsz]

/-- A part of a view. -/
theorem view_cut {loc : Loc} {own : Bool} {sz n : Nat} (hl : LocOk w own sz n loc) {o0 l0 : Int} {b : Option Addr} {m c : Nat} (hv : viewVal loc n o0 l0 (.slice b m c)) {l k : Int} (h0 : 0 ≤ l) (h1 : l ≤ k) (h2 : k ≤ l0) :
    (m : Int) = l0 ∧ m ≤ c ∧ viewVal loc n (o0 + l) (k - l) (.slice (if c = l.toNat then b else b.map (·.add (l.toNat * sz))) (k.toNat - l.toNat) (c - l.toNat)) := by
  obtain ⟨v0, v1, v2, hv⟩ := hv
  cases loc with
  | nil =>
    simp only [LocOk] at hl
    simp only at hv
    cases hv
    refine ⟨by omega, by omega, by omega, by omega, by omega, ?_⟩
    have hl0 : l.toNat = 0 := by omega
    have hk0 : k.toNat = 0 := by omega
    simp [hl0, hk0]
  | emp a cap =>
    obtain ⟨hl, hcap⟩ := hl
    simp only at hv
    cases hv
    refine ⟨by omega, by omega, by omega, by omega, by omega, ?_⟩
    have hl0 : l.toNat = 0 := by omega
    have hk0 : k.toNat = 0 := by omega
    simp only [hl0, hk0, Nat.sub_zero, Nat.zero_mul]
    by_cases hc : c = 0
    · simp [hc]
    · rw [if_neg hc]
      cases b with
      | none => rfl
      | some a => simp [Addr.add]
  | «at» bb off cap s =>
    obtain ⟨rfl, hcap, _⟩ := hl
    simp only at hv
    obtain ⟨c', ⟨hv, hc'⟩ | ⟨hz, hc', a', hv⟩⟩ := hv
    · cases hv
      refine ⟨by omega, by omega, by omega, by omega, by omega, ?_⟩
      by_cases hc : c = l.toNat
      · refine ⟨0, .inr ⟨by omega, rfl, ⟨bb, off + o0.toNat * s, none⟩, ?_⟩⟩
        rw [if_pos hc, show k.toNat - l.toNat = 0 by omega, show c - l.toNat = 0 by omega]
      · refine ⟨c - l.toNat, .inl ⟨?_, by omega⟩⟩
        rw [if_neg hc]
        simp only [Option.map_some, Addr_add]
        rw [show (k - l).toNat = k.toNat - l.toNat by omega, show (o0 + l).toNat = o0.toNat + l.toNat by omega, Nat.add_mul, Nat.add_assoc]
    · cases hv
      refine ⟨by omega, by omega, by omega, by omega, by omega, ?_⟩
      refine ⟨0, .inr ⟨by omega, rfl, a', ?_⟩⟩
      rw [if_pos (by omega), show k.toNat - l.toNat = 0 by omega, Nat.zero_sub]
theorem view_full {loc : Loc} {own : Bool} {sz n : Nat} (hl : LocOk w own sz n loc) : viewVal loc n 0 n (loc.val n) := by
  cases loc with
  | nil => simp only [LocOk] at hl; exact ⟨by omega, by omega, by omega, rfl⟩
  | emp a c => simp only [LocOk] at hl; exact ⟨by omega, by omega, by omega, rfl⟩
  | «at» b off cap s => exact ⟨by omega, by omega, by omega, cap, .inl ⟨by simp [Loc.val], by simp⟩⟩
theorem val_slice (loc : Loc) (n : Nat) : ∃ b m c, loc.val n = .slice b m c := by cases loc <;> exact ⟨_, _, _, rfl⟩

theorem sliceV_has {x : AV} {n : Int} {l k : Option Int} {f : Option (Int × Int) → AV} {v : AV} {h1 : Heap} (hs : (sliceV x n l k f).Has h v h1) (hn : 0 ≤ n) :
    h1 = h ∧ 0 ≤ lowOf l ∧ lowOf l ≤ highOf n k ∧ highOf n k ≤ n ∧ ((l = none ∧ k = none ∧ v = x) ∨ ((l ≠ none ∨ k ≠ none) ∧ v = f (some (lowOf l, highOf n k - lowOf l)))) := by
  cases l with
  | none =>
    cases k with
    | none =>
      obtain ⟨rfl, rfl⟩ := ret_has1 hs
      exact ⟨rfl, by simp [lowOf], by simpa [lowOf, highOf] using hn, by simp [highOf], .inl ⟨rfl, rfl, rfl⟩⟩
    | some k =>
      rcases cond_has hs with ⟨hc, hs⟩ | ⟨_, hs⟩
      · obtain ⟨rfl, rfl⟩ := ret_has1 hs
        obtain ⟨h0, h1⟩ := and_dec hc
        exact ⟨rfl, by simp [lowOf], by simpa [lowOf, highOf] using h0, by simpa [highOf] using h1, .inr ⟨.inr (by simp), by simp [lowOf, highOf]⟩⟩
      · exact hs.elim
  | some l =>
    cases k with
    | none =>
      rcases cond_has hs with ⟨hc, hs⟩ | ⟨_, hs⟩
      · obtain ⟨rfl, rfl⟩ := ret_has1 hs
        obtain ⟨h0, h1⟩ := and_dec hc
        exact ⟨rfl, h0, h1, by simp [highOf], .inr ⟨.inl (by simp), by simp [lowOf, highOf]⟩⟩
      · exact hs.elim
    | some k =>
      rcases cond_has hs with ⟨hc, hs⟩ | ⟨_, hs⟩
      · obtain ⟨rfl, rfl⟩ := ret_has1 hs
        simp only [Bool.and_eq_true, decide_eq_true_eq] at hc
        exact ⟨rfl, hc.1, hc.2.1, hc.2.2, .inr ⟨.inl (by simp), by simp [lowOf, highOf]⟩⟩
      · exact hs.elim

theorem exec_slice {t : TypeId} {x : Operand} {lo hi : Option Operand} (hop : o.op = .slice t x lo hi none) {u : Value} (hr : (Instr.sliceAt t (a.eval x) (lo.map a.eval) (hi.map a.eval) none).run B.P w = .ok u w) :
    (execOp a.eval o).run B.P w = .ok (.value u) w := by
  simp only [execOp, hop, Option.map_none]
  rw [Sem.run_bind, hr]
  rfl
theorem slice_str (p : Pre tb B G e h a w nb) {t : TypeId} {x : Operand} {lo hi : Option Operand} (hop : o.op = .slice t x lo hi none) {l k : Option Int} (hl : intOpt e lo = some l) (hk : intOpt e hi = some k) {b : ByteArray} (hx : evalO e x = .str b) (hs : isStrT tb t = true)
    (hev : ((sliceV (.str b) (b.size : Int) l k (fun v => match v with | some (a, n) => .str (b.extract a.toNat (a + n).toNat) | none => .str b)).andThen fun v => .ret (v, [])).Has h (av, z) h') : OpOk B G a w o nb av z h' := by
  have hv := evalO_rel p.env x
  rw [hx] at hv
  have hv : a.eval x = .string b := hv
  obtain ⟨v, h1, hn, hev2⟩ := (DH.has_andThen _ _ _ _ _).1 hev
  clear hev
  obtain ⟨rfl, g0, g1, g2, g3⟩ := sliceV_has hn (by omega)
  have hb := bounds_run (P := B.P) (w := w) (b := false) (intOpt_rel p.env hl) (intOpt_rel p.env hk) g0 g1 g2 (Nat.le_refl b.size)
  have hrun : (Instr.sliceAt t (a.eval x) (lo.map a.eval) (hi.map a.eval) none).run B.P w = .ok (.string (b.extract (lowOf l).toNat (highOf b.size k).toNat)) w := by
    rw [hv]
    simp [Instr.sliceAt, run_underlying (isStrT_under p.ty hs), Instr.slice, hb]
  refine p.done hev2 (exec_slice hop hrun) ?_
  rcases g3 with ⟨rfl, rfl, rfl⟩ | ⟨_, rfl⟩
  · show Value.string _ = Value.string _
    congr 1
    simp [lowOf, highOf]
  · show Value.string _ = Value.string _
    congr 2
    omega
theorem slice_nil (p : Pre tb B G e h a w nb) {t : TypeId} {x : Operand} {lo hi : Option Operand} (hop : o.op = .slice t x lo hi none) {l k : Option Int} (hl : intOpt e lo = some l) (hk : intOpt e hi = some k) {q : Option RT} (hx : evalO e x = .nil q) (hs : isSlT0 tb t = true)
    (hev : ((sliceV (.nil q) 0 l k (fun _ => .nil q)).andThen fun v => .ret (v, [])).Has h (av, z) h') : OpOk B G a w o nb av z h' := by
  have hv := evalO_rel p.env x
  rw [hx] at hv
  have hv : a.eval x = .slice none 0 0 := hv
  obtain ⟨v, h1, hn, hev2⟩ := (DH.has_andThen _ _ _ _ _).1 hev
  clear hev
  obtain ⟨rfl, g0, g1, g2, g3⟩ := sliceV_has hn (by omega)
  obtain ⟨r, hr⟩ := (isSlT0_elem p.ty hs).2
  have hrun := sliceAt_run (P := B.P) (w := w) p.ty hr (b := none) (n := 0) (c := 0) (intOpt_rel p.env hl) (intOpt_rel p.env hk) g0 g1 g2 (Nat.le_refl 0)
  rw [← hv] at hrun
  refine p.done hev2 (exec_slice hop hrun) ?_
  have : v = .nil q := by rcases g3 with ⟨_, _, rfl⟩ | ⟨_, rfl⟩ <;> rfl
  subst this
  show Value.slice _ _ _ = .slice none 0 0
  have e1 : (lowOf l).toNat = 0 := by omega
  have e2 : (highOf ((0 : Nat) : Int) k).toNat = 0 := by
    have : highOf ((0 : Nat) : Int) k ≤ 0 := g2
    omega
  rw [e1, e2]
  simp

theorem slice_bor (p : Pre tb B G e h a w nb) {t : TypeId} {x : Operand} {lo hi : Option Operand} (hop : o.op = .slice t x lo hi none) {l k : Option Int} (hl : intOpt e lo = some l) (hk : intOpt e hi = some k) {tk : Option Nat} {q : RT} {rows : List q.den} (hx : evalO e x = .bor tk q rows) (hs : isSlT tb t q = true)
    (hev : ((sliceV (.bor tk q rows) (rows.length : Int) l k (fun _ => .bor none q (cutL rows l k))).andThen fun v => .ret (v, [])).Has h (av, z) h') : OpOk B G a w o nb av z h' := by
  have hv := evalO_rel p.env x
  rw [hx] at hv
  have hv0 := hv
  obtain ⟨v, h1, hn, hev2⟩ := (DH.has_andThen _ _ _ _ _).1 hev
  clear hev
  obtain ⟨rfl, g0, g1, g2, g3⟩ := sliceV_has hn (by omega)
  obtain ⟨⟨l1, hcell, hsafe⟩, htok⟩ := hv
  have hcell0 := hcell
  obtain ⟨loc, kids, rfl, hb, hkk, hloc, hr⟩ := hcell
  obtain ⟨bb, m, c, hval⟩ := val_slice loc rows.length
  have hfull := view_full hloc
  rw [hval] at hfull hb
  obtain ⟨hm, hmc, hcut⟩ := view_cut hloc hfull g0 g1 g2
  have hm : m = rows.length := by omega
  subst hm
  have hrun := sliceAt_run (P := B.P) (w := w) p.ty hs (b := bb) (n := rows.length) (c := c) (intOpt_rel p.env hl) (intOpt_rel p.env hk) g0 g1 g2 hmc
  rw [← hb] at hrun
  refine p.done hev2 (exec_slice hop hrun) ?_
  rcases g3 with ⟨rfl, rfl, rfl⟩ | ⟨_, rfl⟩
  · have : Value.slice (if c = (lowOf none).toNat then bb else bb.map (·.add ((lowOf none).toNat * q.size))) ((highOf (rows.length : Int) none).toNat - (lowOf none).toNat) (c - (lowOf none).toNat) = a.eval x := by
      rw [hb]
      simp only [lowOf, highOf, Int.toNat_zero, Nat.zero_mul, Nat.sub_zero, Int.toNat_natCast]
      congr 1
      by_cases hc : c = 0
      · rw [if_pos hc]
      · rw [if_neg hc]; cases bb with
        | none => rfl
        | some b => simp [Addr.add]
    rw [this]
    exact hv0
  · rw [← hkk] at hcut
    simp only [Int.zero_add] at hcut
    obtain ⟨loc', hc', hbl, _⟩ := hcell0.view hcut
    refine ⟨⟨L.sl loc' ((kids.drop (lowOf l).toNat).take (highOf (rows.length : Int) k - lowOf l).toNat), ?_, fun b' hb' => hsafe b' ?_⟩, fun i e => by cases e⟩
    · have e1 : cutL rows l k = viewR rows (some (lowOf l, highOf (rows.length : Int) k - lowOf l)) := by
        cases l <;> cases k <;> simp only [cutL, viewR, lowOf, highOf]
        · simp
        · simp
        · rename_i l; rw [List.take_of_length_le (by simp only [List.length_drop]; omega)]
        · rename_i l k
          rw [List.drop_take]
          congr 1
          simp only [lowOf, highOf] at g0 g1
          omega
      rw [e1]
      rw [hkk] at hc'
      exact hc'
    · simp only [L.bl, List.mem_append] at hb' ⊢
      rcases hb' with hb' | hb'
      · exact .inl (hbl b' hb')
      · exact .inr ((Lss.sublist ((List.take_sublist _ _).trans (List.drop_sublist _ _))).subset hb')
end
end Go.Abs

namespace Go.Abs
open Go.RowKit
set_option linter.unusedSimpArgs false
set_option linter.unusedVariables false
section
variable {tb : Tb} {B : Base} {G : Gh} {e : Env} {h : Heap} {a : Act} {w : World} {nb : Nat} {o : Oper} {av : AV} {z : List Pl} {h' : Heap}

/-- A reference, whole or in part, as a view. -/
theorem ref_view (s : Sim B G h w) {id : Nat} {path : List (Int × Nat)} {vw : Option (Int × Int)} {v : Value} (hv : VRelS B G (.ref id path vw) v) {r : RT} {rows : List r.den} (ho : getO h id = some (.row r rows)) {q : RT} {rs : List q.den} (hn : navG r rows path = some ⟨q, rs⟩) :
    ∃ loc n, G.at id path = some (loc, n) ∧ LocOk w true q.size n loc ∧ viewVal loc n (offR vw 0) (lenR rs vw) v := by
  cases vw with
  | none =>
    obtain ⟨loc, n, hG, rfl⟩ := hv
    obtain ⟨l, kids, hg, hk, hcell, hlen, hbl, hsub⟩ := s.nav hG ho hn
    obtain ⟨loc', kids', e1, _, hkk, hloc, hr⟩ := hcell
    cases e1
    rw [← hlen] at hloc
    refine ⟨loc, n, hG, hloc, ?_⟩
    have := view_full hloc
    simp only [offR, lenR]
    rw [← hlen]
    exact this
  | some ol =>
    obtain ⟨o1, l1⟩ := ol
    obtain ⟨loc, n, hG, hb⟩ := hv
    obtain ⟨l, kids, hg, hk, hcell, hlen, hbl, hsub⟩ := s.nav hG ho hn
    obtain ⟨loc', kids', e1, _, hkk, hloc, hr⟩ := hcell
    cases e1
    rw [← hlen] at hloc
    exact ⟨loc, n, hG, hloc, by simpa [offR, lenR] using hb⟩
def subV (id : Nat) (path : List (Int × Nat)) (v w : Option (Int × Int)) : AV :=
  match v, w with
  | none, w => .ref id path w
  | some (a, _), some (b, n) => .ref id path (some (a + b, n))
  | v, none => .ref id path v
theorem slice_ref (p : Pre tb B G e h a w nb) {t : TypeId} {x : Operand} {lo hi : Option Operand} (hop : o.op = .slice t x lo hi none) {l k : Option Int} (hl : intOpt e lo = some l) (hk : intOpt e hi = some k) {id : Nat} {path : List (Int × Nat)} {v : Option (Int × Int)} (hx : evalO e x = .ref id path v)
    (hev : ((navD id path).andThen fun ⟨q, rs⟩ => bif !isSlT tb t q then .fail else (sliceV (.ref id path v) (lenR rs v) l k (subV id path v)).andThen fun v => .ret (v, [])).Has h (av, z) h') : OpOk B G a w o nb av z h' := by
  have hv := evalO_rel p.env x
  rw [hx] at hv
  have hv0 := hv
  obtain ⟨qr, h1, hn, hev2⟩ := (DH.has_andThen _ _ _ _ _).1 hev
  clear hev
  obtain ⟨rfl, r0, rows0, ho, hnav⟩ := navD_has hn
  obtain ⟨q, rs⟩ := qr
  simp only at hev2
  cases hs : isSlT tb t q with
  | false => rw [hs] at hev2; exact hev2.elim
  | true =>
    rw [hs] at hev2
    simp only [Bool.not_true, cond_false] at hev2
    obtain ⟨y, h2, hn2, hev3⟩ := (DH.has_andThen _ _ _ _ _).1 hev2
    clear hev2
    obtain ⟨loc, n, hG, hloc, hview⟩ := ref_view p.sim hv ho hnav
    have hview0 := hview
    obtain ⟨v0, v1, v2, _⟩ := hview0
    obtain ⟨rfl, g0, g1, g2, g3⟩ := sliceV_has hn2 v1
    obtain ⟨bb, m, c, hval, hm⟩ := ref_val p.sim hv ho hnav
    rw [hval] at hview
    rw [← hm] at g1 g2 g3 hview
    obtain ⟨_, hmc, hcut⟩ := view_cut hloc hview g0 g1 g2
    have hrun := sliceAt_run (P := B.P) (w := w) p.ty hs (b := bb) (n := m) (c := c) (intOpt_rel p.env hl) (intOpt_rel p.env hk) g0 g1 g2 hmc
    rw [← hval] at hrun
    refine p.done hev3 (exec_slice hop hrun) ?_
    rcases g3 with ⟨rfl, rfl, rfl⟩ | ⟨_, rfl⟩
    · have : Value.slice (if c = (lowOf none).toNat then bb else bb.map (·.add ((lowOf none).toNat * q.size))) ((highOf (m : Int) none).toNat - (lowOf none).toNat) (c - (lowOf none).toNat) = a.eval x := by
        rw [hval]
        simp only [lowOf, highOf, Int.toNat_zero, Nat.zero_mul, Nat.sub_zero, Int.toNat_natCast]
        congr 1
        by_cases hc : c = 0
        · rw [if_pos hc]
        · rw [if_neg hc]; cases bb with
          | none => rfl
          | some b => simp [Addr.add]
      rw [this]
      exact hv0
    · cases v with
      | none =>
        simp only [offR, Int.zero_add] at hcut
        exact ⟨loc, n, hG, hcut⟩
      | some ol =>
        obtain ⟨o1, l1⟩ := ol
        simp only [offR, Int.add_zero] at hcut
        exact ⟨loc, n, hG, hcut⟩
/-- The slice of a whole object, or of one that has lost rows: only its place and length are told. -/
theorem Sim.lenO (s : Sim B G h w) {id : Nat} {loc : Loc} {n : Nat} (hG : G.at id [] = some (loc, n)) {q : RT} {m : Nat} (hl : lenO (getO h id) = some (q, m)) : n = m ∧ LocOk w true q.size m loc := by
  cases ho : getO h id with
  | none => rw [ho] at hl; cases hl
  | some ob =>
    rw [ho] at hl
    cases ob with
    | box cs => cases hl
    | robox cs => cases hl
    | row r rows =>
      cases hl
      obtain ⟨l, kids, hg, hk, hcell, hlen, _⟩ := s.nav hG ho (rfl : navG q rows [] = some ⟨q, rows⟩)
      obtain ⟨loc', kids', e1, _, hkk, hloc, hr⟩ := hcell
      cases e1
      exact ⟨hlen, hloc⟩
    | part rt cols r rows lo hi =>
      cases rt with
      | false => cases hl
      | true =>
        cases hl
        obtain ⟨loc0, kids0, hg, hp⟩ := s.obj id _ ho
        unfold Gh.at at hG
        rw [hg] at hG
        simp only [L.at, Option.some.injEq, Prod.mk.injEq] at hG
        obtain ⟨rfl, rfl⟩ := hG
        exact ⟨hp.len, (hp.top rfl).1⟩
theorem slice_top (p : Pre tb B G e h a w nb) {t : TypeId} {x : Operand} {lo hi : Option Operand} (hop : o.op = .slice t x lo hi none) {l k : Option Int} (hl : intOpt e lo = some l) (hk : intOpt e hi = some k) {id : Nat} {v : Option (Int × Int)} (hx : evalO e x = .ref id [] v)
    (hev : ((lenD id).andThen fun z => match z with
        | some (q, n) => bif !isSlT tb t q then .fail else (sliceV (.ref id [] v) (lenN n v) l k (subV id [] v)).andThen fun v => .ret (v, [])
        | none => .fail).Has h (av, z) h') : OpOk B G a w o nb av z h' := by
  have hv := evalO_rel p.env x
  rw [hx] at hv
  have hv0 := hv
  rw [has_lenD] at hev
  cases hlo : lenO (getO h id) with
  | none => rw [hlo] at hev; exact hev.elim
  | some qm =>
    obtain ⟨q, m0⟩ := qm
    rw [hlo] at hev
    simp only at hev
    cases hs : isSlT tb t q with
    | false => rw [hs] at hev; exact hev.elim
    | true =>
      rw [hs] at hev
      simp only [Bool.not_true, cond_false] at hev
      obtain ⟨y, h2, hn2, hev3⟩ := (DH.has_andThen _ _ _ _ _).1 hev
      clear hev
      obtain ⟨loc, hG, hloc, hview⟩ : ∃ loc, G.at id [] = some (loc, m0) ∧ LocOk w true q.size m0 loc ∧ viewVal loc m0 (offR v 0) (lenN m0 v) (a.eval x) := by
        cases v with
        | none =>
          obtain ⟨loc, n, hG, hval⟩ := hv
          obtain ⟨rfl, hloc⟩ := p.sim.lenO hG hlo
          exact ⟨loc, hG, hloc, by rw [hval]; exact view_full hloc⟩
        | some ol =>
          obtain ⟨o1, l1⟩ := ol
          obtain ⟨loc, n, hG, hb⟩ := hv
          obtain ⟨rfl, hloc⟩ := p.sim.lenO hG hlo
          exact ⟨loc, hG, hloc, by simpa [offR, lenN] using hb⟩
      have hview0 := hview
      obtain ⟨v0, v1, v2, vb⟩ := hview0
      obtain ⟨rfl, g0, g1, g2, g3⟩ := sliceV_has hn2 v1
      obtain ⟨bb, m, c, hval, hm⟩ : ∃ b n c, a.eval x = .slice b n c ∧ (n : Int) = lenN m0 v := by
        cases loc with
        | nil => simp only [LocOk] at hloc; exact ⟨none, 0, 0, vb, by omega⟩
        | emp a' c => simp only [LocOk] at hloc; exact ⟨a', 0, c, vb, by omega⟩
        | «at» b off cap sz =>
          obtain ⟨c', ⟨hb, _⟩ | ⟨hl0, _, a', hb⟩⟩ := vb
          · exact ⟨_, (lenN m0 v).toNat, c', hb, by omega⟩
          · exact ⟨_, 0, 0, hb, by omega⟩
      rw [hval] at hview
      rw [← hm] at g1 g2 g3 hview
      obtain ⟨_, hmc, hcut⟩ := view_cut hloc hview g0 g1 g2
      have hrun := sliceAt_run (P := B.P) (w := w) p.ty hs (b := bb) (n := m) (c := c) (intOpt_rel p.env hl) (intOpt_rel p.env hk) g0 g1 g2 hmc
      rw [← hval] at hrun
      refine p.done hev3 (exec_slice hop hrun) ?_
      rcases g3 with ⟨rfl, rfl, rfl⟩ | ⟨_, rfl⟩
      · have : Value.slice (if c = (lowOf none).toNat then bb else bb.map (·.add ((lowOf none).toNat * q.size))) ((highOf (m : Int) none).toNat - (lowOf none).toNat) (c - (lowOf none).toNat) = a.eval x := by
          rw [hval]
          simp only [lowOf, highOf, Int.toNat_zero, Nat.zero_mul, Nat.sub_zero, Int.toNat_natCast]
          congr 1
          by_cases hc : c = 0
          · rw [if_pos hc]
          · rw [if_neg hc]; cases bb with
            | none => rfl
            | some b => simp [Addr.add]
        rw [this]
        exact hv0
      · cases v with
        | none =>
          simp only [offR, Int.zero_add] at hcut
          exact ⟨loc, m0, hG, hcut⟩
        | some ol =>
          obtain ⟨o1, l1⟩ := ol
          simp only [offR, Int.add_zero] at hcut
          exact ⟨loc, m0, hG, hcut⟩
theorem op_emp (p : Pre tb B G e h a w nb) {t : TypeId} {x : Operand} (hop : o.op = .slice t x none (some (.const (.int .i64 0))) (some (.const (.int .i64 0)))) (hs : (isSlT0 tb t || isNlT tb t) = true) {b : Option Addr} {n c : Nat} (hx : a.eval x = .slice b n c)
    (hev : (DH.ret (AV.emp, ([] : List Pl))).Has h (av, z) h') : OpOk B G a w o nb av z h' := by
  obtain ⟨hd, q, I, zz, hI, hsz, _⟩ := isSN_elem p.ty hs
  have e0 : a.eval (.const (.int .i64 0)) = .int .i64 0 := rfl
  refine p.done hev (u := .slice b 0 0) ?_ ⟨b, rfl⟩
  simp [execOp, hop, hx, e0, Instr.sliceAt, run_underlying hd, Instr.slice, Instr.sliceBounds, Instr.sliceBound, asIntOf, sizeOf, typeInfo, hI]

/-! ### reading -/
theorem loadVar_run {P : Program} {t : Nat} (hu : TyOk P tb t) {b off : Nat} {vs : List Value} (hl : vs.length = (tyOf tb t).cells.length) (hn : 1 ≤ (tyOf tb t).cells.length) (hc : ∀ j u, vs[j]? = some u → w.cell? ⟨b, off + j, none⟩ = some u) :
    (loadVar t ⟨b, off, none⟩).run P w = .ok (if (tyOf tb t).agg then .agg vs.toArray else vs.headD undef) w := by
  obtain ⟨i, d, zz, hi, hd, hs, hb, hz, hzc, hok⟩ := hu.out
  unfold loadVar
  rw [Sem.run_bind, isAgg_run hd hok, Result.andThen_ok]
  cases ha : (tyOf tb t).agg with
  | true =>
    have hr := run_loadCells_list (P := P) w ⟨b, off, none⟩ vs (fun j u hu => by rw [Addr_add]; exact hc j u hu)
    rw [hl, ← hs] at hr
    simp only [if_true]
    simp [sizeOf, typeInfo, hi, hr]
  | false =>
    have h1 := agg_one hok ha
    rw [h1] at hl
    match vs, hl with
    | [v], _ =>
      simp only [Bool.false_eq_true, if_false]
      have := hc 0 v (by simp)
      simp only [Nat.add_zero] at this
      simp [load, Sem.run, this]
theorem VRelS.ptr_of_load {x : AV} {n : Nat} {cs : List AV} {h1 : Heap} (hl : (loadC n x).Has h cs h1) : x.isS = true := by
  cases x <;> first | rfl | exact hl.elim
theorem op_load (p : Pre tb B G e h a w nb) {t : TypeId} {x : Operand} (hop : o.op = .load t x)
    (hev : ((loadC (tyOf tb t).cells.length (evalO e x)).andThen fun cs => bif Nat.beq cs.length (tyOf tb t).cells.length && Nat.ble 1 cs.length then DH.ret (mkV (tyOf tb t).agg cs, ([] : List Pl)) else .fail).Has h (av, z) h') : OpOk B G a w o nb av z h' := by
  obtain ⟨cs, h1, hl, hev2⟩ := (DH.has_andThen _ _ _ _ _).1 hev
  clear hev
  obtain ⟨rfl, b, off, vs, hv, hc, hr⟩ := loadC_sound p.sim ((evalO_rel p.env x).S (VRelS.ptr_of_load hl)) hl
  cases hb : (Nat.beq cs.length (tyOf tb t).cells.length && Nat.ble 1 cs.length) with
  | false => rw [hb] at hev2; exact hev2.elim
  | true =>
    rw [hb, cond_true] at hev2
    simp only [Bool.and_eq_true, beq_iff] at hb
    have hn : 1 ≤ (tyOf tb t).cells.length := by rw [← hb.1]; exact Nat.le_of_ble_eq_true hb.2
    have hu := TyOk.of p.ty (t := t) (by intro e1; rw [e1] at hn; simp at hn)
    obtain ⟨i, d, zz, hi, hd, hs, hbb, hz, hzc, hok⟩ := hu.out
    refine p.done hev2 (u := if (tyOf tb t).agg then .agg vs.toArray else vs.headD undef) ?_ (mkV_rel hr fun ha => by rw [hb.1, agg_one hok ha])
    simp only [execOp, hop]
    rw [Sem.run_bind, hv]
    unfold Instr.loadAt
    rw [Sem.run_bind]
    have e1 : (Instr.sureAddr (.pointer (some ⟨b, off, none⟩))).run B.P w = .ok ⟨b, off, none⟩ w := rfl
    rw [e1, Result.andThen_ok, loadVar_run hu (by rw [← hr.length, hb.1]) hn hc]
    rfl

/-! ### writing -/
theorem setRow_tape (w : World) (b : Nat) (c : Array Value) : (w.setRow b c).heap.size = w.heap.size := by simp [World.setRow]
theorem op_store (p : Pre tb B G e h a w nb) {t : TypeId} {x y : Operand} (hop : o.op = .store t x y) (hb : (Nat.beq (evalO e y).flat.length (tyOf tb t).cells.length && (Nat.ble 1 (evalO e y).flat.length && (evalO e y).flat.all AV.okS)) = true)
    (hev : ((storeC (evalO e y).flat (evalO e x)).andThen fun z => DH.ret (AV.undef, z)).Has h (av, z) h') : OpOk B G a w o nb av z h' := by
  obtain ⟨z1, h1, hst, hev2⟩ := (DH.has_andThen _ _ _ _ _).1 hev
  clear hev
  obtain ⟨hev2, rfl⟩ := hev2
  cases hev2
  simp only [Bool.and_eq_true, beq_iff] at hb
  obtain ⟨hb1, hb0, hb2⟩ := hb
  have hb : (evalO e y).flat.length = (tyOf tb t).cells.length ∧ (evalO e y).flat.all AV.okS = true := ⟨hb1, hb2⟩
  have hfl := okF_flat (okS_okF hb.2) (evalO_rel p.env y)
  have hne : (evalO e y).flat ≠ [] := by
    intro e1
    rw [e1] at hb0
    cases hb0
  have hps : (evalO e x).isS = true := by
    cases hx : evalO e x <;> rw [hx] at hst <;> first | rfl | exact hst.elim
  obtain ⟨b, off, cur, ty, G', hv, hcur, hlen, hsim, hrel, hz, hfree⟩ := (storeC_sound p.sim ((evalO_rel p.env x).S hps) hfl hne hst).out
  have hne2 : (tyOf tb t).cells ≠ [] := by intro e1; rw [e1] at hb; exact hne (List.length_eq_zero_iff.1 hb.1)
  have hu := TyOk.of p.ty hne2
  obtain ⟨i, d, zz, hi, hd, hs, hbb, hz', hzc, hok⟩ := hu.out
  have hrun := run_storeCells_at B.P b off ty (a.eval y).cells.toList 0 cur w hcur (by simpa using hlen) (okS_all hb.2 hfl)
  simp only [Nat.add_zero] at hrun
  have hsz : (a.eval y).cells.size = i.size := by rw [hs, ← hb.1, hfl.length]; simp
  refine ⟨.skip, undef, _, ?_, .inr ⟨rfl, rfl⟩, ⟨G', hsim, trivial, hrel, fun id hid _ => hfree id hid, fun e1 id go hg => ?_⟩⟩
  · simp [execOp, hop, hv, Instr.storeAt, Instr.sureAddr, storeVar, sizeOf, typeInfo, hi, hsz, hrun]
  · rw [hz e1]; exact hg
end
end Go.Abs

namespace Go.Abs
open Go.RowKit
set_option linter.unusedSimpArgs false
set_option linter.unusedVariables false
section
variable {tb : Tb} {B : Base} {G : Gh} {e : Env} {h : Heap} {a : Act} {w : World} {nb : Nat} {o : Oper} {av : AV} {z : List Pl} {h' : Heap}

theorem Held.fresh (s : Sim B G h w) (w' : World) (hs : w.heap.size < w'.heap.size) : Held B G h w' [w.heap.size] := by
  refine ⟨by simp, fun b hb => ?_, fun id o go ho hw hg b hb hm => ?_⟩
  · simp only [List.mem_singleton] at hb
    subst hb
    exact ⟨hs, fun hsafe => Nat.lt_irrefl _ (Nat.lt_of_lt_of_le hsafe.1 s.size)⟩
  · simp only [List.mem_singleton] at hb
    subst hb
    exact Nat.lt_irrefl _ (s.mine id o go ho hw hg _ hm).1
theorem set_self (G : Gh) (id : Nat) (go : GO) : (G.set id go) id = some go := by unfold Gh.set; rw [if_pos rfl]
/-- A new box. -/
theorem Post.box (s : Sim B G h w) (hn : G nb = none) {cs : List AV} {vs : List Value} (hv : VRelL B G cs vs) (t : TypeId) {c : Array Value} (hc : c.toList = vs) :
    Post B G nb (.ptr nb 0) [] (setO h nb (.box cs)) (.pointer (some ⟨w.heap.size, 0, none⟩)) (w.alloc (.cells c t)) := by
  have s2 := s.grow (Turn.alloc w (.cells c t))
  refine Post.new hn (s2.add hn ⟨w.heap.size, c, t, set_self .., heap_alloc_new w _, ?_⟩ rfl (Held.fresh s _ (by simp))) ⟨w.heap.size, set_self .., rfl⟩
  rw [hc]
  exact hv.mono (Gh.le_set _ hn)
theorem zero_rel : ∀ (cs : List CT), VRelL B G (cs.map zeroC) (cs.map zval)
  | [] => trivial
  | c :: cs => ⟨by cases c <;> first | rfl | exact ⟨none, rfl⟩, zero_rel cs⟩
theorem op_alloc (p : Pre tb B G e h a w nb) {t : TypeId} (hop : o.op = .alloc t) (hne : (tyOf tb t).cells ≠ [])
    (hev : ((putD nb (some (.box ((tyOf tb t).cells.map zeroC)))).andThen fun _ => DH.ret (AV.ptr nb 0, ([] : List Pl))).Has h (av, z) h') : OpOk B G a w o nb av z h' := by
  rw [has_putD] at hev
  obtain ⟨rfl, rfl, rfl⟩ := ret_has hev
  obtain ⟨i, d, zz, hi, hd, hs, hb, hz, hzc, hok⟩ := (TyOk.of p.ty hne).out
  refine ⟨⟨_, .pointer (some ⟨w.heap.size, 0, none⟩), w.alloc (.cells zz.cells t), ?_, .inl rfl, Post.box p.sim (p.free nb (Nat.le_refl _) (by omega)) (zero_rel _) t hzc⟩⟩
  simp [execOp, hop, Instr.alloc, zeroValue, typeInfo, hi, hz, newVar, newRow]
theorem op_box (p : Pre tb B G e h a w nb) {t : TypeId} {x : Operand} (hop : o.op = .box t x) (hb : (Nat.beq (evalO e x).flat.length (tyOf tb t).cells.length && Nat.ble 1 (evalO e x).flat.length && (evalO e x).flat.all AV.okS) = true)
    (hev : ((putD nb (some (.box (evalO e x).flat))).andThen fun _ => DH.ret (AV.ptr nb 0, ([] : List Pl))).Has h (av, z) h') : OpOk B G a w o nb av z h' := by
  rw [has_putD] at hev
  obtain ⟨rfl, rfl, rfl⟩ := ret_has hev
  simp only [Bool.and_eq_true] at hb
  refine ⟨⟨_, .pointer (some ⟨w.heap.size, 0, none⟩), w.alloc (.cells (a.eval x).cells t), ?_, .inl rfl, Post.box p.sim (p.free nb (Nat.le_refl _) (by omega)) (okF_flat (okS_okF hb.2) (evalO_rel p.env x)) t rfl⟩⟩
  simp [execOp, hop, Instr.box, newVar, newRow]

/-! ### structs -/
def setV : List Value → Nat → List Value → List Value
  | cs, _, [] => cs
  | cs, off, v :: vs => setV (cs.set off v) (off + 1) vs
theorem VRelL.set : ∀ {as : List AV} {vs : List Value} (i : Nat) {x : AV} {u : Value}, VRelL B G as vs → VRelS B G x u → VRelL B G (as.set i x) (vs.set i u)
  | [], [], _, _, _, _, _ => trivial
  | _ :: _, _ :: _, 0, _, _, h, hx => ⟨hx, h.2⟩
  | _ :: _, _ :: _, i + 1, _, _, h, hx => ⟨h.1, VRelL.set i h.2 hx⟩
  | [], _ :: _, _, _, _, h, _ => h.elim
  | _ :: _, [], _, _, _, h, _ => h.elim
theorem setCells_rel : ∀ {as : List AV} {us : List Value} {cs : List AV} {vs : List Value} (off : Nat), VRelL B G cs vs → VRelL B G as us → VRelL B G (setCells cs off as) (setV vs off us)
  | [], [], _, _, _, h, _ => h
  | _ :: _, _ :: _, _, _, off, h, hx => setCells_rel (off + 1) (h.set off hx.1) hx.2
  | [], _ :: _, _, _, _, _, hx => hx.elim
  | _ :: _, [], _, _, _, _, hx => hx.elim
theorem setV_length : ∀ (us vs : List Value) (off : Nat), (setV vs off us).length = vs.length
  | [], vs, off => rfl
  | u :: us, vs, off => by simp only [setV]; rw [setV_length us]; simp
theorem fold_setV (off : Nat) : ∀ (us : List Value) (k : Nat) (cells : Array Value), ((us.zipIdx k).foldl (fun (cs : Array Value) p => cs.setIfInBounds (off + p.2) p.1) cells).toList = setV cells.toList (off + k) us
  | [], k, cells => by simp [setV]
  | u :: us, k, cells => by
    simp only [List.zipIdx_cons, List.foldl_cons, setV]
    rw [fold_setV off us (k + 1)]
    simp [Nat.add_assoc]
theorem fill_sound (he : EnvR B G e a) {fs : List (Nat × Nat)} {place : Nat → Option (Nat × Nat)} (hp : ∀ i off t, fs[i]? = some (off, t) → (tyOf tb t).cells ≠ [] → place i = some (off, (tyOf tb t).cells.length)) :
    ∀ (parts : List (Nat × Operand)) (cs : List AV) (vs : List Value) (cs' : List AV), VRelL B G cs vs → buildCells tb e fs cs parts = some cs' →
      ∃ vs', Instr.fill place vs.toArray (parts.map fun p => (p.1, a.eval p.2)) = some vs'.toArray ∧ VRelL B G cs' vs'
  | [], cs, vs, cs', h, hb => by
    simp only [buildCells, Option.some.injEq] at hb
    subst hb
    exact ⟨vs, rfl, h⟩
  | (i, x) :: ps, cs, vs, cs', h, hb => by
    simp only [buildCells] at hb
    cases hf : fs[i]? with
    | none => rw [hf] at hb; cases hb
    | some ot =>
      obtain ⟨off, t⟩ := ot
      rw [hf] at hb
      simp only at hb
      cases hc : ((evalO e x).okF && (Nat.beq (evalO e x).flat.length (tyOf tb t).cells.length && (Nat.ble (off + (evalO e x).flat.length) cs.length && !(tyOf tb t).cells.isEmpty))) with
      | false => rw [hc] at hb; cases hb
      | true =>
        rw [hc, cond_true] at hb
        simp only [Bool.and_eq_true, beq_iff] at hc
        obtain ⟨h1, h2, h3, h4⟩ := hc
        have hfl := okF_flat h1 (evalO_rel he x)
        have hne : (tyOf tb t).cells ≠ [] := by intro e1; rw [e1] at h4; cases h4
        have hl := hfl.length
        have hlen := h.length
        have h3 := Nat.le_of_ble_eq_true h3
        obtain ⟨vs', hv1, hv2⟩ := fill_sound he hp ps _ _ cs' (setCells_rel off h hfl) hb
        refine ⟨vs', ?_, hv2⟩
        simp only [List.map_cons, Instr.fill, hp i off t hf hne]
        have e1 : (a.eval x).cells.size = (tyOf tb t).cells.length := by rw [← h2, hl]; simp
        have e2 : ¬ (off + (a.eval x).cells.size > vs.length) := by rw [e1, ← h2, ← hlen]; omega
        rw [if_neg (by simp only [List.size_toArray]; simp [e1] at e2 ⊢; omega)]
        rw [← hv1]
        congr 1
        apply Array.ext'
        rw [← Array.foldl_toList]
        have := fold_setV off (a.eval x).cells.toList 0 vs.toArray
        simp only [Nat.add_zero] at this
        rw [← this]
        simp
theorem places_get : ∀ {fs : List Field} {pl : List (Nat × Nat)} {P : Program}, fs.mapM (fun f => (P.info? f.type).map fun i => (f.offset, i.size)) = some pl → ∀ {i : Nat} {f : Field}, fs[i]? = some f → ∃ I, P.info? f.type = some I ∧ pl[i]? = some (f.offset, I.size)
  | [], pl, P, h, i, f, hf => by simp at hf
  | g :: fs, pl, P, h, i, f, hf => by
    simp only [List.mapM_cons, Option.bind_eq_bind, Option.pure_def] at h
    cases hg : P.info? g.type with
    | none => rw [hg] at h; simp at h
    | some I =>
      cases hr : fs.mapM (fun f => (P.info? f.type).map fun i => (f.offset, i.size)) with
      | none => rw [hg, hr] at h; simp at h
      | some rest =>
        rw [hg, hr] at h
        simp at h
        subst h
        cases i with
        | zero => simp at hf; subst hf; exact ⟨I, hg, by simp⟩
        | succ i => obtain ⟨I', h1, h2⟩ := places_get hr (i := i) (by simpa using hf); exact ⟨I', h1, by simpa using h2⟩
theorem places_some {tb : Tb} {P : Program} (hty : tyCheck P tb = true) : ∀ {fs : List Field} {ps : List (Nat × Nat)}, sameKey fs ps = true → (ps.all fun p => !(tyOf tb p.2).cells.isEmpty) = true → ∃ pl, fs.mapM (fun f => (P.info? f.type).map fun i => (f.offset, i.size)) = some pl
  | [], [], _, _ => ⟨[], rfl⟩
  | f :: fs, (o, t) :: ps, hk, ha => by
    simp only [sameKey, Bool.and_eq_true, beq_iff] at hk
    simp only [List.all_cons, Bool.and_eq_true] at ha
    obtain ⟨pl, hpl⟩ := places_some hty hk.2.2 ha.2
    have hne : (tyOf tb t).cells ≠ [] := by intro e1; have := ha.1; rw [e1] at this; cases this
    obtain ⟨i, d, zz, hi, _⟩ := (TyOk.of hty hne).out
    obtain ⟨h1, h2, h3⟩ := hk
    subst h2
    exact ⟨(f.offset, i.size) :: pl, by simp [List.mapM_cons, hi, hpl]⟩
  | [], _ :: _, hk, _ => by simp [sameKey] at hk
  | _ :: _, [], hk, _ => by simp [sameKey] at hk
theorem op_build (p : Pre tb B G e h a w nb) {t : TypeId} {parts : Array (Nat × Operand)} (hop : o.op = .build t parts) (hag : (tyOf tb t).agg = true) (hne : (tyOf tb t).cells ≠ []) {cs : List AV}
    (hb : buildCells tb e (tyOf tb t).fields ((tyOf tb t).cells.map zeroC) parts.toList = some cs) (hev : (DH.ret (AV.agg cs, ([] : List Pl))).Has h (av, z) h') : OpOk B G a w o nb av z h' := by
  obtain ⟨i, d, zz, hi, hd, hs, _, hz, hzc, hok⟩ := (TyOk.of p.ty hne).out
  cases d with
  | struct fs =>
    simp only [descOk, Bool.and_eq_true] at hok
    obtain ⟨pl, hpl⟩ := places_some p.ty hok.2.1 hok.2.2
    have hplace : ∀ (i off t' : Nat), (tyOf tb t).fields[i]? = some (off, t') → (tyOf tb t').cells ≠ [] → pl.toArray[i]? = some (off, (tyOf tb t').cells.length) := by
      intro i off t' hf hne'
      obtain ⟨F, h1, h2, h3⟩ := sameKey_get hok.2.1 hf
      obtain ⟨I, h4, h5⟩ := places_get hpl h1
      obtain ⟨i', d', zz', hi', _, hs', _⟩ := (TyOk.of p.ty hne').out
      rw [h3] at h4
      rw [h4] at hi'
      cases hi'
      rw [List.getElem?_toArray, h5, h2, hs']
    obtain ⟨vs', hf, hr⟩ := fill_sound p.env (place := fun i : Nat => pl.toArray[i]?) hplace parts.toList _ _ _ (zero_rel (tyOf tb t).cells) hb
    refine p.done hev (u := .agg vs'.toArray) ?_ ⟨vs', rfl, hr⟩
    have hz' : zz.cells = ((tyOf tb t).cells.map zval).toArray := Array.ext' (by simpa using hzc)
    have hm : (Array.map (fun x => (x.fst, a.eval x.snd)) parts).toList = parts.toList.map fun q => (q.1, a.eval q.2) := by simp
    have hrun : (Instr.build t (parts.map fun (i, x) => (i, a.eval x))).run B.P w = .ok (.agg vs'.toArray) w := by
      simp [Instr.build, run_underlying hd, typeInfo, zeroValue, hi, hz, Array.mapM_eq_mapM_toList, run_places w _ _ hpl]
      rw [hz']
      simp at hf
      rw [hf]
      rfl
    simp only [execOp, hop]
    rw [Sem.run_bind, hrun]
    rfl
  | _ => simp [descOk, hag] at hok

/-! ### bytes as a string -/
theorem push_fold : ∀ (ns : List Int) (s : ByteArray), ns.foldl (fun r n => r.push (UInt8.ofNat n.toNat)) s = ⟨s.data ++ (ns.map fun n => UInt8.ofNat n.toNat).toArray⟩
  | [], s => by simp
  | n :: ns, s => by
    simp only [List.foldl_cons]
    rw [push_fold ns]
    simp only [ByteArray.push, List.map_cons]
    congr 1
    apply Array.ext'
    simp
end
end Go.Abs

namespace Go.Abs
open Go.RowKit
set_option linter.unusedSimpArgs false
set_option linter.unusedVariables false

/-! ### rows as they lie one behind the other -/
def RowsC (F : Fz) (w : World) (own : Bool) (r : RT) : List r.den → List (List L) → List Value → Prop
  | [], ks, vs => ks = [] ∧ vs = []
  | d :: ds, ks, vs => ∃ k ks' v vs', ks = k :: ks' ∧ vs = v ++ vs' ∧ RowC F w own r d k v ∧ RowsC F w own r ds ks' vs'
theorem RowsC.append {F : Fz} {w : World} {own : Bool} {r : RT} : ∀ {ds : List r.den} {ks : List (List L)} {vs : List Value} {ds' : List r.den} {ks' : List (List L)} {vs' : List Value}, RowsC F w own r ds ks vs → RowsC F w own r ds' ks' vs' → RowsC F w own r (ds ++ ds') (ks ++ ks') (vs ++ vs')
  | [], ks, vs, ds', ks', vs', h, h' => by obtain ⟨rfl, rfl⟩ := h; exact h'
  | d :: ds, ks, vs, ds', ks', vs', h, h' => by
    obtain ⟨k, k2, v, v2, rfl, rfl, h1, h2⟩ := h
    exact ⟨k, k2 ++ ks', v, v2 ++ vs', rfl, by simp, h1, h2.append h'⟩
theorem RowsC.length {F : Fz} {w : World} {own : Bool} {r : RT} : ∀ {ds : List r.den} {ks : List (List L)} {vs : List Value}, RowsC F w own r ds ks vs → vs.length = ds.length * r.size ∧ ks.length = ds.length
  | [], ks, vs, h => by obtain ⟨rfl, rfl⟩ := h; simp
  | d :: ds, ks, vs, h => by
    obtain ⟨k, k2, v, v2, rfl, rfl, h1, h2⟩ := h
    obtain ⟨h3, h4⟩ := h2.length
    refine ⟨?_, by simp [h4]⟩
    simp only [List.length_append, List.length_cons, h1.length, h3, Nat.add_mul, Nat.one_mul]
    omega
theorem RowsC.mem {F : Fz} {w : World} {own : Bool} {r : RT} : ∀ {ds : List r.den} {ks : List (List L)} {vs : List Value} {b o : Nat}, RowsC F w own r ds ks vs → (∀ j v, vs[j]? = some v → w.cell? ⟨b, o + j, none⟩ = some v) →
    ∀ i, i < ds.length → RowV F w own r (ds.getD i r.dflt) (ks.getD i []) b (o + i * r.size)
  | [], ks, vs, b, o, h, hm, i, hi => by simp at hi
  | d :: ds, ks, vs, b, o, h, hm, i, hi => by
    obtain ⟨k, k2, v, v2, rfl, rfl, h1, h2⟩ := h
    cases i with
    | zero =>
      simp only [Nat.zero_mul, Nat.add_zero]
      refine h1.mem fun j u hu => hm j u ?_
      rw [List.getElem?_append_left (List.getElem?_eq_some_iff.1 hu).1]; exact hu
    | succ i =>
      have := RowsC.mem (b := b) (o := o + r.size) h2 (fun j u hu => by
        have := hm (r.size + j) u (by rw [List.getElem?_append_right (by rw [h1.length]; omega), h1.length]; simpa using hu)
        rw [Nat.add_assoc]; exact this) i (by simpa using hi)
      rw [show o + (i + 1) * r.size = o + r.size + i * r.size by rw [Nat.add_mul]; omega]
      simpa using this
theorem RowsC.of {F : Fz} {w : World} {own : Bool} {r : RT} : ∀ (ds : List r.den) (ks : List (List L)) (b o : Nat), ks.length = ds.length → (∀ i, i < ds.length → RowV F w own r (ds.getD i r.dflt) (ks.getD i []) b (o + i * r.size)) →
    ∃ vs, RowsC F w own r ds ks vs ∧ ∀ j v, vs[j]? = some v → w.cell? ⟨b, o + j, none⟩ = some v
  | [], ks, b, o, hk, h => ⟨[], ⟨List.length_eq_zero_iff.1 hk, rfl⟩, fun j v hj => by simp at hj⟩
  | d :: ds, [], b, o, hk, h => by simp at hk
  | d :: ds, k :: ks, b, o, hk, h => by
    obtain ⟨vs, h1, h2⟩ := RowsC.of ds ks b (o + r.size) (by simpa using hk) (fun i hi => by
      have := h (i + 1) (by simpa using hi)
      rw [show o + r.size + i * r.size = o + (i + 1) * r.size by rw [Nat.add_mul]; omega]
      simpa using this)
    have h0 := h 0 (by simp)
    simp only [Nat.zero_mul, Nat.add_zero, List.getD_cons_zero] at h0
    obtain ⟨v, h3, h4⟩ := h0.vals
    refine ⟨v ++ vs, ⟨k, ks, v, vs, rfl, rfl, h3, h1⟩, fun j u hu => ?_⟩
    rw [List.getElem?_append] at hu
    by_cases e : j < v.length
    · rw [if_pos e] at hu; exact h4 j u hu
    · rw [if_neg e] at hu
      have := h2 _ u hu
      rw [h3.length] at this e
      rw [show o + r.size + (j - r.size) = o + j by omega] at this
      exact this
theorem RowsC.keep {F : Fz} {w w' : World} {own : Bool} {r : RT} : ∀ {ds : List r.den} {ks : List (List L)} {vs : List Value}, RowsC F w own r ds ks vs → (∀ b ∈ Lss.bl ks, w'.heap[b]? = w.heap[b]?) → RowsC F w' own r ds ks vs
  | [], ks, vs, h, _ => h
  | d :: ds, ks, vs, h, hb => by
    obtain ⟨k, k2, v, v2, rfl, rfl, h1, h2⟩ := h
    exact ⟨k, k2, v, v2, rfl, rfl, h1.keep fun b hm => hb b (by simp only [Lss.bl, List.mem_append]; exact .inl hm), h2.keep fun b hm => hb b (by simp only [Lss.bl, List.mem_append]; exact .inr hm)⟩
theorem RowC.flat_own {F : Fz} {w : World} : ∀ {r : RT} {d : r.den} {ls : List L} {vs : List Value}, r.flat = true → RowC F w false r d ls vs → RowC F w true r d ls vs ∧ Ls.bl ls = []
  | .one c, d, ls, vs, hf, h => by
    obtain ⟨l, v, rfl, rfl, h⟩ := h
    have hl := h.flat_bl hf
    subst hl
    refine ⟨⟨_, v, rfl, rfl, ?_⟩, rfl⟩
    cases c <;> first | exact h | cases hf
  | .cons c r, d, ls, vs, hf, h => by
    obtain ⟨l, ls', v, vs', rfl, rfl, h, hr⟩ := h
    simp only [RT.flat, Bool.and_eq_true] at hf
    have hl := h.flat_bl hf.1
    subst hl
    obtain ⟨h1, h2⟩ := hr.flat_own hf.2
    refine ⟨⟨_, ls', v, vs', rfl, rfl, ?_, h1⟩, by simp [Ls.bl, L.bl, h2]⟩
    cases c <;> first | exact h | cases hf.1
theorem RowsC.flat_own {F : Fz} {w : World} {r : RT} (hf : r.flat = true) : ∀ {ds : List r.den} {ks : List (List L)} {vs : List Value}, RowsC F w false r ds ks vs → RowsC F w true r ds ks vs ∧ Lss.bl ks = []
  | [], ks, vs, h => by obtain ⟨rfl, rfl⟩ := h; exact ⟨⟨rfl, rfl⟩, rfl⟩
  | d :: ds, ks, vs, h => by
    obtain ⟨k, k2, v, v2, rfl, rfl, h1, h2⟩ := h
    obtain ⟨h3, h4⟩ := h1.flat_own hf
    obtain ⟨h5, h6⟩ := h2.flat_own hf
    exact ⟨⟨k, k2, v, v2, rfl, rfl, h3, h5⟩, by simp [Lss.bl, h4, h6]⟩
theorem CellV.oneCell {F : Fz} {w : World} {own : Bool} {c : CT} {d : c.den} {l : L} {v : Value} (h : CellV F w own c d l v) : v.oneCell' = true := by
  cases c with
  | int k => obtain ⟨_, rfl⟩ := h; rfl
  | bool => obtain ⟨_, rfl⟩ := h; rfl
  | str => obtain ⟨_, rfl⟩ := h; rfl
  | nl q0 => obtain ⟨_, a, rfl⟩ := h; rfl
  | vs q0 => obtain ⟨_, _, _, _, _, rfl⟩ := h; rfl
  | sl r => obtain ⟨loc, kids, _, rfl, _⟩ := h; cases loc <;> rfl
theorem RowC.oneCell {F : Fz} {w : World} {own : Bool} : ∀ {r : RT} {d : r.den} {ls : List L} {vs : List Value}, RowC F w own r d ls vs → ∀ v ∈ vs, v.oneCell' = true
  | .one c, d, ls, vs, h, u, hu => by
    obtain ⟨l, v, rfl, rfl, h⟩ := h
    simp only [List.mem_singleton] at hu
    subst hu
    exact h.oneCell
  | .cons c r, d, ls, vs, h, u, hu => by
    obtain ⟨l, ls', v, vs', rfl, rfl, h, hr⟩ := h
    rcases List.mem_cons.1 hu with rfl | hu
    · exact h.oneCell
    · exact hr.oneCell u hu
theorem RowsC.oneCell {F : Fz} {w : World} {own : Bool} {r : RT} : ∀ {ds : List r.den} {ks : List (List L)} {vs : List Value}, RowsC F w own r ds ks vs → ∀ v ∈ vs, v.oneCell' = true
  | [], ks, vs, h, u, hu => by obtain ⟨rfl, rfl⟩ := h; cases hu
  | d :: ds, ks, vs, h, u, hu => by
    obtain ⟨k, k2, v, v2, rfl, rfl, h1, h2⟩ := h
    rcases List.mem_append.1 hu with hu | hu
    · exact h1.oneCell u hu
    · exact h2.oneCell u hu
/-- A slice's rows. -/
theorem CellV.rows {F : Fz} {w : World} {own : Bool} {r : RT} {rows : List r.den} {loc : Loc} {kids : List (List L)} {v : Value} (h : CellV F w own (.sl r) rows (.sl loc kids) v) :
    v = loc.val rows.length ∧ LocOk w own r.size rows.length loc ∧ ∃ vs, RowsC F w own r rows kids vs ∧ ∀ b off cap sz, loc = .at b off cap sz → ∀ j u, vs[j]? = some u → w.cell? ⟨b, off + j, none⟩ = some u := by
  obtain ⟨loc', kids', e, hv, hk, hl, hr⟩ := h
  cases e
  refine ⟨hv, hl, ?_⟩
  cases loc with
  | nil =>
    simp only [LocOk] at hl
    have h1 := List.length_eq_zero_iff.1 hl
    subst h1
    exact ⟨[], ⟨List.length_eq_zero_iff.1 hk, rfl⟩, fun b off cap sz e => by cases e⟩
  | emp a c =>
    simp only [LocOk] at hl
    have h1 := List.length_eq_zero_iff.1 hl.1
    subst h1
    exact ⟨[], ⟨List.length_eq_zero_iff.1 hk, rfl⟩, fun b off cap sz e => by cases e⟩
  | «at» b off cap sz =>
    have hs := hl.1
    obtain ⟨vs, h1, h2⟩ := RowsC.of rows kids b off hk (fun i hi => by rw [← hs]; exact hr b off cap sz rfl i hi)
    exact ⟨vs, h1, fun b' off' cap' sz' e => by cases e; exact h2⟩
theorem CellV.ofRows {F : Fz} {w : World} {r : RT} {rows : List r.den} {kids : List (List L)} {vs : List Value} (h : RowsC F w true r rows kids vs) {b off cap : Nat} (hm : ∀ j u, vs[j]? = some u → w.cell? ⟨b, off + j, none⟩ = some u)
    (hc : rows.length ≤ cap) {cur : Array Value} {e : TypeId} (hb : w.heap[b]? = some (.cells cur e (0, 0))) (hs : off + cap * r.size ≤ cur.size) :
    CellV F w true (.sl r) rows (.sl (.at b off cap r.size) kids) (.slice (some ⟨b, off, none⟩) rows.length cap) :=
  ⟨_, _, rfl, rfl, h.length.2, ⟨rfl, hc, fun _ => ⟨cur, e, hb, hs⟩⟩, fun b' off' cap' sz' e => by cases e; exact h.mem hm⟩
end Go.Abs

namespace Go.Abs
open Go.RowKit
set_option linter.unusedSimpArgs false
set_option linter.unusedVariables false

theorem append_zero {P : Program} {w : World} {t ty el : TypeId} {i : TypeInfo} (hd : P.underlying t = some (.slice el)) (hi : P.info? el = some i) (base xa : Option Addr) (xc : Nat) :
    (Builtin.append_ #[t, t] ty #[.slice base 0 0, .slice xa 0 xc]).run P w = .ok (.slice base 0 0) w := by
  cases base <;> cases xa <;> simp [Builtin.append_, run_underlying hd, sizeOf, typeInfo, hi, Builtin.lenOf, Builtin.firstCells, loadCells, loadCellsFrom, storeCells]

theorem append_run {P : Program} {w : World} {t ty el : TypeId} {i : TypeInfo} {zz : Value} (hd : P.underlying t = some (.slice el)) (hi : P.info? el = some i) (hz : i.zero = some zz) (hzs : zz.cells.size = i.size) (hpos : 0 < i.size)
    {base : Option Addr} {n c : Nat} {xa : Option Addr} {m xc : Nat} {olds news : List Value} (hlo : olds.length = n * i.size) (hln : news.length = m * i.size)
    (hnews : 0 < m → ∃ xb xo, xa = some ⟨xb, xo, none⟩ ∧ ∀ j u, news[j]? = some u → w.cell? ⟨xb, xo + j, none⟩ = some u)
    (hbase : (n = 0 ∧ c = 0) ∨ ∃ b off cur ty', base = some ⟨b, off, none⟩ ∧ n ≤ c ∧ w.heap[b]? = some (.cells cur ty' (0, 0)) ∧ off + c * i.size ≤ cur.size ∧ ∀ j u, olds[j]? = some u → w.cell? ⟨b, off + j, none⟩ = some u)
    (h1 : ∀ u ∈ news, u.oneCell' = true) (hlim : (n + m) * i.bytes ≤ 140737488355328) (h63 : n + m ≤ 140737488355328) :
    (n = 0 ∧ m = 0 ∧ c = 0 ∧ (Builtin.append_ #[t, t] ty #[.slice base n c, .slice xa m xc]).run P w = .ok (.slice base 0 0) w) ∨
    (∃ b off cur ty', ¬ (n = 0 ∧ c = 0) ∧ base = some ⟨b, off, none⟩ ∧ w.heap[b]? = some (.cells cur ty' (0, 0)) ∧ off + c * i.size ≤ cur.size ∧ n + m ≤ c ∧ (∀ j u, olds[j]? = some u → w.cell? ⟨b, off + j, none⟩ = some u) ∧
      (Builtin.append_ #[t, t] ty #[.slice base n c, .slice xa m xc]).run P w = .ok (.slice (some ⟨b, off, none⟩) (n + m) c) (w.setRow b (cur.toList.take (off + n * i.size) ++ news ++ cur.toList.drop (off + n * i.size + news.length)).toArray)) ∨
    (∃ cap arr, (Builtin.append_ #[t, t] ty #[.slice base n c, .slice xa m xc]).run P w = .ok (.slice (some ⟨w.heap.size, 0, none⟩) (n + m) cap) (w.drew.alloc (.cells arr el)) ∧ n + m ≤ cap ∧ arr.size = cap * i.size ∧ arr.toList.take ((n + m) * i.size) = olds ++ news) := by
  have grow : c < n + m → ∀ (b : Addr), base = some b → (∀ j u, olds[j]? = some u → w.cell? (b.add j) = some u) →
      (∃ cap arr, (Builtin.append_ #[t, t] ty #[.slice base n c, .slice xa m xc]).run P w = .ok (.slice (some ⟨w.heap.size, 0, none⟩) (n + m) cap) (w.drew.alloc (.cells arr el)) ∧ n + m ≤ cap ∧ arr.size = cap * i.size ∧ arr.toList.take ((n + m) * i.size) = olds ++ news) := by
    intro hg b hb holds
    subst hb
    have hbytes := growslice_fits hg hlim
    have hlen : (olds ++ news).length = (n + m) * i.size := by rw [List.length_append, hlo, hln, Nat.add_mul]
    have hge := grownCap_ge w (n + m) c el
    cases m with
    | zero =>
      exfalso
      rcases hbase with ⟨h0, h2⟩ | ⟨_, _, _, _, _, h2, _⟩ <;> omega
    | succ m =>
      obtain ⟨xb, xo, rfl, hx⟩ := hnews (by omega)
      have hr := run_append_grow (P := P) w t ty el i zz hd hi hz b n c olds hlo holds ⟨xb, xo, none⟩ (m + 1) xc news hln (fun j u hj => by rw [Addr_add]; exact hx j u hj) hg (by omega) hbytes
      refine ⟨_, _, hr, hge, ?_, ?_⟩
      · simp only [Array.size_append, List.size_toArray, size_zeroCells, hzs, hlo, hln, ← Nat.add_mul]
        congr 1
        omega
      · simp only [Array.toList_append, List.append_assoc]
        rw [← List.append_assoc, ← hlen]
        exact List.take_left
  by_cases h00 : n = 0 ∧ c = 0
  · obtain ⟨h0, hc⟩ := h00
    subst h0; subst hc
    clear hbase
    cases m with
    | zero => exact .inl ⟨rfl, rfl, rfl, append_zero hd hi base xa xc⟩
    | succ m =>
      refine .inr (.inr ?_)
      have hol : olds = [] := List.length_eq_zero_iff.1 (by rw [hlo]; simp)
      subst hol
      cases base with
      | some b => exact grow (by omega) b rfl (fun j u hj => by simp at hj)
      | none =>
        obtain ⟨xb, xo, rfl, hx⟩ := hnews (by omega)
        have hge := grownCap_ge w (m + 1) 0 el
        have hbytes : (m + 1) * i.bytes ≤ 281474976710656 := by rw [Nat.zero_add] at hlim; omega
        have hr := run_append_nil (P := P) w t ty el i zz hd hi hz ⟨xb, xo, none⟩ (m + 1) xc news hln (fun j u hj => by rw [Addr_add]; exact hx j u hj) (by omega) (by omega) hbytes
        refine ⟨grownCap w (m + 1) 0 el, _, by rw [Nat.zero_add]; exact hr, by omega, ?_, ?_⟩
        · simp only [Array.size_append, List.size_toArray, size_zeroCells, hzs, hln, ← Nat.add_mul]
          congr 1
          omega
        · simp only [Array.toList_append, List.nil_append, Nat.zero_add]
          rw [← hln]
          exact List.take_left
  · rcases hbase with h00' | ⟨b, off, cur, ty', hb, hnc, hcur, hfit, holds⟩
    · exact absurd h00' h00
    by_cases hr : n + m ≤ c
    · refine .inr (.inl ⟨b, off, cur, ty', h00, hb, hcur, hfit, hr, holds, ?_⟩)
      subst hb
      have hf : (Builtin.firstCells i.size m (.slice xa m xc)).run P w = .ok news.toArray w := by
        cases m with
        | zero =>
          have : news = [] := List.length_eq_zero_iff.1 (by rw [hln]; simp)
          subst this
          cases xa <;> simp [Builtin.firstCells, loadCells, loadCellsFrom]
        | succ m =>
          obtain ⟨xb, xo, rfl, hx⟩ := hnews (by omega)
          exact run_firstCells_some (P := P) w i.size (m + 1) ⟨xb, xo, none⟩ (m + 1) xc news hln (fun j u hj => by rw [Addr_add]; exact hx j u hj)
      have hl : off + n * i.size + news.length ≤ cur.size := by
        have : (n + m) * i.size ≤ c * i.size := Nat.mul_le_mul_right _ hr
        rw [Nat.add_mul] at this
        omega
      have hst := run_storeCells_at P b (off + n * i.size) ty' news 0 cur w hcur (by simpa using hl) h1
      simp only [Nat.add_zero] at hst
      simp [Builtin.append_, run_underlying hd, sizeOf, typeInfo, hi, Builtin.lenOf, hr, hf, Addr_add, hst]
    · exact .inr (.inr (grow (by omega) _ hb (fun j u hj => by rw [Addr_add]; exact holds j u hj)))
end Go.Abs

namespace Go.Abs
open Go.RowKit
set_option linter.unusedSimpArgs false
set_option linter.unusedVariables false
section
variable {tb : Tb} {B : Base} {G : Gh} {e : Env} {h : Heap} {a : Act} {w : World} {nb : Nat} {o : Oper} {av : AV} {z : List Pl} {h' : Heap}

theorem CellV.isSl {F : Fz} {own : Bool} {r : RT} {rows : List r.den} {l : L} {v : Value} (h : CellV F w own (.sl r) rows l v) : ∃ loc kids, l = .sl loc kids := by
  obtain ⟨loc, kids, rfl, _⟩ := h
  exact ⟨loc, kids, rfl⟩
/-! ### a piece of an object leaves it -/
theorem Ls.blX_sub (cols : List Nat) : ∀ (ls : List L) (j : Nat), (Ls.blX cols j ls).Sublist (Ls.bl ls)
  | [], j => List.Sublist.refl _
  | l :: ls, j => by
    simp only [Ls.blX, Ls.bl]
    refine List.Sublist.append ?_ (Ls.blX_sub cols ls (j + 1))
    cases memN cols j with
    | true => exact List.nil_sublist _
    | false => exact List.Sublist.refl _
theorem Lss.blP_sub (cols : List Nat) (lo hi : Int) : ∀ (ks : List (List L)) (i : Nat), (Lss.blP cols lo hi i ks).Sublist (Lss.bl ks)
  | [], i => List.Sublist.refl _
  | k :: ks, i => by
    simp only [Lss.blP, Lss.bl]
    refine List.Sublist.append ?_ (Lss.blP_sub cols lo hi ks (i + 1))
    cases decide (lo ≤ (i : Int)) && decide ((i : Int) < hi) with
    | true => exact Ls.blX_sub cols k 0
    | false => exact List.nil_sublist _
theorem Lss.blP_append (cols : List Nat) (lo hi : Int) : ∀ (a b : List (List L)) (i : Nat), Lss.blP cols lo hi i (a ++ b) = Lss.blP cols lo hi i a ++ Lss.blP cols lo hi (i + a.length) b
  | [], b, i => rfl
  | k :: a, b, i => by
    simp only [List.cons_append, Lss.blP, List.length_cons]
    rw [Lss.blP_append cols lo hi a b (i + 1), List.append_assoc, show i + 1 + a.length = i + (a.length + 1) by omega]
theorem Lss.bl_app : ∀ a b : List (List L), Lss.bl (a ++ b) = Lss.bl a ++ Lss.bl b
  | [], b => rfl
  | x :: a, b => by simp only [List.cons_append, Lss.bl, Lss.bl_app a b, List.append_assoc]
theorem Lss.blP_out {cols : List Nat} {lo hi : Int} : ∀ (ks : List (List L)) (i : Nat), (((i + ks.length : Nat) : Int) ≤ lo ∨ hi ≤ (i : Int)) → Lss.blP cols lo hi i ks = []
  | [], i, h => rfl
  | k :: ks, i, h => by
    simp only [Lss.blP]
    rw [Lss.blP_out ks (i + 1) (by simp only [List.length_cons] at h; omega)]
    have : (decide (lo ≤ (i : Int)) && decide ((i : Int) < hi)) = false := by
      simp only [Bool.and_eq_false_iff, decide_eq_false_iff_not]
      simp only [List.length_cons] at h
      omega
    rw [this]; rfl
theorem Lss.blP_all {lo hi : Int} : ∀ (ks : List (List L)) (i : Nat), lo ≤ (i : Int) → ((i + ks.length : Nat) : Int) ≤ hi → Lss.blP [] lo hi i ks = Lss.bl ks
  | [], i, _, _ => rfl
  | k :: ks, i, h1, h2 => by
    simp only [List.length_cons] at h2
    simp only [Lss.blP, Lss.bl]
    rw [Lss.blP_all ks (i + 1) (by omega) (by omega), decide_eq_true h1, decide_eq_true (show (i : Int) < hi by omega), Bool.and_self, cond_true, Ls.blX_nil]
theorem Lss.blP_mono {cols : List Nat} {lo hi lo' hi' : Int} (hl : lo ≤ lo') (hh : hi' ≤ hi) : ∀ (ks : List (List L)) (i : Nat), (Lss.blP cols lo' hi' i ks).Sublist (Lss.blP cols lo hi i ks)
  | [], i => List.Sublist.refl _
  | k :: ks, i => by
    simp only [Lss.blP]
    refine List.Sublist.append ?_ (Lss.blP_mono hl hh ks (i + 1))
    cases e : decide (lo' ≤ (i : Int)) && decide ((i : Int) < hi') with
    | false => exact List.nil_sublist _
    | true =>
      simp only [Bool.and_eq_true, decide_eq_true_eq] at e
      rw [decide_eq_true (show lo ≤ (i : Int) by omega), decide_eq_true (show (i : Int) < hi by omega)]
      exact List.Sublist.refl _
theorem RowV.toK {F : Fz} {w : World} : ∀ (r : RT) (d : r.den) (ls : List L) (b o j : Nat), RowV F w true r d ls b o → RowK F w [] j r d ls
  | .one c, d, ls, b, o, j, h => by obtain ⟨l, v, rfl, _, hv⟩ := h; exact ⟨l, rfl, fun _ => ⟨v, hv⟩⟩
  | .cons c r, d, ls, b, o, j, h => by obtain ⟨l, ls', rfl, ⟨v, _, hv⟩, hr⟩ := h; exact ⟨l, ls', rfl, fun _ => ⟨v, hv⟩, RowV.toK r d.2 ls' b (o + 1) (j + 1) hr⟩
/-- A whole object is a part that has lost nothing. -/
theorem CellV.toPart {F : Fz} {r : RT} {rows : List r.den} {loc : Loc} {kids : List (List L)} {v : Value} (h : CellV F w true (.sl r) rows (.sl loc kids) v) : PartR F w true [] r rows 0 (rows.length : Int) loc kids := by
  obtain ⟨loc', kids', e1, hv, hk, hl, hr⟩ := h
  cases e1
  refine ⟨hk, fun _ => ⟨hl, rfl, fun b off cap sz e i hi _ _ => hr b off cap sz e i hi⟩, fun i hi _ _ => ?_⟩
  cases loc with
  | nil => simp only [LocOk] at hl; omega
  | emp a c => simp only [LocOk] at hl; omega
  | «at» b off cap sz => exact RowV.toK _ _ _ _ _ _ (hr b off cap sz rfl i hi)
theorem PartR.less {F : Fz} {root root' : Bool} {r : RT} {rows : List r.den} {lo hi lo' hi' : Int} {loc : Loc} {kids : List (List L)} (h : PartR F w root [] r rows lo hi loc kids) (hr : root' = true → root = true) (hl : lo ≤ lo') (hh : hi' ≤ hi) : PartR F w root' [] r rows lo' hi' loc kids :=
  ⟨h.len, fun e => ⟨(h.top (hr e)).1, rfl, fun b off cap sz e2 i h1 h2 h3 => (h.top (hr e)).2.2 b off cap sz e2 i h1 (by omega) (by omega)⟩, fun i h1 h2 h3 => h.rows i h1 (by omega) (by omega)⟩
theorem part_cut (s : Sim B G h w) {id : Nat} {ob : Go.Abs.Obj} {loc : Loc} {kids : List (List L)} {r : RT} {xs : List r.den} {lo hi o1 l1 lo' hi' : Int} {v : Value} (ho : getO h id = some ob) (how : ownd ob = true) (hg : G id = some (.row (.sl loc kids)))
    (hp : PartR B.fz w true [] r xs lo hi loc kids) (hbl : obl ob (.row (.sl loc kids)) = loc.bl ++ Lss.blP [] lo hi 0 kids) (hv : viewVal loc kids.length o1 l1 v) (h1 : lo ≤ o1) (h2 : o1 + l1 ≤ hi) (hr : (lo' = o1 + l1 ∧ hi' = hi) ∨ (lo' = lo ∧ hi' = o1)) :
    ∃ loc' own kids' news, v = loc'.val (viewR xs (some (o1, l1))).length ∧ LocOk w own r.size (viewR xs (some (o1, l1))).length loc' ∧ RowsC B.fz w true r (viewR xs (some (o1, l1))) kids' news ∧ (∀ b off cap sz, loc' = .at b off cap sz → ∀ j u, news[j]? = some u → w.cell? ⟨b, off + j, none⟩ = some u) ∧
      Held B G (setO h id (.part true [] r xs lo' hi')) w (Lss.bl kids') ∧ Sim B G (setO h id (.part true [] r xs lo' hi')) w := by
  obtain ⟨hloc, _, hrow⟩ := hp.top rfl
  obtain ⟨v0, v1, v2, vb⟩ := hv
  have hk := hp.len
  have hlen : (viewR xs (some (o1, l1))).length = l1.toNat := by
    simp only [viewR, List.length_take, List.length_drop]
    omega
  have hklen : ((kids.drop o1.toNat).take l1.toNat).length = l1.toNat := by
    simp only [List.length_take, List.length_drop]
    omega
  -- the blocks of the piece, and of the rest
  have hsplit : kids = kids.take o1.toNat ++ ((kids.drop o1.toNat).take l1.toNat ++ (kids.drop o1.toNat).drop l1.toNat) := by
    rw [List.take_append_drop, List.take_append_drop]
  have htk : (kids.take o1.toNat).length = o1.toNat := by rw [List.length_take]; omega
  have hcount : ∀ b, (Lss.bl ((kids.drop o1.toNat).take l1.toNat)).count b + (Lss.blP [] lo' hi' 0 kids).count b ≤ (Lss.blP [] lo hi 0 kids).count b := by
    intro b
    have e1 : ∀ lo hi : Int, Lss.blP [] lo hi 0 kids = Lss.blP [] lo hi 0 (kids.take o1.toNat) ++ (Lss.blP [] lo hi (0 + (kids.take o1.toNat).length) ((kids.drop o1.toNat).take l1.toNat) ++ Lss.blP [] lo hi (0 + (kids.take o1.toNat).length + ((kids.drop o1.toNat).take l1.toNat).length) ((kids.drop o1.toNat).drop l1.toNat)) := by
      intro lo hi
      conv => lhs; rw [hsplit]
      rw [Lss.blP_append, Lss.blP_append]
    rw [e1 lo hi, e1 lo' hi']
    rw [Lss.blP_all (lo := lo) (hi := hi) ((kids.drop o1.toNat).take l1.toNat) _ (by rw [htk]; omega) (by rw [htk, hklen]; omega)]
    rw [Lss.blP_out (lo := lo') (hi := hi') ((kids.drop o1.toNat).take l1.toNat) _ (by rw [htk, hklen]; rcases hr with ⟨rfl, rfl⟩ | ⟨rfl, rfl⟩ <;> omega)]
    simp only [List.count_append, List.nil_append]
    have a1 := List.Sublist.count_le b (Lss.blP_mono (cols := []) (lo := lo) (hi := hi) (lo' := lo') (hi' := hi') (by rcases hr with ⟨rfl, rfl⟩ | ⟨rfl, rfl⟩ <;> omega) (by rcases hr with ⟨rfl, rfl⟩ | ⟨rfl, rfl⟩ <;> omega) (kids.take o1.toNat) 0)
    have a2 := List.Sublist.count_le b (Lss.blP_mono (cols := []) (lo := lo) (hi := hi) (lo' := lo') (hi' := hi') (by rcases hr with ⟨rfl, rfl⟩ | ⟨rfl, rfl⟩ <;> omega) (by rcases hr with ⟨rfl, rfl⟩ | ⟨rfl, rfl⟩ <;> omega) ((kids.drop o1.toNat).drop l1.toNat) (0 + (kids.take o1.toNat).length + ((kids.drop o1.toNat).take l1.toNat).length))
    omega
  have hnd := s.nodup id ob _ ho how hg
  have hmine := s.mine id ob _ ho how hg
  rw [hbl] at hnd hmine
  have hnd2 := List.nodup_iff_count.1 hnd
  have hmem : ∀ b, b ∈ Lss.bl ((kids.drop o1.toNat).take l1.toNat) → b ∈ loc.bl ++ Lss.blP [] lo hi 0 kids := by
    intro b hb
    have a1 := hcount b
    have a2 := count_pos hb
    exact List.mem_append_right _ (List.one_le_count_iff.1 (by omega))
  have hmem' : ∀ b, b ∈ obl (.part true [] r xs lo' hi') (.row (.sl loc kids)) → b ∈ loc.bl ++ Lss.blP [] lo hi 0 kids := by
    intro b hb
    have hb : b ∈ loc.bl ++ Lss.blP [] lo' hi' 0 kids := hb
    rcases List.mem_append.1 hb with hb | hb
    · exact List.mem_append_left _ hb
    · have a1 := hcount b
      have a2 := count_pos hb
      exact List.mem_append_right _ (List.one_le_count_iff.1 (by omega))
  have hsim : Sim B G (setO h id (.part true [] r xs lo' hi')) w := by
    refine s.upd (o' := .part true [] r xs lo' hi') (go := .row (.sl loc kids)) (go' := .row (.sl loc kids)) (bs := []) (S := []) ho how hg Held.nil (Turn.refl w) (fun b hb => by cases hb) (fun _ _ => rfl) hg rfl ⟨loc, kids, hg, hp.less (fun h => h) (by rcases hr with ⟨rfl, rfl⟩ | ⟨rfl, rfl⟩ <;> omega) (by rcases hr with ⟨rfl, rfl⟩ | ⟨rfl, rfl⟩ <;> omega)⟩ ?_ (fun b hb => .inl ?_) fun _ _ _ _ _ _ h => h
    · show (loc.bl ++ Lss.blP [] lo' hi' 0 kids).Nodup
      rw [List.nodup_iff_count]
      intro b
      have a1 := hnd2 b
      have a2 := hcount b
      simp only [List.count_append] at a1 ⊢
      omega
    · rw [hbl]; exact hmem' b hb
  have hheld : Held B G (setO h id (.part true [] r xs lo' hi')) w (Lss.bl ((kids.drop o1.toNat).take l1.toNat)) := by
    refine ⟨?_, fun b hb => hmine b (hmem b hb), fun i ob' go' g1 g2 g3 b hb hm => ?_⟩
    · rw [List.nodup_iff_count]
      intro b
      have a1 := hnd2 b
      have a2 := hcount b
      simp only [List.count_append] at a1
      omega
    · rw [getO_setO] at g1
      by_cases e : id = i
      · subst e
        rw [if_pos rfl] at g1
        cases g1
        rw [hg] at g3
        cases g3
        have hm : b ∈ loc.bl ++ Lss.blP [] lo' hi' 0 kids := hm
        have a1 := hnd2 b
        have a2 := hcount b
        have a3 := count_pos hb
        simp only [List.count_append] at a1
        rcases List.mem_append.1 hm with hm | hm
        · have := count_pos hm; omega
        · have := count_pos hm; omega
      · rw [if_neg e] at g1
        refine s.apart id i ob ob' _ go' e ho g1 how g2 hg g3 b ?_ hm
        rw [hbl]; exact hmem b hb
  -- the rows
  have empty : l1.toNat = 0 → ∀ loc' : Loc, (v = loc'.val 0) → LocOk w false r.size 0 loc' → ∃ loc' own kids' news, v = loc'.val (viewR xs (some (o1, l1))).length ∧ LocOk w own r.size (viewR xs (some (o1, l1))).length loc' ∧ RowsC B.fz w true r (viewR xs (some (o1, l1))) kids' news ∧ (∀ b off cap sz, loc' = .at b off cap sz → ∀ j u, news[j]? = some u → w.cell? ⟨b, off + j, none⟩ = some u) ∧
      Held B G (setO h id (.part true [] r xs lo' hi')) w (Lss.bl kids') ∧ Sim B G (setO h id (.part true [] r xs lo' hi')) w := by
    intro h0 loc' hv' hl'
    refine ⟨loc', false, [], [], by rw [hlen, h0]; exact hv', by rw [hlen, h0]; exact hl', ?_, fun b off cap sz _ j u hj => by simp at hj, ?_, hsim⟩
    · have : viewR xs (some (o1, l1)) = [] := List.length_eq_zero_iff.1 (by rw [hlen, h0])
      rw [this]; exact ⟨rfl, rfl⟩
    · exact Held.nil
  cases loc with
  | nil => simp only [LocOk] at hloc; exact empty (by omega) .nil vb rfl
  | emp a c => simp only [LocOk] at hloc; exact empty (by omega) (.emp a c) vb ⟨rfl, fun e => (by cases e), hloc.2.2⟩
  | «at» b off cap sz =>
    obtain ⟨rfl, hcap, how'⟩ := hloc
    obtain ⟨c', hc⟩ := vb
    rcases hc with ⟨rfl, hc⟩ | ⟨hz, hc, a, rfl⟩
    · have hex : ∀ i, i < (viewR xs (some (o1, l1))).length → RowV B.fz w true r ((viewR xs (some (o1, l1))).getD i r.dflt) (((kids.drop o1.toNat).take l1.toNat).getD i []) b (off + o1.toNat * r.size + i * r.size) := by
        intro i hi
        rw [hlen] at hi
        have hx := hrow b off cap r.size rfl (o1.toNat + i) (by omega) (by omega) (by omega)
        have e1 : List.getD (viewR xs (some (o1, l1))) i r.dflt = List.getD xs (o1.toNat + i) r.dflt := by
          simp only [viewR, List.getD_eq_getElem?_getD, List.getElem?_take, List.getElem?_drop]
          rw [if_pos hi]
        have e2 : ((kids.drop o1.toNat).take l1.toNat).getD i [] = kids.getD (o1.toNat + i) [] := by
          simp only [List.getD_eq_getElem?_getD, List.getElem?_take, List.getElem?_drop]
          rw [if_pos hi]
        rw [e1, e2, show off + o1.toNat * r.size + i * r.size = off + (o1.toNat + i) * r.size by rw [Nat.add_mul]; omega]
        exact hx
      obtain ⟨news, n1, n2⟩ := RowsC.of _ _ b _ (by rw [hklen, hlen]) hex
      refine ⟨.at b (off + o1.toNat * r.size) c' r.size, false, _, news, by rw [hlen]; rfl, ⟨rfl, by rw [hlen]; omega, fun e => by cases e⟩, n1, fun b2 off2 cap2 sz2 e => ?_, hheld, hsim⟩
      cases e
      exact n2
    · exact empty (by omega) (.emp (some a) 0) rfl ⟨rfl, fun _ => rfl, fun _ => rfl⟩
theorem topView_some {v : AV} {id : Nat} {o l : Int} (h : topView v = some (id, o, l)) : v = .ref id [] (some (o, l)) := by
  unfold topView at h
  split at h
  · cases h; rfl
  · cases h
theorem mvPart_sound (s : Sim B G h w) {r : RT} {src : AV} {v : Value} (hv : VRelS B G src v) {x : List r.den} {h1 : Heap} (hx : (mvPart r src).Has h x h1) :
    ∃ loc own kids news, v = loc.val x.length ∧ LocOk w own r.size x.length loc ∧ RowsC B.fz w true r x kids news ∧ (∀ b off cap sz, loc = .at b off cap sz → ∀ j u, news[j]? = some u → w.cell? ⟨b, off + j, none⟩ = some u) ∧
      Held B G h1 w (Lss.bl kids) ∧ Sim B G h1 w := by
  have plain : (mvCell (.sl r) src).Has h x h1 → ∃ loc own kids news, v = loc.val x.length ∧ LocOk w own r.size x.length loc ∧ RowsC B.fz w true r x kids news ∧ (∀ b off cap sz, loc = .at b off cap sz → ∀ j u, news[j]? = some u → w.cell? ⟨b, off + j, none⟩ = some u) ∧
      Held B G h1 w (Lss.bl kids) ∧ Sim B G h1 w := by
    intro hx
    obtain ⟨l, hl, hh, s1, hm⟩ := mvCell_sound s hv Held.nil hx
    obtain ⟨loc, kids, rfl⟩ := hl.isSl
    obtain ⟨h1, h2, vs, h3, h4⟩ := hl.rows
    refine ⟨loc, true, kids, vs, h1, h2, h3, h4, ?_, s1⟩
    rw [List.nil_append] at hh
    exact hh.sub (List.sublist_append_right _ _)
  unfold mvPart at hx
  cases ht : topView src with
  | none => rw [ht] at hx; exact plain hx
  | some t =>
    obtain ⟨id, o1, l1⟩ := t
    rw [ht] at hx
    have := topView_some ht
    subst this
    clear plain
    simp only at hx
    obtain ⟨loc, n, hG, hb⟩ := hv
    rw [has_getD] at hx
    split at hx
    · rename_i q xs ho
      by_cases e : q.same r = true
      · rw [dif_pos e] at hx
        rw [has_markD, ho] at hx
        obtain ⟨rfl, rfl⟩ := hx
        have := RT.eq_of_same e
        subst this
        obtain ⟨l, kids, hg, hk, hcell, hlen, _, hsub⟩ := s.nav hG ho (rfl : navG q xs [] = some ⟨q, xs⟩)
        simp only [L.sub, Option.some.injEq] at hsub
        subst hsub
        rw [← hk] at hb
        have hb2 := hb
        obtain ⟨b0, b1, b2, _⟩ := hb2
        exact part_cut s ho rfl hg hcell.toPart (by rw [Lss.blP_all kids 0 (by omega) (by omega)]; rfl) hb b0 (by omega) (.inl ⟨rfl, rfl⟩)
      · rw [dif_neg e] at hx; exact hx.elim
    · rename_i q xs lo hi ho
      by_cases e : q.same r = true
      · rw [dif_pos e] at hx
        rcases cond_has hx with ⟨hc, hx⟩ | ⟨_, hx⟩
        · rw [has_markD, ho] at hx
          obtain ⟨rfl, rfl⟩ := hx
          have := RT.eq_of_same e
          subst this
          simp only [Bool.and_eq_true, decide_eq_true_eq] at hc
          obtain ⟨loc0, kids, hg, hp⟩ := s.obj id _ ho
          unfold Gh.at at hG
          rw [hg] at hG
          simp only [L.at, Option.some.injEq, Prod.mk.injEq] at hG
          obtain ⟨rfl, rfl⟩ := hG
          exact part_cut s ho rfl hg hp rfl hb hc.1 hc.2 (.inr ⟨rfl, rfl⟩)
        · exact hx.elim
      · rw [dif_neg e] at hx; exact hx.elim
    · exact hx.elim
/-- What is added. -/
theorem addRows_sound (s : Sim B G h w) {r : RT} {src : AV} {v : Value} (hv : VRelS B G src v) {x : List r.den} {h1 : Heap} (hx : (addRows r src).Has h x h1) :
    ∃ loc own kids news, v = loc.val x.length ∧ LocOk w own r.size x.length loc ∧ RowsC B.fz w true r x kids news ∧ (∀ b off cap sz, loc = .at b off cap sz → ∀ j u, news[j]? = some u → w.cell? ⟨b, off + j, none⟩ = some u) ∧
      Held B G h1 w (Lss.bl kids) ∧ Sim B G h1 w := by
  unfold addRows at hx
  cases hf : r.flat with
  | true =>
    rw [hf] at hx
    replace hx : (rdCell (CT.sl r) src).Has h x h1 := hx
    obtain ⟨rfl, l, hl, _⟩ := rdCell_sound s hv hx
    obtain ⟨loc, kids, rfl⟩ := hl.isSl
    obtain ⟨h1, h2, vs, h3, h4⟩ := hl.rows
    obtain ⟨h5, h6⟩ := h3.flat_own hf
    exact ⟨loc, false, kids, vs, h1, h2, h5, h4, by rw [h6]; exact Held.nil, s⟩
  | false =>
    rw [hf] at hx
    exact mvPart_sound s hv hx
theorem src_val {loc : Loc} {own : Bool} {sz n : Nat} (hl : LocOk w own sz n loc) : ∃ xa xc, loc.val n = .slice xa n xc ∧ (0 < n → ∃ b off cap s, loc = .at b off cap s ∧ xa = some ⟨b, off, none⟩) := by
  cases loc with
  | nil => simp only [LocOk] at hl; subst hl; exact ⟨none, 0, rfl, fun h => by omega⟩
  | emp a c => simp only [LocOk] at hl; obtain ⟨rfl, _⟩ := hl; exact ⟨a, c, rfl, fun h => by omega⟩
  | «at» b off cap s => exact ⟨_, _, rfl, fun _ => ⟨b, off, cap, s, rfl, rfl⟩⟩

/-- A new row object, in the world that there is. -/
theorem Post.row (s : Sim B G h w) (hn : G nb = none) {r : RT} {rows : List r.den} {loc : Loc} {kids : List (List L)} {v : Value} (hc : CellV B.fz w true (.sl r) rows (.sl loc kids) v) (hh : Held B G h w (L.sl loc kids).bl) :
    Post B G nb (.ref nb [] none) [] (setO h nb (.row r rows)) v w := by
  refine Post.new hn (s.add (go := .row (.sl loc kids)) hn ⟨_, v, set_self .., hc⟩ rfl hh) ?_
  obtain ⟨loc', kids', e1, hv, hk, _⟩ := hc
  cases e1
  refine ⟨loc, kids.length, ?_, by rw [hk]; exact hv⟩
  unfold Gh.at
  rw [set_self]
  rfl

theorem elem_info (hty : tyCheck B.P tb = true) {t : Nat} (hs : isSlT0 tb t = true) {r : RT} (hr : (tyOf tb (tyOf tb t).elem).row = some r) :
    B.P.underlying t = some (.slice (tyOf tb t).elem) ∧ ∃ i zz, B.P.info? (tyOf tb t).elem = some i ∧ i.size = r.size ∧ i.bytes = (tyOf tb (tyOf tb t).elem).bytes ∧ i.zero = some zz ∧ zz.cells.size = i.size ∧ zz.cells.toList = (tyOf tb (tyOf tb t).elem).cells.map zval := by
  obtain ⟨hd, q, hq⟩ := isSlT0_elem hty hs
  obtain ⟨_, i, zz, h1, h2, h3, h4, h5, h6⟩ := isSlT_elem hty hq
  have h7 : i.size = r.size := by rw [h2, ← h6.size, (TyI.row_fit hr).size]
  refine ⟨hd, i, zz, h1, h7, h3, h4, ?_, h5⟩
  rw [← Array.length_toList, h5, List.length_map, h2, h6.size]
theorem lim_le {n bytes : Nat} (h : Nat.blt n (limOf bytes) = true) : n * bytes ≤ 140737488355328 ∧ n ≤ 140737488355328 := by
  have h : n < limOf bytes := by have := Nat.le_of_ble_eq_true h; omega
  unfold limOf at h
  have h1 : n * bytes ≤ (140737488355328 / bytes) * bytes := Nat.mul_le_mul_right _ (Nat.le_of_lt h)
  have h2 := Nat.div_mul_le_self 140737488355328 bytes
  have h3 := Nat.div_le_self 140737488355328 bytes
  omega

/-- The new row of an append, where there was nothing. -/
theorem append_new (s : Sim B G h w) (hn : G nb = none) {r : RT} {x : List r.den} {kids : List (List L)} {vs : List Value} (hx : RowsC B.fz w true r x kids vs) (hh : Held B G h w (Lss.bl kids)) {cap : Nat} {arr : Array Value} {el : TypeId}
    (h2 : x.length ≤ cap) (h3 : arr.size = cap * r.size) (h4 : arr.toList.take (x.length * r.size) = vs) :
    Post B G nb (.ref nb [] none) [] (setO h nb (.row r x)) (.slice (some ⟨w.heap.size, 0, none⟩) x.length cap) (w.drew.alloc (.cells arr el)) := by
  have ht : Turn w (w.drew.alloc (.cells arr el)) [] := (Turn.drew w).trans (Turn.alloc w.drew _)
  have hnew : (w.drew.alloc (.cells arr el)).heap[w.heap.size]? = some (.cells arr el (0, 0)) := heap_alloc_new w.drew _
  refine Post.row (loc := .at w.heap.size 0 cap r.size) (kids := kids) (s.grow ht) hn ?_ ?_
  · refine CellV.ofRows (hx.keep fun b hb => ht.block b (hh.mine b hb).1 (by simp)) (fun j u hj => ?_) h2 hnew (by rw [h3]; omega)
    simp only [World.cell?, hnew, Nat.zero_add]
    rw [← h4] at hj
    rw [List.getElem?_take] at hj
    by_cases e1 : j < x.length * r.size
    · rw [if_pos e1] at hj; simpa using hj
    · rw [if_neg e1] at hj; cases hj
  · show Held B G h _ ([w.heap.size] ++ Lss.bl kids)
    have h5 := Held.fresh s (w.drew.alloc (.cells arr el)) (by show w.heap.size < (w.heap.push _).size; simp)
    refine ⟨List.nodup_append.2 ⟨h5.nodup, hh.nodup, fun a ha b hb e1 => ?_⟩, fun b hb => ?_, fun id o go h1 h2 h3 b hb => ?_⟩
    · simp only [List.mem_singleton] at ha
      subst ha; subst e1
      exact Nat.lt_irrefl _ (hh.mine _ hb).1
    · rcases List.mem_append.1 hb with hb | hb
      · exact h5.mine b hb
      · exact (hh.grow (Nat.le_trans (Nat.le_refl _) ht.size)).mine b hb
    · rcases List.mem_append.1 hb with hb | hb
      · exact h5.apart id o go h1 h2 h3 b hb
      · exact hh.apart id o go h1 h2 h3 b hb

/-- The tree that a reference to a whole object shows. -/
theorem ref_tree (s : Sim B G h w) {j : Nat} {vw : Option (Int × Int)} {v : Value} (hv : VRelS B G (.ref j [] vw) v) {r : RT} {ys : List r.den} (ho : getO h j = some (.row r ys)) :
    ∃ l loc kids, G j = some (.row l) ∧ CellV B.fz w true (.sl r) (viewR ys vw) (.sl loc kids) v ∧ (L.sl loc kids).bl.Sublist l.bl := by
  cases vw with
  | none =>
    obtain ⟨loc, n, hG, rfl⟩ := hv
    obtain ⟨l, kids, hg, hk, hcell, hlen, hbl, hsub⟩ := s.nav hG ho (rfl : navG r ys [] = some ⟨r, ys⟩)
    simp only [L.sub, Option.some.injEq] at hsub
    subst hsub
    exact ⟨_, loc, kids, hg, hcell, List.Sublist.refl _⟩
  | some ol =>
    obtain ⟨o1, l1⟩ := ol
    obtain ⟨loc, n, hG, hb⟩ := hv
    obtain ⟨l, kids, hg, hk, hcell, hlen, hbl, hsub⟩ := s.nav hG ho (rfl : navG r ys [] = some ⟨r, ys⟩)
    simp only [L.sub, Option.some.injEq] at hsub
    subst hsub
    subst hk
    obtain ⟨loc', hc', _, hlb⟩ := CellV.view hcell hb
    refine ⟨_, loc', _, hg, hc', ?_⟩
    simp only [L.bl]
    exact List.Sublist.append hlb (Lss.sublist ((List.take_sublist _ _).trans (List.drop_sublist _ _)))

/-- More rows behind those of an object that goes. -/
theorem append_more {h2 : Heap} (s2 : Sim B G h2 w) (hfree : G nb = none) {j : Nat} {vw : Option (Int × Int)} {v : Value} (hv : VRelS B G (.ref j [] vw) v) {r : RT} {ys xs : List r.den} (ho : getO h2 j = some (.row r ys))
    {skids : List (List L)} {news : List Value} (hrows : RowsC B.fz w true r xs skids news) (hheld : Held B G h2 w (Lss.bl skids)) {t ty el : TypeId} {i : TypeInfo} {zz : Value} (hd : B.P.underlying t = some (.slice el)) (hi : B.P.info? el = some i) (hsz : i.size = r.size) (hz : i.zero = some zz) (hzs : zz.cells.size = i.size)
    {xa : Option Addr} {xc : Nat} (hnews : 0 < xs.length → ∃ xb xo, xa = some ⟨xb, xo, none⟩ ∧ ∀ j u, news[j]? = some u → w.cell? ⟨xb, xo + j, none⟩ = some u)
    (hl1 : ((viewR ys vw).length + xs.length) * i.bytes ≤ 140737488355328) (hl2 : (viewR ys vw).length + xs.length ≤ 140737488355328) :
    ∃ u w', (Builtin.append_ #[t, t] ty #[v, .slice xa xs.length xc]).run B.P w = .ok u w' ∧ Post B G nb (.ref nb [] none) [] (setO (delO h2 j) nb (.row r (viewR ys vw ++ xs))) u w' := by
  obtain ⟨l, loc, kids, hg, hcell, hsub⟩ := ref_tree s2 hv ho
  have hheld2 := Held.take s2 hheld ho rfl hg hsub
  have s3 := s2.heap (del_sub h2 j)
  obtain ⟨hval, hloc, olds, horows, hocell⟩ := hcell.rows
  have hpos : 0 < i.size := by rw [hsz]; exact RT.size_pos r
  have hlo := horows.length.1
  have hln := hrows.length.1
  have hall := horows.append hrows
  have hkl : Lss.bl (kids ++ skids) = Lss.bl kids ++ Lss.bl skids := by
    clear hall horows hcell hsub hloc hheld2
    induction kids with
    | nil => rfl
    | cons k ks ih => simp only [List.cons_append, Lss.bl]; rw [ih, List.append_assoc]
  have fin : ∀ (base : Option Addr) (c : Nat), v = .slice base (viewR ys vw).length c → ((viewR ys vw).length = 0 ∧ c = 0 ∨ ∃ b off cur ty', loc = .at b off c r.size ∧ base = some ⟨b, off, none⟩ ∧ (viewR ys vw).length ≤ c ∧ w.heap[b]? = some (.cells cur ty' (0, 0)) ∧ off + c * i.size ≤ cur.size ∧ ∀ j u, olds[j]? = some u → w.cell? ⟨b, off + j, none⟩ = some u) →
      ∃ u w', (Builtin.append_ #[t, t] ty #[v, .slice xa xs.length xc]).run B.P w = .ok u w' ∧ Post B G nb (.ref nb [] none) [] (setO (delO h2 j) nb (.row r (viewR ys vw ++ xs))) u w' := by
    intro base c hvv hbase
    subst hvv
    have hrun := append_run (P := B.P) (w := w) (ty := ty) hd hi hz hzs hpos (base := base) (n := (viewR ys vw).length) (c := c) (xa := xa) (m := xs.length) (xc := xc) (olds := olds) (news := news) (by rw [hlo, hsz]) (by rw [hln, hsz]) hnews
      (hbase.imp id fun ⟨b, off, cur, ty', _, h1, h2, h3, h4, h5⟩ => ⟨b, off, cur, ty', h1, h2, h3, h4, h5⟩) hrows.oneCell hl1 hl2
    rcases hrun with ⟨h0, hm, hc0, hrun⟩ | ⟨b, off, cur, ty', hne, hb, hcur, hfit, hroom, hoc, hrun⟩ | ⟨cap, arr, hrun, g1, g2, g3⟩
    · refine ⟨_, w, hrun, ?_⟩
      have e1 : viewR ys vw = [] := List.length_eq_zero_iff.1 h0
      have e2 : xs = [] := List.length_eq_zero_iff.1 hm
      rw [e1, e2, List.nil_append]
      exact Post.row (loc := .emp base 0) (kids := []) s3 hfree (nilV r base 0 rfl) Held.nil
    · refine ⟨_, _, hrun, ?_⟩
      have hlocb : loc = .at b off c r.size := by
        rcases hbase with h00 | ⟨b', off', cur', ty2, e1, e2, _⟩
        · exact absurd h00 hne
        · rw [hb] at e2; cases e2; exact e1
      subst hlocb
      simp only [L.bl, Loc.bl] at hheld2
      have hseg : off + (viewR ys vw).length * i.size + news.length ≤ cur.size := by
        have : ((viewR ys vw).length + xs.length) * i.size ≤ c * i.size := Nat.mul_le_mul_right _ hroom
        rw [Nat.add_mul] at this
        rw [hln, ← hsz]
        omega
      obtain ⟨cur2, k1, k2, k3⟩ := setRow_seg hcur hseg
      have hbin : b ∈ Lss.bl skids ++ ([b] ++ Lss.bl kids) := by simp
      have hbs : ¬ B.safe b := (hheld2.mine b hbin).2
      have hnd := hheld2.nodup
      have ht := Turn.setRow w b (cur.toList.take (off + (viewR ys vw).length * i.size) ++ news ++ cur.toList.drop (off + (viewR ys vw).length * i.size + news.length)).toArray
      have hbk : ∀ b' ∈ Lss.bl (kids ++ skids), b' ≠ b := by
        intro b' hb' e1
        subst e1
        rw [hkl] at hb'
        simp only [List.nodup_append, List.mem_append, List.mem_singleton] at hnd
        obtain ⟨_, ⟨_, _, hn2⟩, hn1⟩ := hnd
        rcases List.mem_append.1 hb' with hb' | hb'
        · exact hn2 b' rfl b' hb' rfl
        · exact hn1 b' hb' b' (.inl rfl) rfl
      have s4 := s3.turn ht (fun x hx => by simp only [List.mem_singleton] at hx; subst hx; exact hbs) (fun id o go h1 h2 h3 x hx hm => by
        simp only [List.mem_singleton] at hm
        subst hm
        exact hheld2.apart id o go h1 h2 h3 x hbin hx)
      rw [← List.length_append]
      refine Post.row (loc := .at b off c r.size) (kids := kids ++ skids) s4 hfree ?_ ?_
      · refine CellV.ofRows (hall.keep fun b' hb' => setRow_other w b b' _ (hbk b' hb')) (fun j u hj => ?_) (by rw [List.length_append]; exact hroom) k1 (by rw [← hsz, k3]; exact hfit)
        simp only [World.cell?, k1]
        show cur2[off + j]? = some u
        rw [← Array.getElem?_toList, k2, ovw_get (by simpa using hseg)]
        rw [List.getElem?_append] at hj
        by_cases e1 : j < olds.length
        · rw [if_pos e1] at hj
          rw [if_pos (by rw [hlo, ← hsz] at e1; omega)]
          have := hoc j u hj
          simp only [World.cell?, hcur] at this
          rw [Array.getElem?_toList]
          exact this
        · rw [if_neg e1] at hj
          have hjl := (List.getElem?_eq_some_iff.1 hj).1
          rw [hlo, ← hsz] at e1 hjl hj
          rw [if_neg (by omega), if_pos (by omega), show off + j - (off + (viewR ys vw).length * i.size) = j - (viewR ys vw).length * i.size by omega]
          exact hj
      · have hp : (Lss.bl skids ++ ([b] ++ Lss.bl kids)).Perm (L.sl (.at b off c r.size) (kids ++ skids)).bl := by
          simp only [L.bl, Loc.bl, hkl]
          exact List.perm_append_comm.trans (by rw [List.append_assoc])
        exact (hheld2.perm hp).grow ht.size
    · refine ⟨_, _, hrun, ?_⟩
      rw [← List.length_append]
      rw [hsz] at g2 g3
      refine append_new s3 hfree hall ?_ (by rw [List.length_append]; exact g1) g2 (by rw [List.length_append]; exact g3)
      have hp : (Lss.bl skids ++ (L.sl loc kids).bl).Perm (loc.bl ++ Lss.bl (kids ++ skids)) := by
        simp only [L.bl, hkl]
        exact List.perm_append_comm.trans (by rw [List.append_assoc])
      exact (hheld2.perm hp).sub (List.sublist_append_right _ _)
  cases loc with
  | nil =>
    simp only [LocOk] at hloc
    refine fin none 0 ?_ (.inl ⟨hloc, rfl⟩)
    rw [hval, hloc]; rfl
  | emp a' c =>
    obtain ⟨hl0, hc0⟩ := hloc
    have := hc0.1 rfl
    subst this
    have hloc : (viewR ys vw).length = 0 ∧ True := ⟨hl0, trivial⟩
    refine fin a' 0 ?_ (.inl ⟨hloc.1, rfl⟩)
    rw [hval, hloc.1]; rfl
  | «at» b off c s =>
    obtain ⟨hs', hcap, how⟩ := hloc
    subst hs'
    obtain ⟨cur, ty', hcur, hfit⟩ := how rfl
    exact fin (some ⟨b, off, none⟩) c hval (.inr ⟨b, off, cur, ty', rfl, rfl, hcap, hcur, by rw [hsz]; exact hfit, hocell b off c _ rfl⟩)

theorem exec_append {k : Call} {x y : Operand} {t : TypeId} (hop : o.op = .call k) (hc : k.callee = .builtin .append) (ha : k.args = #[x, y]) (ht : k.argTypes = #[t, t]) {u : Value} {w' : World} (hr : (Builtin.append_ #[t, t] o.type #[a.eval x, a.eval y]).run B.P w = .ok u w') :
    (execOp a.eval o).run B.P w = .ok (.value u) w' := by
  simp [execOp, hop, resolve, hc, ha, ht, invoke, builtin, hr]

theorem op_append (p : Pre tb B G e h a w nb) {k : Call} {x y : Operand} {t : TypeId} (hop : o.op = .call k) (hc : k.callee = .builtin .append) (ha : k.args = #[x, y]) (ht : k.argTypes = #[t, t]) (hs : isSlT0 tb t = true)
    (hev : ((appendD tb nb (tyOf tb t).elem (evalO e x) (evalO e y)).andThen fun v => DH.ret (v, ([] : List Pl))).Has h (av, z) h') : OpOk B G a w o nb av z h' := by
  obtain ⟨v, h1, hn, hev2⟩ := (DH.has_andThen _ _ _ _ _).1 hev
  clear hev
  obtain ⟨rfl, rfl, rfl⟩ := ret_has hev2
  clear hev2
  have hfree := p.free nb (Nat.le_refl _) (by omega)
  have hy := evalO_rel p.env y
  have hx := evalO_rel p.env x
  unfold appendD at hn
  cases hr : (tyOf tb (tyOf tb t).elem).row with
  | none => rw [hr] at hn; exact hn.elim
  | some r =>
    rw [hr] at hn
    simp only at hn
    obtain ⟨hd, i, zz, hi, hsz, hby, hz, hzs, _⟩ := elem_info p.ty hs hr
    obtain ⟨xs, h2, hadd, hn2⟩ := (DH.has_andThen _ _ _ _ _).1 hn
    clear hn
    have hys : (evalO e y).isS = true := by
      cases hyy : evalO e y <;> first | rfl | (rw [hyy] at hadd; unfold addRows at hadd; cases hf : r.flat <;> rw [hf] at hadd <;> exact hadd.elim)
    obtain ⟨sloc, sown, skids, news, hval, hsl, hrows, hscell, hheld, s2⟩ := addRows_sound p.sim (hy.S hys) hadd
    obtain ⟨xa, xc, hxv, hxa⟩ := src_val hsl
    rw [hxv] at hval
    have hpos : 0 < i.size := by rw [hsz]; exact RT.size_pos r
    have hln := hrows.length.1
    have hnews : 0 < xs.length → ∃ xb xo, xa = some ⟨xb, xo, none⟩ ∧ ∀ j u, news[j]? = some u → w.cell? ⟨xb, xo + j, none⟩ = some u := by
      intro h0
      obtain ⟨b, off, cap, s, e1, e2⟩ := hxa h0
      exact ⟨b, off, e2, hscell b off cap s e1⟩
    -- an empty beginning
    have empty : ∀ base, a.eval x = .slice base 0 0 → (Nat.blt xs.length (limOf (tyOf tb (tyOf tb t).elem).bytes) = true) → OpOk B G a w o nb (.ref nb [] none) [] (setO h2 nb (.row r xs)) := by
      intro base hxe hlim
      obtain ⟨hl1, hl2⟩ := lim_le hlim
      have hrun := append_run (P := B.P) (w := w) (ty := o.type) hd hi hz hzs hpos (base := base) (n := 0) (c := 0) (xa := xa) (m := xs.length) (xc := xc) (olds := []) (news := news) (by simp) (by rw [hln, hsz]) hnews (.inl ⟨rfl, rfl⟩) hrows.oneCell (by rw [hby, Nat.zero_add]; exact hl1) (by omega)
      have hargs : (#[a.eval x, a.eval y] : Array Value) = #[.slice base 0 0, .slice xa xs.length xc] := by rw [hxe, hval]
      rw [← hargs] at hrun
      rcases hrun with ⟨_, hm, _, hrun⟩ | ⟨_, _, _, _, hne, _⟩ | ⟨cap, arr, hrun, g1, g2, g3⟩
      · have hxs : xs = [] := List.length_eq_zero_iff.1 hm
        subst hxs
        obtain ⟨rfl, rfl⟩ := hrows
        refine ⟨⟨_, .slice base 0 0, w, exec_append hop hc ha ht hrun, .inl rfl, ?_⟩⟩
        exact Post.row (loc := .emp base 0) (kids := []) s2 hfree (nilV r base 0 rfl) Held.nil
      · exact absurd ⟨rfl, rfl⟩ hne
      · rw [Nat.zero_add] at hrun g1 g3
        rw [hsz] at g2 g3
        exact ⟨⟨_, _, _, exec_append hop hc ha ht hrun, .inl rfl, append_new s2 hfree hrows hheld g1 g2 (by simpa using g3)⟩⟩
    split at hn2
    · rename_i q hxx
      rw [hxx] at hx
      rcases cond_has hn2 with ⟨hlim, hn2⟩ | ⟨_, hn2⟩
      · rw [has_putD] at hn2
        obtain ⟨rfl, rfl⟩ := ret_has1 hn2
        exact empty none hx hlim
      · exact hn2.elim
    · rename_i hxx
      rw [hxx] at hx
      rcases cond_has hn2 with ⟨hlim, hn2⟩ | ⟨_, hn2⟩
      · rw [has_putD] at hn2
        obtain ⟨rfl, rfl⟩ := ret_has1 hn2
        obtain ⟨base, hx⟩ := hx
        exact empty base hx hlim
      · exact hn2.elim
    · rename_i j vw hxx
      rw [hxx] at hx
      rw [has_getD] at hn2
      cases ho : getO h2 j with
      | none => rw [ho] at hn2; exact hn2.elim
      | some ob =>
        rw [ho] at hn2
        cases ob with
        | box cs => exact hn2.elim
        | robox cs => exact hn2.elim
        | part rt cols q ys lo hi => exact hn2.elim
        | row q ys =>
          simp only at hn2
          by_cases hq : q.same r = true
          · rw [dif_pos hq] at hn2
            have := RT.eq_of_same hq
            subst this
            rcases cond_has hn2 with ⟨_, hn2⟩ | ⟨_, hn2⟩
            · rcases cond_has hn2 with ⟨hlim, hn2⟩ | ⟨_, hn2⟩
              · obtain ⟨zr, hzr, hn2⟩ := hn2
                cases hzr
                rw [has_putD, has_putD] at hn2
                obtain ⟨rfl, rfl⟩ := ret_has1 hn2
                obtain ⟨hl1, hl2⟩ := lim_le hlim
                have e1 : castL hq ys = ys := rfl
                rw [e1]
                obtain ⟨u, w', hrun, hpost⟩ := append_more (ty := o.type) s2 hfree hx ho hrows hheld hd hi hsz hz hzs hnews (by rw [hby]; exact hl1) hl2
                rw [← hval] at hrun
                exact ⟨⟨_, _, _, exec_append hop hc ha ht hrun, .inl rfl, hpost⟩⟩
              · exact hn2.elim
            · exact hn2.elim
          · rw [dif_neg hq] at hn2; exact hn2.elim
    · exact hn2.elim
end
end Go.Abs

namespace Go.Abs
open Go.RowKit
set_option linter.unusedSimpArgs false
set_option linter.unusedVariables false

/-! ### zero rows -/
def zeroL : CT → L
  | .sl _ => .sl .nil []
  | _ => .leaf
def zeroLs : RT → List L
  | .one c => [zeroL c]
  | .cons c r => zeroL c :: zeroLs r
theorem zeroL_cell {B : Base} {w : World} {own : Bool} (c : CT) : CellV B.fz w own c c.dflt (zeroL c) (zval c) := by
  cases c with
  | sl r => exact ⟨.nil, [], rfl, rfl, rfl, rfl, fun b off cap sz e => by cases e⟩
  | int k => exact ⟨rfl, rfl⟩
  | bool => exact ⟨rfl, rfl⟩
  | str => exact ⟨rfl, rfl⟩
  | nl q0 => exact ⟨rfl, none, rfl⟩
  | vs q0 => exact ⟨rfl, Base.fz_emp q0 none, none, 0, 0, rfl⟩
def RT.zvals : RT → List Value
  | .one c => [zval c]
  | .cons c r => zval c :: r.zvals
theorem rtOf_zvals : ∀ {cs : List CT} {r : RT}, rtOf cs = some r → cs.map zval = r.zvals
  | [c], r, h => by simp only [rtOf, Option.some.injEq] at h; subst h; rfl
  | c :: d :: cs, r, h => by
    simp only [rtOf, Option.map_eq_some_iff] at h
    obtain ⟨q, h1, rfl⟩ := h
    show zval c :: (d :: cs).map zval = zval c :: q.zvals
    rw [rtOf_zvals h1]
  | [], r, h => by simp [rtOf] at h
theorem toVs_zvals : ∀ r : RT, r.toVs.zvals = r.zvals
  | .one c => by simp only [RT.toVs, RT.zvals, CT.toVs_z]
  | .cons c r => by simp only [RT.toVs, RT.zvals, CT.toVs_z, toVs_zvals r]
theorem RtFit.zvals {cs : List CT} {q : RT} (h : RtFit cs q) : cs.map zval = q.zvals := by
  obtain ⟨r, h1, rfl | rfl⟩ := h
  · exact rtOf_zvals h1
  · rw [toVs_zvals]; exact rtOf_zvals h1
theorem zero_rowR {B : Base} {w : World} {own : Bool} : ∀ r : RT, RowC B.fz w own r r.dflt (zeroLs r) r.zvals
  | .one c => ⟨_, _, rfl, rfl, zeroL_cell c⟩
  | .cons c r => ⟨_, _, _, _, rfl, rfl, zeroL_cell c, zero_rowR r⟩
theorem zero_row {B : Base} {w : World} {own : Bool} {cs : List CT} {r : RT} (h : RtFit cs r) : RowC B.fz w own r r.dflt (zeroLs r) (cs.map zval) := by
  rw [h.zvals]; exact zero_rowR r
theorem zeroLs_bl : ∀ r : RT, Ls.bl (zeroLs r) = []
  | .one c => by cases c <;> rfl
  | .cons c r => by
    have := zeroLs_bl r
    cases c <;> simp [zeroLs, zeroL, Ls.bl, L.bl, Loc.bl, Lss.bl, this]
theorem zero_rows {B : Base} {w : World} {own : Bool} {cs : List CT} {r : RT} (h : RtFit cs r) : ∀ n : Nat, RowsC B.fz w own r (List.replicate n r.dflt) (List.replicate n (zeroLs r)) (List.replicate n (cs.map zval)).flatten
  | 0 => ⟨rfl, rfl⟩
  | n + 1 => by
    simp only [List.replicate_succ, List.flatten_cons]
    exact ⟨_, _, _, _, rfl, rfl, zero_row h, zero_rows h n⟩
theorem zero_bl (r : RT) : ∀ n : Nat, Lss.bl (List.replicate n (zeroLs r)) = []
  | 0 => rfl
  | n + 1 => by simp only [List.replicate_succ, Lss.bl, zeroLs_bl, zero_bl r n, List.append_nil]
theorem flat_get {α : Type} (zs : List α) : ∀ (n j : Nat), j < n * zs.length → (List.replicate n zs).flatten[j]? = zs[j % zs.length]?
  | 0, j, h => by simp at h
  | n + 1, j, h => by
    simp only [List.replicate_succ, List.flatten_cons]
    rw [List.getElem?_append]
    by_cases e : j < zs.length
    · rw [if_pos e, Nat.mod_eq_of_lt e]
    · rw [if_neg e, flat_get zs n (j - zs.length) (by rw [Nat.add_mul] at h; omega)]
      have : 0 < zs.length := by
        rcases Nat.eq_zero_or_pos zs.length with h0 | h0
        · rw [h0] at h; simp at h
        · exact h0
      rw [← Nat.mod_eq_sub_mod (by omega)]
theorem flat_len {α : Type} (zs : List α) (n : Nat) : (List.replicate n zs).flatten.length = n * zs.length := by
  induction n with
  | zero => simp
  | succ n ih => simp only [List.replicate_succ, List.flatten_cons, List.length_append, ih, Nat.add_mul]; omega
theorem made_list (z : Array Value) (n : Nat) : (madeCells z (n * z.size)).toList = (List.replicate n z.toList).flatten := by
  apply List.ext_getElem?
  intro j
  by_cases h : j < n * z.size
  · rw [flat_get z.toList n j (by simpa using h)]
    have hp : 0 < z.size := by
      rcases Nat.eq_zero_or_pos z.size with h0 | h0
      · rw [h0] at h; simp at h
      · exact h0
    have hm := Nat.mod_lt j hp
    simp only [madeCells, Array.toList_map, List.getElem?_map, Array.length_toList]
    have : (Array.range (n * z.size)).toList[j]? = some j := by simp [h]
    rw [this]
    simp only [Option.map_some]
    rw [getElem!_pos z (j % z.size) hm]
    simp [hm]
  · rw [List.getElem?_eq_none (by simp [madeCells]; omega), List.getElem?_eq_none (by rw [flat_len]; simp; omega)]

section
variable {tb : Tb} {B : Base} {G : Gh} {e : Env} {h : Heap} {a : Act} {w : World} {nb : Nat} {o : Oper} {av : AV} {z : List Pl} {h' : Heap}

/-- Rows in a new block that is full. -/
theorem row_full (s : Sim B G h w) (hn : G nb = none) {r : RT} {x : List r.den} {kids : List (List L)} {vs : List Value} (hx : RowsC B.fz w true r x kids vs) (hh : Held B G h w (Lss.bl kids)) {arr : Array Value} {el : TypeId} (ha : arr.toList = vs) :
    Post B G nb (.ref nb [] none) [] (setO h nb (.row r x)) (.slice (some ⟨w.heap.size, 0, none⟩) x.length x.length) (w.alloc (.cells arr el)) := by
  have ht : Turn w (w.alloc (.cells arr el)) [] := Turn.alloc w _
  have hnew : (w.alloc (.cells arr el)).heap[w.heap.size]? = some (.cells arr el (0, 0)) := heap_alloc_new w _
  have hl := hx.length.1
  refine Post.row (loc := .at w.heap.size 0 x.length r.size) (kids := kids) (s.grow ht) hn ?_ ?_
  · refine CellV.ofRows (hx.keep fun b hb => ht.block b (hh.mine b hb).1 (by simp)) (fun j u hj => ?_) (Nat.le_refl _) hnew (by rw [← Array.length_toList, ha, hl]; omega)
    simp only [World.cell?, hnew, Nat.zero_add]
    rw [← ha] at hj
    simpa using hj
  · show Held B G h _ ([w.heap.size] ++ Lss.bl kids)
    have h5 := Held.fresh s (w.alloc (.cells arr el)) (by show w.heap.size < (w.heap.push _).size; simp)
    refine ⟨List.nodup_append.2 ⟨h5.nodup, hh.nodup, fun a ha b hb e1 => ?_⟩, fun b hb => ?_, fun id o go h1 h2 h3 b hb => ?_⟩
    · simp only [List.mem_singleton] at ha
      subst ha; subst e1
      exact Nat.lt_irrefl _ (hh.mine _ hb).1
    · rcases List.mem_append.1 hb with hb | hb
      · exact h5.mine b hb
      · exact (hh.grow ht.size).mine b hb
    · rcases List.mem_append.1 hb with hb | hb
      · exact h5.apart id o go h1 h2 h3 b hb
      · exact hh.apart id o go h1 h2 h3 b hb

theorem isSlT_T0 {t : Nat} {q : RT} (h : isSlT tb t q = true) : isSlT0 tb t = true := by
  unfold isSlT at h
  unfold isSlT0
  cases ho : oneT tb t with
  | none => rw [ho] at h; simp at h
  | some c =>
    rw [ho] at h
    cases c <;> simp at h ⊢
theorem op_make (p : Pre tb B G e h a w nb) {t : TypeId} {x y : Operand} (hop : o.op = .makeSlice t x y) {n m : Int} (hx : evalO e x = .int .i64 n) (hy : evalO e y = .int .i64 m) {q : RT} (hq : (tyOf tb (tyOf tb t).elem).row = some q) (hb : (isSlT tb t q && sameOp x y) = true)
    (hev : (DH.cond (decide (0 ≤ n) && Nat.ble n.toNat (limOf (tyOf tb (tyOf tb t).elem).bytes)) ((putD nb (some (.row q (List.replicate n.toNat q.dflt)))).andThen fun _ => DH.ret (AV.ref nb [] none, ([] : List Pl))) .fail).Has h (av, z) h') : OpOk B G a w o nb av z h' := by
  simp only [Bool.and_eq_true] at hb
  obtain ⟨hs, hso⟩ := hb
  have hv := evalO_rel p.env x
  rw [hx] at hv
  have hv : a.eval x = .int .i64 n := hv
  have hw := evalO_rel p.env y
  rw [hy] at hw
  have hw : a.eval y = .int .i64 m := hw
  have hmn : m = n := by
    unfold sameOp at hso
    split at hso
    · have := (beq_iff _ _).1 hso
      subst this
      rw [hx] at hy
      cases hy; rfl
    · have := of_decide_eq_true hso
      subst this
      simp only [evalO, constAV, AV.int.injEq] at hx hy
      rw [← hx.2, ← hy.2]
    · cases hso
  subst hmn
  rcases cond_has hev with ⟨hc, hev⟩ | ⟨_, hev⟩
  · rw [has_putD] at hev
    obtain ⟨rfl, rfl, rfl⟩ := ret_has hev
    simp only [Bool.and_eq_true, decide_eq_true_eq] at hc
    obtain ⟨h0, hl⟩ := hc
    have hl := Nat.le_of_ble_eq_true hl
    obtain ⟨hd, i, zz, hi, hsz, hby, hz, hzs, hzl⟩ := elem_info p.ty (isSlT_T0 hs) hq
    have hlim : i.bytes * m.toNat ≤ 140737488355328 := by
      rw [hby]
      unfold limOf at hl
      have h1 := Nat.mul_le_mul_left (tyOf tb (tyOf tb t).elem).bytes hl
      exact Nat.le_trans h1 (Nat.mul_div_le _ _)
    have hl63 : m.toNat ≤ 140737488355328 := by
      unfold limOf at hl
      exact Nat.le_trans hl (Nat.div_le_self _ _)
    have hb2 : (i.bytes : Int) * m ≤ 281474976710656 := by
      have e1 : ((i.bytes * m.toNat : Nat) : Int) = (i.bytes : Int) * m := by rw [Int.natCast_mul, Int.toNat_of_nonneg h0]
      rw [← e1]; omega
    have hr := run_make (P := B.P) w t _ i zz hd hi hz .i64 .i64 m m h0 (Int.le_refl _) hb2 (by omega)
    have hpost := row_full (nb := nb) p.sim (p.free nb (Nat.le_refl _) (by omega)) (zero_rows (w := w) (own := true) (TyI.row_fit hq) m.toNat) (by rw [zero_bl]; exact Held.nil) (arr := madeCells zz.cells (m.toNat * i.size)) (el := (tyOf tb t).elem) (by rw [← hzs, made_list, hzl])
    rw [List.length_replicate] at hpost
    refine ⟨⟨_, _, _, ?_, .inl rfl, hpost⟩⟩
    simp [execOp, hop, hv, hw, hr]
  · exact hev.elim
end
end Go.Abs

namespace Go.Abs
open Go.RowKit
set_option linter.unusedSimpArgs false
set_option linter.unusedVariables false
section
variable {tb : Tb} {B : Base} {G : Gh} {e : Env} {h : Heap} {a : Act} {w : World} {nb : Nat} {o : Oper} {av : AV} {z : List Pl} {h' : Heap}

/-! ### a slice's literal -/
theorem litRows_sound (he : EnvR B G e a) {cs : List CT} {r : RT} (hr : RtFit cs r) (parts : List (Nat × Operand)) :
    ∀ (n i : Nat) (h : Heap) (bs : List Nat) (ds : List r.den) (h' : Heap), Sim B G h w → Held B G h w bs → (litRows e r parts n i).Has h ds h' →
      ∃ ks vs, RowsC B.fz w true r ds ks vs ∧ Held B G h' w (bs ++ Lss.bl ks) ∧ Sim B G h' w ∧ ds.length = n ∧
        (∀ i' x, i' < n → partsAt parts (i + i') = some x → (a.eval x).cells.size = r.size) ∧
        ∀ i' j, i' < n → j < r.size → vs[i' * r.size + j]? = match partsAt parts (i + i') with | some x => (a.eval x).cells.toList[j]? | none => (cs.map zval)[j]?
  | 0, i, h, bs, ds, h', s, hh, hl => by
    obtain ⟨rfl, rfl⟩ := ret_has1 hl
    exact ⟨[], [], ⟨rfl, rfl⟩, by simpa [Lss.bl] using hh, s, rfl, fun i' x hi => by omega, fun i' j hi => by omega⟩
  | n + 1, i, h, bs, ds, h', s, hh, hl => by
    have step : ∀ (d : r.den) (k : List L) (v : List Value) (h1 : Heap) (ds' : List r.den), RowC B.fz w true r d k v → Held B G h1 w (bs ++ Ls.bl k) → Sim B G h1 w → (litRows e r parts n (i + 1)).Has h1 ds' h' →
        (∀ x, partsAt parts i = some x → (a.eval x).cells.size = r.size) → (∀ j, j < r.size → v[j]? = match partsAt parts i with | some x => (a.eval x).cells.toList[j]? | none => (cs.map zval)[j]?) →
        ∃ ks vs, RowsC B.fz w true r (d :: ds') ks vs ∧ Held B G h' w (bs ++ Lss.bl ks) ∧ Sim B G h' w ∧ (d :: ds').length = n + 1 ∧
          (∀ i' x, i' < n + 1 → partsAt parts (i + i') = some x → (a.eval x).cells.size = r.size) ∧
          ∀ i' j, i' < n + 1 → j < r.size → vs[i' * r.size + j]? = match partsAt parts (i + i') with | some x => (a.eval x).cells.toList[j]? | none => (cs.map zval)[j]? := by
      intro d k v h1 ds' hrow hh1 s1 hl1 hsz hv
      obtain ⟨ks, vs, g1, g2, g3, g4, g5, g6⟩ := litRows_sound he hr parts n (i + 1) h1 _ ds' h' s1 hh1 hl1
      refine ⟨k :: ks, v ++ vs, ⟨k, ks, v, vs, rfl, rfl, hrow, g1⟩, by simpa [Lss.bl, List.append_assoc] using g2, g3, by simp [g4], fun i' x hi hx => ?_, fun i' j hi hj => ?_⟩
      · cases i' with
        | zero => exact hsz x hx
        | succ i' => exact g5 i' x (by omega) (by rw [show i + 1 + i' = i + (i' + 1) by omega]; exact hx)
      · cases i' with
        | zero =>
          rw [List.getElem?_append_left (by rw [hrow.length]; omega), Nat.zero_mul, Nat.zero_add]
          exact hv j hj
        | succ i' =>
          rw [List.getElem?_append_right (by rw [hrow.length, Nat.add_mul]; omega), hrow.length, show (i' + 1) * r.size + j - r.size = i' * r.size + j by rw [Nat.add_mul]; omega, g6 i' j (by omega) hj, show i + 1 + i' = i + (i' + 1) by omega]
    simp only [litRows] at hl
    cases hp : partsAt parts i with
    | none =>
      rw [hp] at hl step
      simp only at hl
      obtain ⟨ds', h1, hl1, hl2⟩ := (DH.has_andThen _ _ _ _ _).1 hl
      obtain ⟨rfl, rfl⟩ := ret_has1 hl2
      exact step r.dflt (zeroLs r) (cs.map zval) h ds' (zero_row hr) (by rw [zeroLs_bl, List.append_nil]; exact hh) s hl1 (fun x hx => by cases hx) (fun j hj => rfl)
    | some x =>
      rw [hp] at hl step
      simp only at hl
      cases hok : (evalO e x).okF with
      | false => rw [hok] at hl; exact hl.elim
      | true =>
        rw [hok, cond_true] at hl
        obtain ⟨d, h1, hm, hl2⟩ := (DH.has_andThen _ _ _ _ _).1 hl
        obtain ⟨ds', h2, hl3, hl4⟩ := (DH.has_andThen _ _ _ _ _).1 hl2
        obtain ⟨rfl, rfl⟩ := ret_has1 hl4
        obtain ⟨k, g1, g2, g3, _⟩ := mvRow_sound r _ _ h bs d h1 s (okF_flat hok (evalO_rel he x)) hh hm
        have hsz : (a.eval x).cells.size = r.size := by rw [← Array.length_toList]; exact g1.length
        exact step d k _ h1 ds' g1 g2 g3 hl3 (fun y hy => by cases hy; exact hsz) (fun j hj => rfl)

theorem setV_get : ∀ (us vs : List Value) (off k : Nat), off + us.length ≤ vs.length → (setV vs off us)[k]? = if k < off then vs[k]? else if k < off + us.length then us[k - off]? else vs[k]?
  | [], vs, off, k, h => by
    simp only [setV, List.length_nil, Nat.add_zero]
    by_cases e1 : k < off
    · rw [if_pos e1]
    · rw [if_neg e1, if_neg e1]
  | u :: us, vs, off, k, h => by
    simp only [List.length_cons] at h
    simp only [setV]
    rw [setV_get us _ (off + 1) k (by simp; omega)]
    simp only [List.length_cons]
    by_cases e1 : k < off
    · rw [if_pos (by omega), if_pos e1, List.getElem?_set_ne (by omega)]
    · rw [if_neg e1]
      by_cases e2 : k = off
      · subst e2
        rw [if_pos (by omega), if_pos (by omega), List.getElem?_set_self (by omega), Nat.sub_self]
        rfl
      · rw [if_neg (by omega)]
        by_cases e3 : k < off + 1 + us.length
        · rw [if_pos e3, if_pos (by omega), show k - off = (k - (off + 1)) + 1 by omega]
          simp
        · rw [if_neg e3, if_neg (by omega), List.getElem?_set_ne (by omega)]
theorem partsAt_tail {parts : List (Nat × Operand)} {i k : Nat} {x : Operand} : partsAt ((i, x) :: parts) k = if i = k then some x else partsAt parts k := by
  simp only [partsAt]
  by_cases e : i = k
  · subst e; simp
  · rw [beq_false e, if_neg e]; rfl
theorem partsAt_none : ∀ {parts : List (Nat × Operand)} {i : Nat}, (parts.all fun p => !Nat.beq p.1 i) = true → partsAt parts i = none
  | [], i, _ => rfl
  | (k, x) :: ps, i, h => by
    simp only [List.all_cons, Bool.and_eq_true, Bool.not_eq_true'] at h
    simp only [partsAt, h.1, cond_false]
    exact partsAt_none h.2
theorem fill_parts {size len : Nat} : ∀ (parts : List (Nat × Operand)) (c0 : Array Value), onceP parts = true → (∀ p ∈ parts, p.1 < len ∧ (a.eval p.2).cells.size = size) → c0.size = len * size →
    ∃ c1, Instr.fill (fun i => some (i * size, size)) c0 (parts.map fun p => (p.1, a.eval p.2)) = some c1 ∧ c1.size = c0.size ∧
      ∀ i j, i < len → j < size → c1.toList[i * size + j]? = match partsAt parts i with | some x => (a.eval x).cells.toList[j]? | none => c0.toList[i * size + j]?
  | [], c0, _, _, _ => ⟨c0, rfl, rfl, fun i j _ _ => rfl⟩
  | (i0, x) :: ps, c0, ho, hp, hc => by
    simp only [onceP, Bool.and_eq_true] at ho
    obtain ⟨hlt, hsz⟩ := hp _ (List.mem_cons_self ..)
    simp only at hlt hsz
    have hfit : i0 * size + size ≤ len * size := by
      have : (i0 + 1) * size ≤ len * size := Nat.mul_le_mul_right _ hlt
      rw [Nat.add_mul, Nat.one_mul] at this
      exact this
    have hfold := fold_setV (i0 * size) (a.eval x).cells.toList 0 c0
    simp only [Nat.add_zero] at hfold
    have hl : ((a.eval x).cells.zipIdx.foldl (fun cs (c, j) => cs.setIfInBounds (i0 * size + j) c) c0).toList = setV c0.toList (i0 * size) (a.eval x).cells.toList := by
      rw [← hfold, ← Array.foldl_toList]
      simp
    have hs2 : ((a.eval x).cells.zipIdx.foldl (fun cs (c, j) => cs.setIfInBounds (i0 * size + j) c) c0).size = c0.size := by
      rw [← Array.length_toList, hl, setV_length]; simp
    obtain ⟨c1, g1, g2, g3⟩ := fill_parts ps _ ho.2 (fun p hm => hp p (List.mem_cons_of_mem _ hm)) (hs2.trans hc)
    refine ⟨c1, ?_, g2.trans hs2, fun i j hi hj => ?_⟩
    · simp only [List.map_cons, Instr.fill]
      rw [if_neg (by simp [hsz, hc]; omega)]
      exact g1
    · rw [g3 i j hi hj, partsAt_tail]
      have hij : ∀ i1, i1 < i → i1 * size + size ≤ i * size := fun i1 h1 => by
        have : (i1 + 1) * size ≤ i * size := Nat.mul_le_mul_right _ h1
        rw [Nat.add_mul, Nat.one_mul] at this
        exact this
      have hji : i < i0 → i * size + size ≤ i0 * size := fun h1 => by
        have : (i + 1) * size ≤ i0 * size := Nat.mul_le_mul_right _ h1
        rw [Nat.add_mul, Nat.one_mul] at this
        exact this
      rw [hl, setV_get _ _ _ _ (by simp only [Array.length_toList, hsz, hc]; exact hfit)]
      simp only [Array.length_toList, hsz]
      by_cases e1 : i0 = i
      · subst e1
        rw [partsAt_none ho.1, if_pos rfl, if_neg (by omega), if_pos (by omega), show i0 * size + j - i0 * size = j by omega]
      · rw [if_neg e1]
        have : (if i * size + j < i0 * size then c0.toList[i * size + j]? else if i * size + j < i0 * size + size then (a.eval x).cells.toList[i * size + j - i0 * size]? else c0.toList[i * size + j]?) = c0.toList[i * size + j]? := by
          by_cases e2 : i < i0
          · have := hji e2
            rw [if_pos (by omega)]
          · have := hij i0 (by omega)
            rw [if_neg (by omega), if_neg (by omega)]
        rw [this]
theorem partsAt_mem : ∀ {parts : List (Nat × Operand)}, onceP parts = true → ∀ p ∈ parts, partsAt parts p.1 = some p.2
  | (i, x) :: ps, h, p, hp => by
    simp only [onceP, Bool.and_eq_true] at h
    rw [partsAt_tail]
    rcases List.mem_cons.1 hp with rfl | hp
    · rw [if_pos rfl]
    · have h1 := List.all_eq_true.1 h.1 p hp
      simp only [Bool.not_eq_true'] at h1
      rw [if_neg (fun e => by subst e; rw [Nat.beq_refl] at h1; cases h1)]
      exact partsAt_mem h.2 p hp

theorem op_buildSlice (p : Pre tb B G e h a w nb) {t n : Nat} {parts : Array (Nat × Operand)} (hop : o.op = .buildSlice t n parts) {q : RT} (hq : (tyOf tb (tyOf tb t).elem).row = some q)
    (hb : (isSlT tb t q && (Nat.ble (n * q.size) 16777216 && (onceP parts.toList && (parts.toList.all fun p => Nat.blt p.1 n)))) = true)
    (hev : ((litRows e q parts.toList n 0).andThen fun rows => (putD nb (some (.row q rows))).andThen fun _ => DH.ret (AV.ref nb [] none, ([] : List Pl))).Has h (av, z) h') : OpOk B G a w o nb av z h' := by
  simp only [Bool.and_eq_true] at hb
  obtain ⟨hs, hsmall, honce, hall⟩ := hb
  have hsmall := Nat.le_of_ble_eq_true hsmall
  obtain ⟨rows, h1, hl, hev2⟩ := (DH.has_andThen _ _ _ _ _).1 hev
  clear hev
  rw [has_putD] at hev2
  obtain ⟨rfl, rfl, rfl⟩ := ret_has hev2
  obtain ⟨hd, i, zz, hi, hsz, hby, hz, hzs, hzl⟩ := elem_info p.ty (isSlT_T0 hs) hq
  obtain ⟨ks, vs, g1, g2, g3, g4, g5, g6⟩ := litRows_sound p.env (TyI.row_fit hq) parts.toList n 0 h [] rows h1 p.sim Held.nil hl
  rw [List.nil_append] at g2
  have hparts : ∀ x ∈ parts.toList, x.1 < n ∧ (a.eval x.2).cells.size = i.size := by
    intro x hx
    have h2 := Nat.le_of_ble_eq_true (List.all_eq_true.1 hall x hx)
    exact ⟨h2, by rw [hsz]; exact g5 x.1 x.2 h2 (by rw [Nat.zero_add]; exact partsAt_mem honce x hx)⟩
  have hm : (parts.map fun (i, x) => (i, a.eval x)).toList = parts.toList.map fun q => (q.1, a.eval q.2) := by simp
  have hlen := g1.length.1
  rw [g4] at hlen
  have hpost : ∀ arr : Array Value, arr.toList = vs → Post B G nb (.ref nb [] none) [] (setO h1 nb (.row q rows)) (.slice (some ⟨w.heap.size, 0, none⟩) n n) (w.alloc (.cells arr (tyOf tb t).elem)) := by
    intro arr harr
    have := row_full (nb := nb) g3 (p.free nb (Nat.le_refl _) (by omega)) g1 g2 (arr := arr) (el := (tyOf tb t).elem) harr
    rwa [g4] at this
  by_cases hn : n = 0
  · subst hn
    have hp0 : parts.toList = [] := by
      cases hpp : parts.toList with
      | nil => rfl
      | cons x l => exact absurd (hparts x (by rw [hpp]; exact List.mem_cons_self ..)).1 (Nat.not_lt_zero _)
    have hp1 : parts = #[] := Array.ext' (by simpa using hp0)
    subst hp1
    have hv0 : vs = [] := List.length_eq_zero_iff.1 (by rw [hlen]; simp)
    refine ⟨⟨_, _, _, ?_, .inl rfl, hpost #[] (by rw [hv0])⟩⟩
    simp [execOp, hop, Instr.buildSlice, run_underlying hd, sizeOf, typeInfo, hi, Instr.fill, newRow, Array.range_zero']
  · have hpos : 0 < q.size := RT.size_pos q
    have hcsz : (madeCells zz.cells (n * i.size)).size = n * i.size := size_madeCells _ _
    obtain ⟨c1, f1, f2, f3⟩ := fill_parts (a := a) (size := i.size) (len := n) parts.toList (madeCells zz.cells (n * i.size)) honce hparts hcsz
    have hc1 : c1.toList = vs := by
      apply List.ext_getElem?
      intro k
      by_cases hk : k < n * q.size
      · have e1 : k = k / q.size * q.size + k % q.size := by rw [Nat.mul_comm]; exact (Nat.div_add_mod k q.size).symm
        have e2 : k / q.size < n := Nat.div_lt_of_lt_mul (by rw [Nat.mul_comm]; exact hk)
        have e3 := Nat.mod_lt k hpos
        rw [e1, g6 _ _ e2 e3]
        have := f3 (k / q.size) (k % q.size) e2 (by rw [hsz]; exact e3)
        rw [hsz] at this
        rw [this, Nat.zero_add]
        cases partsAt parts.toList (k / q.size) with
        | some x => rfl
        | none =>
          simp only
          rw [← hzl, ← hsz, ← hzs, made_list, flat_get _ _ _ (by rw [Array.length_toList, hzs, hsz, ← e1]; exact hk), Array.length_toList, hzs, hsz, ← e1]
      · rw [List.getElem?_eq_none (by rw [Array.length_toList, f2, hcsz, hsz]; omega), List.getElem?_eq_none (by rw [hlen]; omega)]
    refine ⟨⟨_, _, _, ?_, .inl rfl, hpost c1 hc1⟩⟩
    have hrun := run_buildSlice (P := B.P) w t _ n (parts.map fun (i, x) => (i, a.eval x)) c1 i zz hd hi hz (by rw [hsz]; omega) (by rw [hsz]; exact Nat.mul_ne_zero hn (by omega)) (by rw [hm]; exact f1)
    simp only [execOp, hop]
    rw [Sem.run_bind, hrun]
    rfl

/-! ### bytes to a string -/
theorem bytes_cells {F : Fz} {own : Bool} : ∀ {rows : List Int} {ks : List (List L)} {vs : List Value}, RowsC F w own (.one (.int .u8)) rows ks vs → vs = rows.map (Value.int .u8)
  | [], ks, vs, h => by obtain ⟨_, rfl⟩ := h; rfl
  | d :: ds, ks, vs, h => by
    obtain ⟨k, k2, v, v2, rfl, rfl, ⟨l, u, _, rfl, _, rfl⟩, h2⟩ := h
    rw [bytes_cells h2]
    rfl
theorem op_bytes (p : Pre tb B G e h a w nb) {s d : TypeId} {x : Operand} (hop : o.op = .convert s d x) (h1 : oneT tb s = some (.sl (.one (.int .u8)))) (h2 : oneT tb d = some .str) (h3 : oneT tb (tyOf tb s).elem = some (.int .u8))
    (hev : ((rdCell (.sl (.one (.int .u8))) (evalO e x)).andThen fun rows => DH.ret (AV.str (bytesOfRows rows), ([] : List Pl))).Has h (av, z) h') : OpOk B G a w o nb av z h' := by
  obtain ⟨rows, hh, hr, hev2⟩ := (DH.has_andThen _ _ _ _ _).1 hev
  clear hev
  have hS : (evalO e x).isS = true := by
    cases hx : evalO e x <;> first | rfl | (rw [hx] at hr; exact hr.elim)
  obtain ⟨rfl, l, hl, _⟩ := rdCell_sound p.sim ((evalO_rel p.env x).S hS) hr
  obtain ⟨loc, kids, rfl⟩ := hl.isSl
  obtain ⟨hval, hloc, vs, hrows, hcell⟩ := hl.rows
  have hvs := bytes_cells hrows
  obtain ⟨i1, d1, _, hd1, _, hc1⟩ := oneT_desc p.ty h1
  obtain ⟨i2, d2, _, hd2, _, hc2⟩ := oneT_desc p.ty h2
  obtain ⟨rfl, hel⟩ := hc1
  cases hc2
  obtain ⟨i3, d3, _, hd3, _, hc3⟩ := oneT_desc p.ty h3
  cases hc3
  obtain ⟨xa, xc, hxv, hxa⟩ := src_val hloc
  rw [hxv] at hval
  refine p.done hev2 (u := .string (bytesOfRows rows)) ?_ rfl
  have hfold : ∀ ns : List Int, ns.foldl (fun r n => r.push (UInt8.ofNat n.toNat)) ByteArray.empty = bytesOfRows ns := by
    intro ns
    rw [push_fold ns]
    unfold bytesOfRows
    congr 1
    exact Array.ext' (by rw [Array.toList_append]; rfl)
  have hconv : (convert s d (a.eval x)).run B.P w = .ok (.string (bytesOfRows rows)) w := by
    rw [hval, run_convert_bytes_string w s d _ xa _ xc hd1 hd3 hd2]
    by_cases h0 : 0 < List.length rows
    · obtain ⟨b, off, cap, sz, e1, rfl⟩ := hxa h0
      rw [← hfold rows]
      refine run_bytesToString (P := B.P) w ⟨b, off, none⟩ _ xc rows ?_
      have hl2 : vs.length = List.length rows := by rw [hvs]; exact List.length_map ..
      have := run_loadCells_list (P := B.P) w ⟨b, off, none⟩ vs (fun j u hu => by rw [Addr_add]; exact hcell b off cap sz e1 j u hu)
      rw [hl2, hvs] at this
      exact this
    · have hr0 : rows = [] := List.length_eq_zero_iff.1 (by omega)
      subst hr0
      cases xa with
      | none => rfl
      | some b =>
        have h9 := run_bytesToString (P := B.P) w b 0 xc [] rfl
        rw [hfold []] at h9
        exact h9
  simp only [execOp, hop]
  rw [Sem.run_bind, hconv]
  rfl
theorem op_buildN (p : Pre tb B G e h a w nb) {t n : Nat} {parts : Array (Nat × Operand)} (hop : o.op = .buildSlice t n parts) (hb : (isNlT tb t && (Nat.beq n 0 && parts.toList.isEmpty)) = true)
    (hev : (DH.ret (AV.emp, ([] : List Pl))).Has h (av, z) h') : OpOk B G a w o nb av z h' := by
  simp only [Bool.and_eq_true] at hb
  obtain ⟨hs, hn, hp⟩ := hb
  have hn := Nat.eq_of_beq_eq_true hn
  subst hn
  have hp1 : parts = #[] := Array.ext' (by simpa using hp)
  subst hp1
  obtain ⟨rfl, rfl, rfl⟩ := ret_has hev
  obtain ⟨hd, q, i, zz, hi, hsz, hby, hz, hzl, hq⟩ := isNlT_elem p.ty hs
  refine ⟨⟨_, .slice (some ⟨w.heap.size, 0, none⟩) 0 0, w.alloc (.cells #[] (tyOf tb t).elem), ?_, .inl rfl, Post.pure (p.sim.grow (Turn.alloc w _)) ⟨_, rfl⟩⟩⟩
  simp [execOp, hop, Instr.buildSlice, run_underlying hd, sizeOf, typeInfo, hi, Instr.fill, newRow, Array.range_zero']
theorem ne_val {v : AV} {u : Value} (h : isNE v = true) (hv : VRel B G v u) : ∃ b, u = .slice b 0 0 := by
  cases v with
  | nil q => exact ⟨none, hv⟩
  | emp => exact hv
  | _ => cases h
theorem ns_val {v : AV} {u : Value} (h : isNS v = true) (hv : VRel B G v u) : ∃ b c, u = .slice b 0 c := by
  unfold isNS at h
  split at h
  · exact ⟨none, 0, hv⟩
  · obtain ⟨b, hv⟩ := hv; exact ⟨b, 0, hv⟩
  · obtain ⟨b, c, hu⟩ := bor_val (G := G) hv; exact ⟨b, c, hu⟩
  · cases h
theorem op_appendN (p : Pre tb B G e h a w nb) {k : Call} {x y : Operand} {t : TypeId} (hop : o.op = .call k) (hc : k.callee = .builtin .append) (ha : k.args = #[x, y]) (ht : k.argTypes = #[t, t]) (hs : isNlT tb t = true) (hx : isNE (evalO e x) = true) (hy : isNS (evalO e y) = true)
    (hev : (DH.ret (AV.emp, ([] : List Pl))).Has h (av, z) h') : OpOk B G a w o nb av z h' := by
  obtain ⟨hd, q, i, zz, hi, hsz, hby, hz, hzl, hq⟩ := isNlT_elem p.ty hs
  obtain ⟨b, hxv⟩ := ne_val hx (evalO_rel p.env x)
  obtain ⟨b', c', hyv⟩ := ns_val hy (evalO_rel p.env y)
  refine p.done hev (u := .slice b 0 0) (exec_append hop hc ha ht ?_) ⟨b, rfl⟩
  rw [hxv, hyv]
  exact append_zero hd hi b b' c'
end
end Go.Abs

namespace Go.Abs
set_option linter.unusedSimpArgs false
set_option linter.unusedVariables false
open Go.RowKit

section
variable {tb : Tb} {B : Base} {G : Gh} {e : Env} {h : Heap} {a : Act} {w : World} {nb : Nat} {o : Oper} {av : AV} {z : List Pl} {h' : Heap}

theorem ev_slice (p : Pre tb B G e h a w nb) {t : TypeId} {x : Operand} {lo hi mx : Option Operand} (hop : o.op = .slice t x lo hi mx)
    (hev : (opEval tb e nb o.type o.op).Has h (av, z) h') : OpOk B G a w o nb av z h' := by
  rw [hop] at hev
  unfold opEval at hev
  simp only at hev
  split at hev
  · split at hev
    · cases hs : (isSlT0 tb t || isNlT tb t) with
      | false => rw [hs] at hev; exact hev.elim
      | true =>
        rw [hs] at hev
        simp only [cond_true] at hev
        have hv := evalO_rel p.env x
        split at hev
        · rename_i hx
          rw [hx] at hv
          obtain ⟨b, c, hu⟩ := bor_val (G := G) hv
          exact op_emp p hop hs hu hev
        · rename_i id path v hx
          rw [hx] at hv
          cases v with
          | none =>
            obtain ⟨loc, n, hG, hu⟩ := hv
            cases loc with
            | nil => exact op_emp p hop hs hu hev
            | emp ad c => exact op_emp p hop hs hu hev
            | «at» b off cap sz => exact op_emp p hop hs hu hev
          | some ol =>
            obtain ⟨o', l'⟩ := ol
            obtain ⟨loc, n, hG, h1, h2, h3, hu⟩ := hv
            cases loc with
            | nil => exact op_emp p hop hs hu hev
            | emp ad c => exact op_emp p hop hs hu hev
            | «at» b off cap sz =>
              obtain ⟨c', ⟨hu, _⟩ | ⟨_, _, ad, hu⟩⟩ := hu
              · exact op_emp p hop hs hu hev
              · exact op_emp p hop hs hu hev
        · rename_i hx
          rw [hx] at hv
          exact op_emp p hop hs hv hev
        · rename_i hx
          rw [hx] at hv
          obtain ⟨b, hv⟩ := hv
          exact op_emp p hop hs hv hev
        · exact hev.elim
    · exact hev.elim
  · split at hev
    · rename_i l k hl hk
      split at hev
      · rename_i b hx
        cases hs : isStrT tb t with
        | false => rw [hs] at hev; exact hev.elim
        | true => rw [hs] at hev; exact slice_str p hop hl hk hx hs hev
      · rename_i q hx
        cases hs : isSlT0 tb t with
        | false => rw [hs] at hev; exact hev.elim
        | true => rw [hs] at hev; exact slice_nil p hop hl hk hx hs hev
      · rename_i tk q rows hx
        cases hs : isSlT tb t q with
        | false => rw [hs] at hev; exact hev.elim
        | true => rw [hs] at hev; exact slice_bor p hop hl hk hx hs hev
      · rename_i id v hx
        exact slice_top p hop hl hk hx hev
      · rename_i id path v _ hx
        exact slice_ref p hop hl hk hx hev
      · exact hev.elim
    · exact hev.elim

theorem args_one {k : Call} {v : AV} (h : k.args.toList.map (evalO e) = [v]) : ∃ x, k.args = #[x] ∧ evalO e x = v := by
  obtain ⟨l⟩ : ∃ l, k.args.toList = l := ⟨_, rfl⟩
  match hl : k.args.toList with
  | [] => rw [hl] at h; cases h
  | [x] =>
    rw [hl] at h
    simp only [List.map_cons, List.map_nil, List.cons.injEq, and_true] at h
    exact ⟨x, by rw [← Array.toArray_toList (xs := k.args), hl], h⟩
  | _ :: _ :: _ => rw [hl] at h; simp at h
theorem args_two {k : Call} {v u : AV} (h : k.args.toList.map (evalO e) = [v, u]) : ∃ x y, k.args = #[x, y] ∧ evalO e x = v ∧ evalO e y = u := by
  match hl : k.args.toList with
  | [] => rw [hl] at h; cases h
  | [x] => rw [hl] at h; simp at h
  | [x, y] =>
    rw [hl] at h
    simp only [List.map_cons, List.map_nil, List.cons.injEq, and_true] at h
    exact ⟨x, y, by rw [← Array.toArray_toList (xs := k.args), hl], h.1, h.2⟩
  | _ :: _ :: _ :: _ => rw [hl] at h; simp at h

theorem ev_call (p : Pre tb B G e h a w nb) {k : Call} (hop : o.op = .call k)
    (hev : (opEval tb e nb o.type o.op).Has h (av, z) h') : OpOk B G a w o nb av z h' := by
  rw [hop] at hev
  unfold opEval at hev
  simp only at hev
  unfold evCall at hev
  simp only at hev
  split at hev
  · rename_i hc
    split at hev
    · rename_i b t ts hvs hts
      obtain ⟨x, ha, hx⟩ := args_one hvs
      cases hs : isStrT tb t with
      | false => rw [hs] at hev; exact hev.elim
      | true => rw [hs] at hev; exact len_str p hop hc ha hts hs hx hev
    · rename_i q t ts hvs hts
      obtain ⟨x, ha, hx⟩ := args_one hvs
      cases hs : (isSlT0 tb t || isNlT tb t) with
      | false => rw [hs] at hev; exact hev.elim
      | true =>
        rw [hs] at hev
        have hv := evalO_rel p.env x
        rw [hx] at hv
        exact len_sl p hop hc ha hts hs hv (by simp) hev
    · rename_i t ts hvs hts
      obtain ⟨x, ha, hx⟩ := args_one hvs
      cases hs : (isSlT0 tb t || isNlT tb t) with
      | false => rw [hs] at hev; exact hev.elim
      | true =>
        rw [hs] at hev
        have hv := evalO_rel p.env x
        rw [hx] at hv
        obtain ⟨b, hv⟩ := hv
        exact len_sl p hop hc ha hts hs hv (by simp) hev
    · rename_i tk q rows t ts hvs hts
      obtain ⟨x, ha, hx⟩ := args_one hvs
      cases hs : isSlT0 tb t with
      | false => rw [hs] at hev; exact hev.elim
      | true =>
        rw [hs] at hev
        have hv := evalO_rel p.env x
        rw [hx] at hv
        obtain ⟨b, c, hu⟩ := bor_val (G := G) hv
        exact len_sl p hop hc ha hts (by rw [hs]; rfl) hu rfl hev
    · rename_i id path v t ts hvs hts
      obtain ⟨x, ha, hx⟩ := args_one hvs
      cases hs : isSlT0 tb t with
      | false => rw [hs] at hev; exact hev.elim
      | true =>
        rw [hs] at hev
        have hv := evalO_rel p.env x
        rw [hx] at hv
        simp only [cond_true] at hev
        obtain ⟨y, h1, hn, hev2⟩ := (DH.has_andThen _ _ _ _ _).1 hev
        clear hev
        obtain ⟨rfl, r, rows, ho, hg⟩ := navD_has hn
        obtain ⟨b, n, c, hu, hlen⟩ := ref_val p.sim hv ho hg
        exact len_sl p hop hc ha hts (by rw [hs]; rfl) hu hlen.symm hev2
    · exact hev.elim
  · rename_i hc
    split at hev
    · rename_i u v t t' hvs hts
      obtain ⟨x, y, ha, hx, hy⟩ := args_two hvs
      cases hn : (isNlT tb t && (Nat.beq t t' && (isNE u && isNS v))) with
      | true =>
        rw [hn] at hev
        simp only [Bool.and_eq_true] at hn
        have := Nat.eq_of_beq_eq_true hn.2.1
        subst this
        subst hx; subst hy
        exact op_appendN p hop hc ha (by rw [← Array.toArray_toList (xs := k.argTypes), hts]) hn.1 hn.2.2.1 hn.2.2.2 hev
      | false =>
      rw [hn] at hev
      simp only [cond_false] at hev
      cases hs : (isSlT0 tb t && Nat.beq t t') with
      | false => rw [hs] at hev; exact hev.elim
      | true =>
        rw [hs] at hev
        simp only [Bool.and_eq_true] at hs
        have := Nat.eq_of_beq_eq_true hs.2
        subst this
        subst hx; subst hy
        exact op_append p hop hc ha (by rw [← Array.toArray_toList (xs := k.argTypes), hts]) hs.1 hev
    · exact hev.elim
  · rename_i hc
    split at hev
    · rename_i kd i kd' j hvs
      obtain ⟨x, y, ha, hx, hy⟩ := args_two hvs
      cases hs : IntKind.same kd kd' with
      | false => rw [hs] at hev; exact hev.elim
      | true => rw [hs] at hev; exact op_min p hop hc ha hx hy hs hev
    · exact hev.elim
  · exact hev.elim
theorem opEval_sound (p : Pre tb B G e h a w nb) (hev : (opEval tb e nb o.type o.op).Has h (av, z) h') : OpOk B G a w o nb av z h' := by
  cases hop : o.op with
  | slice t x lo hi mx => exact ev_slice p hop hev
  | call k => exact ev_call p hop hev
  | move x => rw [hop] at hev; exact op_move p (.inl hop) hev
  | assign x => rw [hop] at hev; exact op_move p (.inr hop) hev
  | pick x y z =>
    rw [hop] at hev; unfold opEval at hev; simp only at hev
    split at hev
    · rename_i t hx; exact op_pick p hop hx hev
    · exact hev.elim
  | alloc t =>
    rw [hop] at hev; unfold opEval at hev; simp only at hev
    split at hev
    · exact hev.elim
    · rename_i cs hcs; exact op_alloc p hop hcs hev
  | box t x =>
    rw [hop] at hev; unfold opEval at hev; simp only at hev
    cases hb : (Nat.beq (evalO e x).flat.length (tyOf tb t).cells.length && Nat.ble 1 (evalO e x).flat.length && (evalO e x).flat.all AV.okS) with
    | false => rw [hb] at hev; exact hev.elim
    | true => rw [hb] at hev; exact op_box p hop hb hev
  | build t parts =>
    rw [hop] at hev; unfold opEval at hev; simp only at hev
    cases hb : ((tyOf tb t).agg && !(tyOf tb t).cells.isEmpty) with
    | false => rw [hb] at hev; exact hev.elim
    | true =>
      rw [hb] at hev
      simp only [cond_true] at hev
      simp only [Bool.and_eq_true, Bool.not_eq_true', List.isEmpty_eq_false_iff] at hb
      split at hev
      · rename_i cs hcs; exact op_build p hop hb.1 hb.2 hcs hev
      · exact hev.elim
  | buildSlice t n parts =>
    rw [hop] at hev; unfold opEval at hev; simp only at hev
    cases hn : (isNlT tb t && (Nat.beq n 0 && parts.toList.isEmpty)) with
    | true => rw [hn] at hev; exact op_buildN p hop hn hev
    | false =>
    rw [hn] at hev
    simp only [cond_false] at hev
    split at hev
    · rename_i q hq
      cases hb : (isSlT tb t q && (Nat.ble (n * q.size) 16777216 && (onceP parts.toList && (parts.toList.all fun p => Nat.blt p.1 n)))) with
      | false => rw [hb] at hev; exact hev.elim
      | true => rw [hb] at hev; exact op_buildSlice p hop hq hb hev
    · exact hev.elim
  | load t x => rw [hop] at hev; exact op_load p hop hev
  | store t x y =>
    rw [hop] at hev; unfold opEval at hev; simp only at hev
    cases hb : (Nat.beq (evalO e y).flat.length (tyOf tb t).cells.length && (Nat.ble 1 (evalO e y).flat.length && (evalO e y).flat.all AV.okS)) with
    | false => rw [hb] at hev; exact hev.elim
    | true => rw [hb] at hev; exact op_store p hop hb hev
  | nilCheck x =>
    rw [hop] at hev; unfold opEval at hev; simp only at hev
    split at hev
    · rename_i id off hx; rw [← hx] at hev; exact op_nilCheck p hop (.inl ⟨_, _, hx⟩) hev
    · rename_i id q i j hx; rw [← hx] at hev; exact op_nilCheck p hop (.inr (.inl ⟨_, _, _, _, hx⟩)) hev
    · rename_i f cs hx; rw [← hx] at hev; exact op_nilCheck p hop (.inr (.inr ⟨_, _, hx⟩)) hev
    · exact hev.elim
  | binOp op t x y yt => rw [hop] at hev; exact op_bin p hop hev
  | unOp op t x =>
    rw [hop] at hev; unfold opEval at hev; simp only at hev
    split at hev
    · rename_i k n hx; exact op_neg p hop hx hev
    · rename_i b hx; exact op_not p hop hx hev
    · exact hev.elim
  | convert s d x =>
    rw [hop] at hev; unfold opEval at hev; simp only at hev
    split at hev
    · rename_i k' k k'' n h1 h2 hx; exact convI p hop h1 h2 hx hev
    · rename_i b h1 h2 hx; exact convS p hop h1 h2 hx hev
    · rename_i h1 h2
      split at hev
      · rename_i h3; exact op_bytes p hop h1 h2 h3 hev
      · exact hev.elim
    · exact hev.elim
  | makeFunc f first cap =>
    rw [hop] at hev
    cases f with
    | func f =>
      unfold opEval at hev; simp only at hev
      cases hb : (first.isEmpty && (cap.toList.map (evalO e)).all AV.isS) with
      | false => rw [hb] at hev; exact hev.elim
      | true => rw [hb] at hev; exact op_makeFunc p hop hb hev
    | _ => exact hev.elim
  | makeSlice t x y =>
    rw [hop] at hev; unfold opEval at hev; simp only at hev
    split at hev
    · rename_i n m hx hy
      split at hev
      · rename_i q hq
        cases hb : (isSlT tb t q && sameOp x y) with
        | false => rw [hb] at hev; exact hev.elim
        | true => rw [hb] at hev; exact op_make p hop hx hy hq hb hev
      · exact hev.elim
    · exact hev.elim
  | fieldAddr t x f =>
    rw [hop] at hev; unfold opEval at hev; simp only at hev
    cases hb : (!(tyOf tb t).agg || (tyOf tb t).cells.isEmpty) with
    | true => rw [hb] at hev; exact hev.elim
    | false =>
      rw [hb] at hev
      simp only [cond_false] at hev
      split at hev
      · rename_i off u hf
        split at hev
        · rename_i id j hx; exact op_fieldAddr p hop hb hf (.inl ⟨_, _, hx, rfl⟩) hev
        · rename_i id q i j hx; exact op_fieldAddr p hop hb hf (.inr (.inr ⟨_, _, _, _, hx, rfl⟩)) hev
        · rename_i q row j hx; exact op_fieldAddr p hop hb hf (.inr (.inl ⟨_, _, _, hx, rfl⟩)) hev
        · exact hev.elim
      · exact hev.elim
  | field t x f =>
    rw [hop] at hev; unfold opEval at hev; simp only at hev
    cases hb : (!(tyOf tb t).agg || (tyOf tb t).cells.isEmpty) with
    | true => rw [hb] at hev; exact hev.elim
    | false =>
      rw [hb] at hev
      simp only [cond_false] at hev
      split at hev
      · rename_i off u hf
        split at hev
        · rename_i cs hx
          cases hl : (Nat.beq ((cs.drop off).take (tyOf tb u).cells.length).length (tyOf tb u).cells.length && Nat.ble 1 ((cs.drop off).take (tyOf tb u).cells.length).length) with
          | false => rw [hl] at hev; exact hev.elim
          | true => rw [hl] at hev; exact op_field p hop hb hf hx hl hev
        · exact hev.elim
      · exact hev.elim
  | indexAddr t x ix =>
    rw [hop] at hev; unfold opEval at hev; simp only at hev
    split at hev
    · rename_i k i hi
      split at hev
      · rename_i tk q rows hx
        cases hs : isSlT tb t q with
        | false => rw [hs] at hev; exact hev.elim
        | true => rw [hs] at hev; exact op_indexAddrB p hop hx hi hs hev
      · rename_i id path v hx; exact op_indexAddrR p hop hx hi hev
      · exact hev.elim
    · exact hev.elim
  | index t x ix =>
    rw [hop] at hev; unfold opEval at hev; simp only at hev
    split at hev
    · rename_i b k i hx hi
      cases hs : isStrT tb t with
      | false => rw [hs] at hev; exact hev.elim
      | true => rw [hs] at hev; exact op_index p hop hx hi hs hev
    · exact hev.elim
  | extract x n =>
    rw [hop] at hev; unfold opEval at hev; simp only at hev
    split at hev
    · rename_i vs hx
      split at hev
      · rename_i v hn; exact op_extract p hop hx hn hev
      · exact hev.elim
    · exact hev.elim
  | _ => rw [hop] at hev; exact hev.elim
end
end Go.Abs

