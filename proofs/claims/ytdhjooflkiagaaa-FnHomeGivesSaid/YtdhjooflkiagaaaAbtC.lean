import Derived.Test.YtdhjooflkiagaaaAbtB
import Derived.Orders
import Derived.Scope
import Derived.ChangeArms
import Derived.ChangeOld
import Derived.DataReads
import Derived.WideShapes
import Derived.Carry
import Derived.Below
namespace Go.Abs
set_option linter.unusedSimpArgs false
set_option linter.unusedVariables false
open Go.RowKit

/-! ### relations for calls -/
def VRelF (B : Base) (G : Gh) : List AV → List Value → Prop
  | [], [] => True
  | a :: as, v :: vs => VRel B G a v ∧ VRelF B G as vs
  | _, _ => False
theorem VRelF.append {B : Base} {G : Gh} : ∀ {as bs : List AV} {us vs : List Value}, VRelF B G as us → VRelF B G bs vs → VRelF B G (as ++ bs) (us ++ vs)
  | [], bs, us, vs, h, h' => by
    cases us with
    | nil => exact h'
    | cons u us => exact h.elim
  | a :: as, bs, us, vs, h, h' => by
    cases us with
    | nil => exact h.elim
    | cons u us => exact ⟨h.1, h.2.append h'⟩
theorem VRelF.map {B : Base} {G : Gh} {e : Env} {a : Act} (h : EnvR B G e a) : ∀ xs : List Operand, VRelF B G (xs.map (evalO e)) (xs.map a.eval)
  | [] => trivial
  | x :: xs => ⟨evalO_rel h x, VRelF.map h xs⟩
theorem VRelF.ofL {B : Base} {G : Gh} : ∀ {as : List AV} {us : List Value}, VRelL B G as us → VRelF B G as us
  | [], us, h => by
    cases us with
    | nil => trivial
    | cons u us => exact h.elim
  | a :: as, us, h => by
    cases us with
    | nil => exact h.elim
    | cons u us =>
      refine ⟨?_, VRelF.ofL h.2⟩
      cases a <;> first | exact h.1 | exact h.1.elim

structure Enters (P : Program) (f : FuncId) : Prop where
  run : ∀ args w, (callFunc f args).run P w = .ok (.enter f args) w
theorem Enters.of {P : Program} {f : FuncId} {fn : Func} (hf : P.funcs[f]? = some fn) (hn : (fn.name == "runtime.NumGoroutine") = false) (hb : fn.body.isNone = false) : Enters P f := by
  refine ⟨fun args w => ?_⟩
  have h1 : ¬ fn.name = "runtime.NumGoroutine" := by simpa using hn
  have h2 : ¬ fn.body = none := by
    intro e; rw [e] at hb; cases hb
  simp [callFunc, hf, h1, h2]

def Ret (R : Value → World → Prop) : Ending → World → Prop
  | .returned u, w => R u w
  | _, _ => False
/-- A contract, as a call uses it. -/
structure ConS (P : Program) (f : Nat) (k : Con) : Prop where
  enters : Enters P f
  calls : ∀ (B : Base) (G : Gh) (h : Heap) (w : World) (nb : Nat) (vs : List AV) (us : List Value) (av : AV) (z : List Pl) (h' : Heap), B.P = P → Sim B G h w → VRelF B G vs us →
    (∀ id, nb ≤ id → id < nb + 16 → G id = none) → (callCon nb k vs).Has h (av, z) h' → Calls P f us.toArray w (Ret fun u w' => Post B G nb av z h' u w')
structure PtrS (P : Program) (f : Nat) (tab : List (Int × Nat)) (z : Nat) : Prop where
  enters : Enters P f
  calls : ∀ (id : Nat) (l : Int) (v : AV), (pickP id l tab z).Has v → ∃ off, v = .ptr id off ∧ ∀ b w, Calls P f #[.pointer (some ⟨b, 0, none⟩), .int .u8 l] w (Ret fun u w' => u = .pointer (some ⟨b, off, none⟩) ∧ Turn w w' [])
structure InlR (B : Base) (G : Gh) (n : Nat) (s' : St) (v : AV) (u : Value) (w' : World) (G' : Gh) : Prop where
  sim : Sim B G' s'.heap w'
  rel : VRel B G' v u
  free : ∀ id, s'.next ≤ id → G' id = none
  same : ∀ id, id < n → G' id = G id
  le : n ≤ s'.next
structure InlS (B : Base) (inl : Inl) : Prop where
  env : ∀ g vs s v s', (inl g vs s).Has (v, s') → s'.env = s.env ∧ Enters B.P g
  calls : ∀ g vs s v s', (inl g vs s).Has (v, s') → ∀ (G : Gh) (w : World) (us : List Value), VRelF B G vs us → Sim B G s.heap w → (∀ id, s.next ≤ id → G id = none) →
    Calls B.P g us.toArray w (Ret fun u w' => ∃ G', InlR B G s.next s' v u w' G')

/-! ### a frame's state -/
structure FrS (B : Base) (G : Gh) (fr : Nat → Prop) (s : St) (a : Act) (w : World) (nt : Nat) : Prop where
  sim : Sim B G s.heap w
  env : EnvR B G s.env a
  defers : a.defers = []
  size : a.tmps.size = nt
  free : ∀ id, fr id → G id = none
structure CtxS (B : Base) (c : Ctx) (inl : Inl) : Prop where
  mix : B.P.follows .mixedOrders = true
  ty : tyCheck B.P c.tb = true
  cons : ∀ f k, conOf c.cons f = some k → ConS B.P f k
  ptrs : ∀ f tab z, ptrOf c.ptrs f = some (tab, z) → PtrS B.P f tab z
  inl : InlS B inl
/-- It names an object, not what lies in it. -/
def AV.top : AV → Bool
  | .ref _ [] _ => true
  | .eptr _ [] _ _ => true
  | .ptr _ _ => true
  | _ => false
theorem top_deep {x : AV} (h : x.top = true) (i : Pl) : x.deepS i = false := by
  cases x with
  | ref id p v => cases p <;> first | rfl | cases h
  | eptr id p j c => cases p <;> first | rfl | cases h
  | ptr id o => rfl
  | _ => cases h
/-- What an operation leaves of the ghosts. -/
structure Lo (B : Base) (inl : Bool) (nb nx : Nat) (G G' : Gh) : Prop where
  vis : ∀ x u, AV.top x = true → VRelS B G x u → VRelS B G' x u
  same : inl = true → ∀ id, id < nx → ¬(nb ≤ id ∧ id < nb + 16) → G' id = G id

/-! ### purged environments -/
def purgeEs : List Pl → Env → Env
  | [], e => e
  | i :: is, e => purgeEs is (purgeE i e)
theorem purgeS_env : ∀ (ids : List Pl) (s : St), (purgeS ids s).env = purgeEs ids s.env
  | [], s => rfl
  | i :: is, s => by simp only [purgeS, purgeEs]; rw [purgeS_env is]
theorem getE_purgeE (i : Pl) : ∀ (e : Env) (t : Nat), getE (purgeE i e) t = purgeV i (getE e t)
  | [], t => rfl
  | (s, v) :: r, t => by
    simp only [purgeE, getE]
    cases Nat.beq s t with
    | true => rfl
    | false => exact getE_purgeE i r t
theorem VRelL.moveTo {B : Base} {G G' : Gh} {z : List Pl} (h : ∀ x u, (∀ i ∈ z, AV.deepS i x = false) → VRelS B G x u → VRelS B G' x u) :
    ∀ {cs : List AV} {vs : List Value}, (∀ i ∈ z, cs.any (AV.deepS i) = false) → VRelL B G cs vs → VRelL B G' cs vs
  | [], vs, _, hv => by cases vs with | nil => trivial | cons v vs => exact hv.elim
  | c :: cs, vs, hd, hv => by
    cases vs with
    | nil => exact hv.elim
    | cons v vs =>
      simp only [List.any_cons, Bool.or_eq_false_iff] at hd
      exact ⟨h c v (fun i hi => (hd i hi).1) hv.1, VRelL.moveTo h (fun i hi => (hd i hi).2) hv.2⟩
theorem VRelA.moveTo {B : Base} {G G' : Gh} {z : List Pl} (h : ∀ x u, (∀ i ∈ z, AV.deepS i x = false) → VRelS B G x u → VRelS B G' x u)
    {a : AV} {v : Value} (hd : ∀ i ∈ z, a.deepA i = false) (hv : VRelA B G a v) : VRelA B G' a v := by
  cases a with
  | agg cs => obtain ⟨vs, e, x⟩ := hv; exact ⟨vs, e, x.moveTo h hd⟩
  | func f cs => obtain ⟨vs, e, x⟩ := hv; exact ⟨vs, e, x.moveTo h hd⟩
  | tup cs => exact hv.elim
  | _ => rw [VRelA_S rfl] at hv ⊢; exact h _ _ hd hv
theorem VRelAs.moveTo {B : Base} {G G' : Gh} {z : List Pl} (h : ∀ x u, (∀ i ∈ z, AV.deepS i x = false) → VRelS B G x u → VRelS B G' x u) :
    ∀ {cs : List AV} {vs : List Value}, (∀ i ∈ z, cs.any (AV.deepA i) = false) → VRelAs B G cs vs → VRelAs B G' cs vs
  | [], vs, _, hv => by cases vs with | nil => trivial | cons v vs => exact hv.elim
  | c :: cs, vs, hd, hv => by
    cases vs with
    | nil => exact hv.elim
    | cons v vs =>
      simp only [List.any_cons, Bool.or_eq_false_iff] at hd
      exact ⟨hv.1.moveTo h fun i hi => (hd i hi).1, VRelAs.moveTo h (fun i hi => (hd i hi).2) hv.2⟩
theorem VRel.moveTo {B : Base} {G G' : Gh} {z : List Pl} (h : ∀ x u, (∀ i ∈ z, AV.deepS i x = false) → VRelS B G x u → VRelS B G' x u)
    {a : AV} {v : Value} (hd : ∀ i ∈ z, a.deep i = false) (hv : VRel B G a v) : VRel B G' a v := by
  cases a with
  | tup cs => obtain ⟨vs, e, x⟩ := hv; exact ⟨vs, e, x.moveTo h hd⟩
  | _ => rw [VRel_A rfl] at hv ⊢; exact hv.moveTo h hd
theorem purgeEs_get : ∀ (z : List Pl) (e : Env) (t : Nat), getE (purgeEs z e) t = .undef ∨ (getE (purgeEs z e) t = getE e t ∧ ∀ i ∈ z, (getE e t).deep i = false)
  | [], e, t => .inr ⟨rfl, fun i hi => by cases hi⟩
  | i :: is, e, t => by
    simp only [purgeEs]
    have h0 := getE_purgeE i e t
    rcases purgeEs_get is (purgeE i e) t with h | ⟨h, hd⟩
    · exact .inl h
    · rw [h, h0]
      unfold purgeV at *
      cases hi : (getE e t).deep i with
      | true => simp
      | false =>
        rw [hi] at h0
        simp only [cond_false] at h0 ⊢
        rw [h0] at hd
        exact .inr ⟨trivial, fun j hj => by rcases List.mem_cons.1 hj with rfl | hj <;> first | exact hi | exact hd j hj⟩
theorem EnvR.purge {B : Base} {G G' : Gh} {z : List Pl} {e : Env} {a : Act} (h : ∀ x u, (∀ i ∈ z, AV.deepS i x = false) → VRelS B G x u → VRelS B G' x u) (x : EnvR B G e a) : EnvR B G' (purgeEs z e) a := by
  refine ⟨fun t => ?_⟩
  rcases purgeEs_get z e t with h1 | ⟨h1, h2⟩
  · rw [h1]; trivial
  · rw [h1]; exact (x.rel t).moveTo h h2
theorem EnvR.put {B : Base} {G : Gh} {e : Env} {a : Act} (x : EnvR B G e a) {d : Option Tmp} (hd : ∀ t, d = some t → t < a.tmps.size) {v : AV} {u : Value} (hv : VRel B G v u) (s : St) (hs : s.env = e) : EnvR B G (putR s d v).env (a.put d u) := by
  cases d with
  | none => rw [show (putR s none v).env = e from hs]; exact x
  | some t =>
    have ht := hd t rfl
    refine ⟨fun t' => ?_⟩
    simp only [putR, Act.put, getE_putE, hs]
    by_cases e1 : t = t'
    · subst e1
      simp [ht]
      exact hv
    · rw [if_neg e1]
      have : (a.tmps.setIfInBounds t u).getD t' undef = a.tmps.getD t' undef := by
        simp [Array.getElem?_setIfInBounds_ne e1]
      rw [this]; exact x.rel t'
theorem putR_heap (s : St) (d : Option Nat) (v : AV) : (putR s d v).heap = s.heap := by cases d <;> rfl
theorem putR_next (s : St) (d : Option Nat) (v : AV) : (putR s d v).next = s.next := by cases d <;> rfl
theorem put_defers (a : Act) (d : Option Tmp) (u : Value) : (a.put d u).defers = a.defers := by cases d <;> rfl
theorem put_size (a : Act) (d : Option Tmp) (u : Value) : (a.put d u).tmps.size = a.tmps.size := by cases d <;> simp [Act.put]
theorem FrS.put {B : Base} {G : Gh} {fr : Nat → Prop} {s : St} {a : Act} {w : World} {nt : Nat} (x : FrS B G fr s a w nt) {d : Option Tmp} (hd : ∀ t, d = some t → t < nt) {v : AV} {u : Value} (hv : VRel B G v u) : FrS B G fr (putR s d v) (a.put d u) w nt :=
  ⟨by rw [putR_heap]; exact x.sim, x.env.put (fun t ht => by rw [x.size]; exact hd t ht) hv s rfl, by rw [put_defers]; exact x.defers, by rw [put_size]; exact x.size, x.free⟩
theorem EnvR.fill {B : Base} {G : Gh} {e : Env} {a : Act} (x : EnvR B G e a) {t : Nat} {v : AV} (hv : getE e t = v) : EnvR B G (putE e t v) a := by
  refine ⟨fun t' => ?_⟩
  rw [getE_putE]
  by_cases h : t = t'
  · subst h; rw [if_pos rfl, ← hv]; exact x.rel t
  · rw [if_neg h]; exact x.rel t'

/-! ### one operation -/
section
variable {B : Base} {c : Ctx} {inl : Inl} {G : Gh} {fr : Nat → Prop} {s s' : St} {a : Act} {w : World} {nt nb : Nat} {o : Oper} {v : AV} {l : Option Log}

structure After (B : Base) (G : Gh) (fr : Nat → Prop) (s s' : St) (a : Act) (nt nb : Nat) (il : Bool) (v : AV) (u : Value) (w' : World) (G' : Gh) : Prop where
  st : FrS B G' (fun id => fr id ∧ ¬(nb ≤ id ∧ id < nb + 16) ∧ ¬(s.next ≤ id ∧ id < s'.next)) s' a w' nt
  rel : VRel B G' v u
  lo : Lo B il nb s.next G G'

theorem after_post (hs : FrS B G fr s a w nt) (hnx : nb + 16 ≤ s.next) {z : List Pl} {h' : Heap} {w' : World} {u : Value} {il : Bool}
    (hp : Post B G nb v z h' u w') (hil : il = true → z = []) (he : s'.env = purgeEs z s.env) (hh : s'.heap = purgeHs z h') (hn : s'.next = s.next) : ∃ G', After B G fr s s' a nt nb il v u w' G' := by
  obtain ⟨G', sim, hv, hm, hfr, hle⟩ := hp.out
  refine ⟨G', ⟨by rw [hh]; exact sim, by rw [he]; exact hs.env.purge hm, hs.defers, hs.size, fun id ⟨h1, h2, _⟩ => hfr id (hs.free id h1) (by omega)⟩, hv, ⟨fun x u ht h => hm x u (fun i _ => top_deep ht i) h, fun hi id hlt hne => ?_⟩⟩
  cases hg : G id with
  | none => exact hfr id hg (by omega)
  | some go => exact hle (hil hi) id go hg

theorem callee_run (hs : FrS B G fr s a w nt) {g : Nat} {vs : List AV} (hc : calleeOf s.env o.op = some (g, vs)) (he : Enters B.P g) :
    ∃ us : List Value, (execOp a.eval o).run B.P w = .ok (.enter g us.toArray) w ∧ VRelF B G vs us := by
  unfold calleeOf at hc
  split at hc
  · rename_i k hop
    split at hc
    · rename_i f hk
      split at hc
      · rename_i g' cs hf
        simp only [Option.some.injEq, Prod.mk.injEq] at hc
        obtain ⟨rfl, rfl⟩ := hc
        have hv := evalO_rel hs.env f
        rw [hf] at hv
        obtain ⟨ws, hw, hr⟩ := hv
        refine ⟨k.args.toList.map a.eval ++ ws, ?_, (VRelF.map hs.env _).append (.ofL hr)⟩
        have : (execOp a.eval o) = callFunc g' (#[] ++ k.args.map a.eval ++ ws.toArray) := by
          simp only [execOp, hop, resolve, hk, hw, Deferred.ofValue]
          rfl
        rw [this, he.run]
        congr 2
        apply Array.ext'
        simp
      · cases hc
    · cases hc
  · cases hc

theorem upon_ret {K : Act → World → Prop} {Q : Exit → Act → World → Prop} {g : Nat} {us : Array Value} {R : Value → World → Prop}
    (hr : (execOp a.eval o).run B.P w = .ok (.enter g us) w) (hc : Calls B.P g us w (Ret R)) (hk : ∀ u w', R u w' → K (a.put o.dst u) w') : o.wp B.P a w K Q := by
  unfold Oper.wp
  rw [hr, Oper.upon_enter]
  refine hc.mono fun e w' h => ?_
  cases e with
  | returned u => exact hk u w' h
  | panicked c => exact h.elim
  | outgrown => exact h.elim

theorem local_sound (hs : FrS B G fr s a w nt) (hnx : nb + 16 ≤ s.next) {d : DH (AV × List Pl)}
    (hev : (((d.go s.heap log0).andThen fun (v, h, l) => match v.2 with
      | [] => .ret (v.1, { s with heap := h }, some l)
      | ids => bif c.inl then .fail else .ret (v.1, purgeS ids { s with heap := h }, none)) : D (AV × St × Option Log)).Has (v, s', l)) :
    ∃ z h', d.Has s.heap (v, z) h' ∧ s'.next = s.next ∧ ∀ u w', Post B G nb v z h' u w' → ∃ G', After B G fr s s' a nt nb c.inl v u w' G' := by
  obtain ⟨⟨⟨v1, z⟩, h', l'⟩, h1, h2⟩ := (D.has_andThen _ _ _).1 hev
  have hd := DH.has_of_go _ _ _ _ _ _ h1
  cases z with
  | nil =>
    simp only [D.Has, Prod.mk.injEq] at h2
    obtain ⟨rfl, rfl, rfl⟩ := h2
    exact ⟨[], h', hd, rfl, fun u w' hp => after_post hs hnx hp (fun _ => rfl) rfl rfl rfl⟩
  | cons i is =>
    cases hil : c.inl with
    | true => simp only [hil, cond_true] at h2; exact h2.elim
    | false =>
      simp only [hil, cond_false, D.Has, Prod.mk.injEq] at h2
      obtain ⟨rfl, rfl, rfl⟩ := h2
      refine ⟨i :: is, h', hd, purgeS_next _ _, fun u w' hp => ?_⟩
      have := after_post (il := false) (s' := purgeS (i :: is) { s with heap := h' }) hs hnx hp (fun h => by cases h) (purgeS_env _ _) (purgeS_heap _ _) (purgeS_next _ _)
      exact this

theorem oneOp_sound (hc : CtxS B c inl) (hs : FrS B G fr s a w nt) (hnb : ∀ id, nb ≤ id → id < nb + 16 → fr id) (hnf : ∀ id, s.next ≤ id → fr id) (hnx : nb + 16 ≤ s.next)
    (hev : (oneOp c inl s nb o).Has (v, s', l)) {K : Act → World → Prop} {Q : Exit → Act → World → Prop}
    (hK : ∀ u w' G', After B G fr s s' a nt nb c.inl v u w' G' → K (a.put o.dst u) w') : o.wp B.P a w K Q ∧ s.next ≤ s'.next := by
  unfold oneOp at hev
  simp only at hev
  split at hev
  · rename_i g vs hcal
    split at hev
    · rename_i k hk
      obtain ⟨z, h', hd, hn, hp⟩ := local_sound hs hnx hev
      have hcon := hc.cons g k hk
      obtain ⟨us, hr, hvs⟩ := callee_run hs hcal hcon.enters
      refine ⟨upon_ret hr (hcon.calls B G s.heap w nb vs us v z h' rfl hs.sim hvs (fun id h1 h2 => hs.free id (hnb id h1 h2)) hd) fun u w' h => ?_, by rw [hn]; exact Nat.le_refl _⟩
      obtain ⟨G', ha⟩ := hp u w' h
      exact hK u w' G' ha
    · split at hev
      · rename_i tab z hp
        split at hev
        · rename_i id lv
          obtain ⟨v1, h1, h2⟩ := (D.has_andThen _ _ _).1 hev
          simp only [D.Has, Prod.mk.injEq] at h2
          obtain ⟨rfl, rfl, rfl⟩ := h2
          have hcon := hc.ptrs g tab z hp
          obtain ⟨us, hr, hvs⟩ := callee_run hs hcal hcon.enters
          obtain ⟨off, rfl, hcalls⟩ := hcon.calls _ _ _ h1
          match us, hvs with
          | [u0, u1], hvs =>
            obtain ⟨⟨b, hg, rfl⟩, rfl, _⟩ := hvs
            refine ⟨upon_ret hr (hcalls b w) fun u w' ⟨e1, e2⟩ => ?_, Nat.le_refl _⟩
            subst e1
            exact hK _ _ G ⟨⟨hs.sim.grow e2, hs.env, hs.defers, hs.size, fun id h => hs.free id h.1⟩, ⟨b, hg, rfl⟩, ⟨fun _ _ _ h => h, fun _ _ _ _ => rfl⟩⟩
          | [], hvs => exact hvs.elim
          | [u0], hvs => exact hvs.2.elim
          | u0 :: u1 :: u2 :: us, hvs => exact hvs.2.2.elim
        · exact hev.elim
      · obtain ⟨⟨v1, s1⟩, h1, h2⟩ := (D.has_andThen _ _ _).1 hev
        simp only [D.Has, Prod.mk.injEq] at h2
        obtain ⟨rfl, rfl, rfl⟩ := h2
        obtain ⟨he, hen⟩ := hc.inl.env _ _ _ _ _ h1
        obtain ⟨us, hr, hvs⟩ := callee_run hs hcal hen
        have hn : s.next ≤ s1.next := by
          obtain ⟨e, w', f0, hR, _⟩ := hc.inl.calls _ _ _ _ _ h1 G w us hvs hs.sim (fun id h => hs.free id (hnf id h)) []
          cases e with
          | returned u => obtain ⟨G', hi⟩ := hR; exact hi.le
          | panicked ch => exact hR.elim
          | outgrown => exact hR.elim
        refine ⟨upon_ret hr (hc.inl.calls _ _ _ _ _ h1 G w us hvs hs.sim fun id h => hs.free id (hnf id h)) fun u w' ⟨G', ⟨i1, i2, i3, i4, _⟩⟩ => ?_, hn⟩
        have hsame : ∀ id go, G id = some go → G' id = some go := by
          intro id go hg
          rcases Nat.lt_or_ge id s.next with h | h
          · rw [i4 id h]; exact hg
          · rw [hs.free id (hnf id h)] at hg; cases hg
        have hle := Gh.le_of_same hsame
        refine hK u w' G' ⟨⟨i1, by rw [he]; exact ⟨fun t => (hs.env.rel t).mono hle⟩, hs.defers, hs.size, fun id ⟨hf, h2, h3⟩ => ?_⟩, i2, ⟨fun x u _ h => h.mono hle, fun _ id hlt _ => i4 id hlt⟩⟩
        rcases Nat.lt_or_ge id s.next with h | h
        · rw [i4 id h]; exact hs.free id hf
        · exact i3 id (by omega)
  · rename_i hcal
    obtain ⟨z, h', hd, hn, hp⟩ := local_sound hs hnx hev
    have pre : Pre c.tb B G s.env s.heap a w nb := ⟨hc.ty, hs.sim, hs.env, fun id h1 h2 => hs.free id (hnb id h1 h2)⟩
    obtain ⟨n, u, w', hr, hn', hpo⟩ := (opEval_sound pre hd).out
    obtain ⟨G', ha⟩ := hp u w' hpo
    refine ⟨?_, by rw [hn]; exact Nat.le_refl _⟩
    unfold Oper.wp
    rw [hr]
    rcases hn' with rfl | ⟨rfl, rfl⟩
    · rw [Oper.upon_value]; exact hK _ _ _ ha
    · rw [Oper.upon_skip]; exact hK _ _ _ ha
end
end Go.Abs

namespace Go.Abs
set_option linter.unusedSimpArgs false
set_option linter.unusedVariables false
open Go.RowKit

section
variable {B : Base} {c : Ctx} {inl : Inl} {G : Gh} {fr : Nat → Prop} {s s' : St} {a : Act} {w : World} {nt nb : Nat} {o : Oper} {v : AV} {l : Option Log}

/-- The state behind an operation with its guard. -/
structure Next (B : Base) (G : Gh) (fr : Nat → Prop) (n : Nat) (s' : St) (nt nb : Nat) (il : Bool) (a' : Act) (w' : World) (G' : Gh) : Prop where
  st : FrS B G' (fun id => fr id ∧ ¬(nb ≤ id ∧ id < nb + 16) ∧ ¬(n ≤ id ∧ id < s'.next)) s' a' w' nt
  lo : Lo B il nb n G G'

theorem undef_rel {B : Base} {G : Gh} : VRel B G (.tup []) undef := ⟨[], rfl, trivial⟩
theorem Lo.refl {B : Base} {il : Bool} {nb nx : Nat} {G : Gh} : Lo B il nb nx G G := ⟨fun _ _ _ h => h, fun _ _ _ _ => rfl⟩

theorem yes_sound {ops : Array Oper} {i : Nat} (hi : ops[i]? = some o) (hc : CtxS B c inl) (hs : FrS B G fr s a w nt) (hnb : ∀ id, nb ≤ id → id < nb + 16 → fr id) (hnf : ∀ id, s.next ≤ id → fr id) (hnx : nb + 16 ≤ s.next)
    (hd : ∀ t, o.dst = some t → t < nt) (hw : Region.wanted o (yielded ops a.tmps) = true)
    (hev : ((oneOp c inl s nb o).andThen fun (v, s', l) => .ret (putR s' o.dst v, l) : D (St × Option Log)).Has (s', l)) {K : Act → World → Prop} {Q : Exit → Act → World → Prop}
    (hK : ∀ a' w' G', Next B G fr s.next s' nt nb c.inl a' w' G' → K a' w') : wpOp B.P ops Q i K a w ∧ s.next ≤ s'.next := by
  obtain ⟨⟨v1, s1, l1⟩, h1, h2⟩ := (D.has_andThen _ _ _).1 hev
  simp only [D.Has, Prod.mk.injEq] at h2
  obtain ⟨rfl, rfl⟩ := h2
  have := oneOp_sound hc hs hnb hnf hnx h1 (K := K) (Q := Q) fun u w' G' ha => hK _ _ G' ⟨?_, ?_⟩
  · refine ⟨?_, by rw [putR_next]; exact this.2⟩
    unfold wpOp
    simp only [hi, hw, if_true]
    exact .inl this.1
  · have := ha.st.put hd ha.rel
    rw [putR_next]
    exact this
  · exact ha.lo

theorem no_sound {ops : Array Oper} {i : Nat} (hi : ops[i]? = some o) (hs : FrS B G fr s a w nt)
    (hd : ∀ t, o.dst = some t → t < nt) (hw : Region.wanted o (yielded ops a.tmps) = false)
    (hev : (.ret (putR s o.dst (.tup []), some log0) : D (St × Option Log)).Has (s', l)) {K : Act → World → Prop} {Q : Exit → Act → World → Prop}
    (hK : ∀ a' w' G', Next B G fr s.next s' nt nb c.inl a' w' G' → K a' w') : wpOp B.P ops Q i K a w ∧ s.next ≤ s'.next := by
  simp only [D.Has, Prod.mk.injEq] at hev
  obtain ⟨rfl, rfl⟩ := hev
  refine ⟨?_, by rw [putR_next]; exact Nat.le_refl _⟩
  unfold wpOp
  simp only [hi, hw]
  refine hK _ _ G ⟨?_, .refl⟩
  have := hs.put (d := o.dst) hd (undef_rel (B := B) (G := G))
  exact ⟨this.sim, this.env, this.defers, this.size, fun id h => this.free id h.1⟩

theorem FrS.fill (hs : FrS B G fr s a w nt) {t : Nat} {v : AV} (hv : getE s.env t = v) : FrS B G fr { s with env := putE s.env t v } a w nt :=
  ⟨hs.sim, hs.env.fill hv, hs.defers, hs.size, hs.free⟩

theorem yielded_bool {ops : Array Oper} {all : List Oper} (ha : ops.toList = all) (hs : FrS B G fr s a w nt) {j t : Nat} (hg : guardDst all j = some t) {b : Bool} (hb : getE s.env t = .bool b) : yielded ops a.tmps j = some b := by
  have hr := hs.env.rel t
  rw [hb] at hr
  have hr : a.tmps.getD t undef = .bool b := hr
  have ht : a.tmps[t]? = some (.bool b) := by
    rw [Array.getD_eq_getD_getElem?] at hr
    cases h : a.tmps[t]? with
    | none => rw [h] at hr; simp [undef] at hr
    | some x => rw [h] at hr; simp at hr; rw [hr]
  have hg' : (ops[j]?).bind (·.dst) = some t := by
    unfold guardDst at hg
    rw [← ha] at hg
    simpa using hg
  simp [yielded, hg', ht]
theorem yielded_none {ops : Array Oper} {all : List Oper} (ha : ops.toList = all) (hs : FrS B G fr s a w nt) {j t : Nat} (hg : guardDst all j = some t) (hb : getE s.env t = .tup []) : yielded ops a.tmps j = none := by
  have hr := hs.env.rel t
  rw [hb] at hr
  obtain ⟨vs, hr, hvs⟩ := hr
  have hg' : (ops[j]?).bind (·.dst) = some t := by
    unfold guardDst at hg
    rw [← ha] at hg
    simpa using hg
  simp only [yielded, hg', Option.bind_some]
  cases h : a.tmps[t]? with
  | none => rfl
  | some x =>
    have : a.tmps.getD t undef = x := by rw [Array.getD_eq_getD_getElem?, h]; rfl
    rw [this] at hr
    rw [hr]

theorem guarded_sound {ops : Array Oper} {i : Nat} (hi : ops[i]? = some o) {all : List Oper} (ha : ops.toList = all) (hc : CtxS B c inl) (hs : FrS B G fr s a w nt) (hnb : ∀ id, nb ≤ id → id < nb + 16 → fr id) (hnf : ∀ id, s.next ≤ id → fr id) (hnx : nb + 16 ≤ s.next)
    (hd : ∀ t, o.dst = some t → t < nt)
    (hev : (opGuarded c inl all s nb o).Has (s', l)) {K : Act → World → Prop} {Q : Exit → Act → World → Prop}
    (hK : ∀ a' w' G', Next B G fr s.next s' nt nb c.inl a' w' G' → K a' w') : wpOp B.P ops Q i K a w ∧ s.next ≤ s'.next := by
  unfold opGuarded at hev
  simp only at hev
  split at hev
  · rename_i hg
    exact yes_sound hi hc hs hnb hnf hnx hd (by simp [Region.wanted, hg]) hev hK
  · rename_i j want hg
    split at hev
    · exact hev.elim
    · rename_i t hgd
      split at hev
      · rename_i b hb
        have hy := yielded_bool ha hs hgd hb
        split at hev
        · rcases hev with ⟨rfl, hev⟩ | ⟨rfl, hev⟩
          · have := yes_sound (s := { s with env := putE s.env t (.bool true) }) hi hc (hs.fill hb) hnb hnf hnx hd (by simp [Region.wanted, hg, hy]) hev (K := K) (Q := Q) hK
            exact this
          · exact no_sound (c := c) (s := { s with env := putE s.env t (.bool false) }) (nb := nb) hi (hs.fill hb) hd (by simp [Region.wanted, hg, hy]) hev hK
        · rcases hev with ⟨rfl, hev⟩ | ⟨rfl, hev⟩
          · exact no_sound (c := c) (s := { s with env := putE s.env t (.bool true) }) (nb := nb) hi (hs.fill hb) hd (by simp [Region.wanted, hg, hy]) hev hK
          · exact yes_sound (s := { s with env := putE s.env t (.bool false) }) hi hc (hs.fill hb) hnb hnf hnx hd (by simp [Region.wanted, hg, hy]) hev hK
      · rename_i hb
        exact no_sound (c := c) (nb := nb) hi hs hd (by simp [Region.wanted, hg, yielded_none ha hs hgd hb]) hev hK
      · exact hev.elim
end
end Go.Abs

namespace Go.Abs
set_option linter.unusedSimpArgs false
set_option linter.unusedVariables false
open Go.RowKit

/-! ### writes, one behind another -/
def wrs (h : Heap) : List (Nat × Option Obj) → Heap
  | [] => h
  | (i, o) :: r => wrs (wrO h i o) r
theorem getO_wrO (h : Heap) (i : Nat) (o : Option Obj) (j : Nat) : getO (wrO h i o) j = if i = j then o else getO h j := by
  cases o with
  | none => exact getO_delO h i j
  | some o => exact getO_setO h i j o

theorem lenO_mark (cs : List Nat) (lo hi : Int) (o : Option Obj) : lenO (markO true cs lo hi o) = lenO o := by
  cases o with
  | none => rfl
  | some o => cases o <;> first | rfl | (simp [markO, lenO])
/-- Two heaps look alike to one who reads those. -/
structure Agr (l : Log) (h2 h : Heap) : Prop where
  rd : ∀ id ∈ l.rd, getO h2 id = getO h id
  ln : ∀ id ∈ l.ln, lenO (getO h2 id) = lenO (getO h id)
/-- Where a decision looks, and what it writes. -/
theorem DH.local {α : Type} : ∀ (d : DH α) (h : Heap) (l : Log) (a : α) (h' : Heap) (l' : Log), (d.go h l).Has (a, h', l') →
    ((∀ x ∈ l.rd, x ∈ l'.rd) ∧ ∀ x ∈ l.ln, x ∈ l'.ln) ∧ ((∀ x ∈ l.wr, x ∈ l'.wr) ∧ ∀ x ∈ l.wl, x ∈ l'.wl) ∧ ∃ W, h' = wrs h W ∧ (∀ p ∈ W, p.1 ∈ l'.wr) ∧ ∀ h2, Agr l' h2 h → (d.go h2 l).Has (a, wrs h2 W, l') ∧ ∀ id, id ∉ l'.wl → lenO (getO (wrs h2 W) id) = lenO (getO h2 id)
  | .ret x, h, l, a, h', l', y => by
    simp only [DH.go, D.Has, Prod.mk.injEq] at y
    obtain ⟨rfl, rfl, rfl⟩ := y
    exact ⟨⟨fun _ h => h, fun _ h => h⟩, ⟨fun _ h => h, fun _ h => h⟩, [], rfl, fun p hp => (by cases hp), fun h2 _ => ⟨rfl, fun _ _ => rfl⟩⟩
  | .fail, h, l, a, h', l', y => by simp [DH.go, D.Has] at y
  | .cond c t e, h, l, a, h', l', y => by
    simp only [DH.go, D.Has] at y
    rcases y with ⟨hc, y⟩ | ⟨hc, y⟩
    · obtain ⟨h1, h2, W, h3, h4, h5⟩ := DH.local t h l a h' l' y
      exact ⟨h1, h2, W, h3, h4, fun g hg => ⟨.inl ⟨hc, (h5 g hg).1⟩, (h5 g hg).2⟩⟩
    · obtain ⟨h1, h2, W, h3, h4, h5⟩ := DH.local e h l a h' l' y
      exact ⟨h1, h2, W, h3, h4, fun g hg => ⟨.inr ⟨hc, (h5 g hg).1⟩, (h5 g hg).2⟩⟩
  | .bind β o f, h, l, a, h', l', y => by
    simp only [DH.go, D.Has] at y
    obtain ⟨z, hz, y⟩ := y
    obtain ⟨h1, h2, W, h3, h4, h5⟩ := DH.local (f z) h l a h' l' y
    exact ⟨h1, h2, W, h3, h4, fun g hg => ⟨⟨z, hz, (h5 g hg).1⟩, (h5 g hg).2⟩⟩
  | .get id k, h, l, a, h', l', y => by
    obtain ⟨h1, h2, W, h3, h4, h5⟩ := DH.local (k (getO h id)) h _ a h' l' y
    refine ⟨⟨fun x hx => h1.1 x (.tail _ hx), h1.2⟩, h2, W, h3, h4, fun g hg => ?_⟩
    have := hg.rd id (h1.1 id (.head _))
    simp only [DH.go]
    rw [this]
    exact h5 g hg
  | .len id k, h, l, a, h', l', y => by
    obtain ⟨h1, h2, W, h3, h4, h5⟩ := DH.local (k (lenO (getO h id))) h _ a h' l' y
    refine ⟨⟨h1.1, fun x hx => h1.2 x (.tail _ hx)⟩, h2, W, h3, h4, fun g hg => ?_⟩
    have := hg.ln id (h1.2 id (.head _))
    simp only [DH.go]
    rw [this]
    exact h5 g hg
  | .put id o k, h, l, a, h', l', y => by
    obtain ⟨h1, h2, W, h3, h4, h5⟩ := DH.local k (wrO h id o) _ a h' l' y
    refine ⟨h1, ⟨fun x hx => h2.1 x (.tail _ hx), fun x hx => h2.2 x (.tail _ hx)⟩, (id, o) :: W, h3, fun p hp => ?_, fun g hg => ?_⟩
    · rcases List.mem_cons.1 hp with rfl | hp
      · exact h2.1 id (.head _)
      · exact h4 p hp
    · have h6 := h5 (wrO g id o) ⟨fun j hj => by rw [getO_wrO, getO_wrO, hg.rd j hj], fun j hj => by
        rw [getO_wrO, getO_wrO]
        by_cases e : id = j
        · rw [if_pos e, if_pos e]
        · rw [if_neg e, if_neg e]; exact hg.ln j hj⟩
      refine ⟨h6.1, fun j hj => ?_⟩
      show lenO (getO (wrs (wrO g id o) W) j) = _
      rw [h6.2 j hj, getO_wrO, if_neg fun e => hj (by subst e; exact h2.2 _ (.head _))]
  | .mark id a1 b1 c1 d1 k, h, l, a, h', l', y => by
    obtain ⟨h1, h2, W, h3, h4, h5⟩ := DH.local k (wrO h id (markO a1 b1 c1 d1 (getO h id))) _ a h' l' y
    have hid := h1.1 id (.head _)
    refine ⟨⟨fun x hx => h1.1 x (.tail _ hx), h1.2⟩, ⟨fun x hx => h2.1 x (.tail _ hx), fun x hx => h2.2 x ?_⟩, (id, markO a1 b1 c1 d1 (getO h id)) :: W, h3, fun p hp => ?_, fun g hg => ?_⟩
    · cases a1 with
      | true => exact hx
      | false => exact .tail _ hx
    · rcases List.mem_cons.1 hp with rfl | hp
      · exact h2.1 id (.head _)
      · exact h4 p hp
    · have h6 := h5 (wrO g id (markO a1 b1 c1 d1 (getO h id))) ⟨fun j hj => by rw [getO_wrO, getO_wrO, hg.rd j hj], fun j hj => by
        rw [getO_wrO, getO_wrO]
        by_cases e : id = j
        · rw [if_pos e, if_pos e]
        · rw [if_neg e, if_neg e]; exact hg.ln j hj⟩
      refine ⟨?_, fun j hj => ?_⟩
      · simp only [DH.go]
        rw [hg.rd id hid]
        exact h6.1
      · show lenO (getO (wrs (wrO g id _) W) j) = _
        rw [h6.2 j hj, getO_wrO]
        by_cases e : id = j
        · rw [if_pos e]
          subst e
          cases a1 with
          | true => rw [lenO_mark, hg.rd id hid]
          | false => exact absurd (h2.2 id (.head _)) hj
        · rw [if_neg e]

/-! ### they go past each other -/
theorem putE_cons (s : Nat) (x : AV) (r : Env) (t : Nat) (v : AV) : putE ((s, x) :: r) t v = if s = t then (t, v) :: r else if t < s then (t, v) :: (s, x) :: r else (s, x) :: putE r t v := by
  simp only [putE]
  by_cases h : s = t
  · subst h; simp
  · rw [beq_false h, if_neg h]
    simp only [cond_false]
    by_cases h2 : t < s
    · rw [if_pos h2, show Nat.blt t s = true from Nat.ble_eq_true_of_le h2]; rfl
    · rw [if_neg h2]
      cases hb : Nat.blt t s with
      | false => rfl
      | true => exact absurd (Nat.le_of_ble_eq_true hb) h2
theorem setO_cons (s : Nat) (x : Obj) (r : Heap) (t : Nat) (v : Obj) : setO ((s, x) :: r) t v = if s = t then (t, v) :: r else if t < s then (t, v) :: (s, x) :: r else (s, x) :: setO r t v := by
  simp only [setO]
  by_cases h : s = t
  · subst h; simp
  · rw [beq_false h, if_neg h]
    simp only [cond_false]
    by_cases h2 : t < s
    · rw [if_pos h2, show Nat.blt t s = true from Nat.ble_eq_true_of_le h2]; rfl
    · rw [if_neg h2]
      cases hb : Nat.blt t s with
      | false => rfl
      | true => exact absurd (Nat.le_of_ble_eq_true hb) h2
theorem delO_cons (s : Nat) (x : Obj) (r : Heap) (t : Nat) : delO ((s, x) :: r) t = if s = t then delO r t else (s, x) :: delO r t := by
  simp only [delO]
  by_cases h : s = t
  · subst h; simp
  · rw [beq_false h, if_neg h]; rfl
theorem putE_comm {t u : Nat} (h : t ≠ u) (v x : AV) : ∀ e : Env, putE (putE e t v) u x = putE (putE e u x) t v
  | [] => by
    have e1 : ∀ (a : Nat) (b : AV), putE [] a b = [(a, b)] := fun _ _ => rfl
    rcases Nat.lt_or_gt_of_ne h with h3 | h3 <;> simp (disch := omega) only [e1, putE_cons, if_pos, if_neg]
  | (s, y) :: r => by
    have ih := putE_comm h v x r
    rcases Nat.lt_trichotomy t s with h1 | h1 | h1 <;> rcases Nat.lt_trichotomy u s with h2 | h2 | h2 <;> rcases Nat.lt_or_gt_of_ne h with h3 | h3 <;>
      first
      | omega
      | (simp (disch := omega) only [putE_cons, if_pos, if_neg, ih]; done)
theorem setO_comm {t u : Nat} (h : t ≠ u) (v x : Obj) : ∀ e : Heap, setO (setO e t v) u x = setO (setO e u x) t v
  | [] => by
    have e1 : ∀ (a : Nat) (b : Obj), setO [] a b = [(a, b)] := fun _ _ => rfl
    rcases Nat.lt_or_gt_of_ne h with h3 | h3 <;> simp (disch := omega) only [e1, setO_cons, if_pos, if_neg]
  | (s, y) :: r => by
    have ih := setO_comm h v x r
    rcases Nat.lt_trichotomy t s with h1 | h1 | h1 <;> rcases Nat.lt_trichotomy u s with h2 | h2 | h2 <;> rcases Nat.lt_or_gt_of_ne h with h3 | h3 <;>
      first
      | omega
      | (simp (disch := omega) only [setO_cons, if_pos, if_neg, ih]; done)
theorem delO_comm (t u : Nat) : ∀ e : Heap, delO (delO e t) u = delO (delO e u) t
  | [] => rfl
  | (s, y) :: r => by
    rw [delO_cons, delO_cons]
    by_cases h1 : s = t <;> by_cases h2 : s = u
    · rw [if_pos h1, if_pos h2]; exact delO_comm t u r
    · rw [if_pos h1, if_neg h2, delO_cons, if_pos h1]; exact delO_comm t u r
    · rw [if_neg h1, if_pos h2, delO_cons, if_pos h2]; exact delO_comm t u r
    · rw [if_neg h1, if_neg h2, delO_cons, if_neg h2, delO_cons, if_neg h1, delO_comm t u r]

/-- The ids rise. -/
def Srt (h : Heap) : Prop := h.Pairwise fun p q => p.1 < q.1
theorem Srt.of : ∀ {h : Heap}, sortedH h = true → Srt h
  | [], _ => .nil
  | [p], _ => List.pairwise_singleton _ _
  | (s, x) :: (t, y) :: r, h => by
    simp only [sortedH, Bool.and_eq_true] at h
    have h1 : s < t := Nat.le_of_ble_eq_true h.1
    have h2 := Srt.of (h := (t, y) :: r) h.2
    refine List.Pairwise.cons (fun q hq => ?_) h2
    rcases List.mem_cons.1 hq with rfl | hq
    · exact h1
    · exact Nat.lt_trans h1 ((List.pairwise_cons.1 h2).1 q hq)
theorem del_mem {h : Heap} {i : Nat} : ∀ {p : Nat × Obj}, p ∈ delO h i → p ∈ h := by
  induction h with
  | nil => intro p hp; cases hp
  | cons q r ih =>
    intro p hp
    obtain ⟨s, x⟩ := q
    rw [delO_cons] at hp
    by_cases h1 : s = i
    · rw [if_pos h1] at hp; exact .tail _ (ih hp)
    · rw [if_neg h1] at hp
      rcases List.mem_cons.1 hp with rfl | hp
      · exact .head _
      · exact .tail _ (ih hp)
theorem set_mem {h : Heap} {i : Nat} {o : Obj} : ∀ {p : Nat × Obj}, p ∈ setO h i o → p.1 = i ∨ p ∈ h := by
  induction h with
  | nil => intro p hp; simp only [setO, List.mem_singleton] at hp; subst hp; exact .inl rfl
  | cons q r ih =>
    intro p hp
    obtain ⟨s, x⟩ := q
    rw [setO_cons] at hp
    by_cases h1 : s = i
    · rw [if_pos h1] at hp
      rcases List.mem_cons.1 hp with rfl | hp
      · exact .inl rfl
      · exact .inr (.tail _ hp)
    · rw [if_neg h1] at hp
      by_cases h2 : i < s
      · rw [if_pos h2] at hp
        rcases List.mem_cons.1 hp with rfl | hp
        · exact .inl rfl
        · exact .inr hp
      · rw [if_neg h2] at hp
        rcases List.mem_cons.1 hp with rfl | hp
        · exact .inr (.head _)
        · exact (ih hp).imp id (.tail _)
theorem Srt.del {h : Heap} (x : Srt h) (i : Nat) : Srt (delO h i) := by
  induction h with
  | nil => exact .nil
  | cons q r ih =>
    obtain ⟨s, y⟩ := q
    have ⟨h1, h2⟩ := List.pairwise_cons.1 x
    rw [delO_cons]
    by_cases e : s = i
    · rw [if_pos e]; exact ih h2
    · rw [if_neg e]; exact List.Pairwise.cons (fun p hp => h1 p (del_mem hp)) (ih h2)
theorem Srt.set {h : Heap} (x : Srt h) (i : Nat) (o : Obj) : Srt (setO h i o) := by
  induction h with
  | nil => exact List.pairwise_singleton _ _
  | cons q r ih =>
    obtain ⟨s, y⟩ := q
    have ⟨h1, h2⟩ := List.pairwise_cons.1 x
    rw [setO_cons]
    by_cases e : s = i
    · subst e; rw [if_pos rfl]; exact List.Pairwise.cons h1 h2
    · rw [if_neg e]
      by_cases e2 : i < s
      · rw [if_pos e2]
        refine List.Pairwise.cons (fun p hp => ?_) x
        rcases List.mem_cons.1 hp with rfl | hp
        · exact e2
        · exact Nat.lt_trans e2 (h1 p hp)
      · rw [if_neg e2]
        refine List.Pairwise.cons (fun p hp => ?_) (ih h2)
        rcases set_mem hp with hp | hp
        · show s < p.1
          omega
        · exact h1 p hp
theorem Srt.wr {h : Heap} (x : Srt h) (i : Nat) : ∀ o : Option Obj, Srt (wrO h i o)
  | none => x.del i
  | some o => x.set i o
theorem Srt.wrs : ∀ {W : List (Nat × Option Obj)} {h : Heap}, Srt h → Srt (wrs h W)
  | [], h, x => x
  | (i, o) :: W, h, x => Srt.wrs (W := W) (x.wr i o)
theorem set_front {h : Heap} {i : Nat} {o : Obj} (hl : ∀ p ∈ h, i < p.1) : setO h i o = (i, o) :: h := by
  cases h with
  | nil => rfl
  | cons q r =>
    obtain ⟨s, y⟩ := q
    have := hl _ (.head _)
    simp only at this
    rw [setO_cons, if_neg (by omega), if_pos this]
theorem set_del {i j : Nat} (hij : i ≠ j) (o : Obj) : ∀ {h : Heap}, Srt h → delO (setO h i o) j = setO (delO h j) i o
  | [], _ => by
    show delO [(i, o)] j = [(i, o)]
    rw [delO_cons, if_neg hij]; rfl
  | (s, y) :: r, x => by
    have ⟨h1, h2⟩ := List.pairwise_cons.1 x
    have ih := set_del hij o (h := r) h2
    rw [setO_cons]
    by_cases e : s = i
    · subst e
      rw [if_pos rfl, delO_cons, if_neg hij, delO_cons, if_neg hij, setO_cons, if_pos rfl]
    · rw [if_neg e]
      by_cases e2 : i < s
      · rw [if_pos e2, delO_cons, if_neg hij]
        refine (set_front fun p hp => ?_).symm
        rcases List.mem_cons.1 (del_mem hp) with rfl | hp
        · exact e2
        · exact Nat.lt_trans e2 (h1 p hp)
      · rw [if_neg e2, delO_cons, delO_cons]
        by_cases e3 : s = j
        · rw [if_pos e3, if_pos e3]; exact ih
        · rw [if_neg e3, if_neg e3, setO_cons, if_neg e, if_neg e2, ih]
theorem wrO_comm {i j : Nat} (hij : i ≠ j) {h : Heap} (x : Srt h) : ∀ a b : Option Obj, wrO (wrO h i a) j b = wrO (wrO h j b) i a
  | none, none => delO_comm i j h
  | some a, none => set_del hij a x
  | none, some b => (set_del (fun e => hij e.symm) b x).symm
  | some a, some b => setO_comm hij a b h
theorem wrs_one {j : Nat} {b : Option Obj} : ∀ {W : List (Nat × Option Obj)} {h : Heap}, Srt h → (∀ p ∈ W, p.1 ≠ j) → wrO (wrs h W) j b = wrs (wrO h j b) W
  | [], h, _, _ => rfl
  | (i, o) :: W, h, x, hw => by
    simp only [wrs]
    rw [wrs_one (W := W) (x.wr i o) fun p hp => hw p (.tail _ hp), wrO_comm (hw _ (.head _)) x]
theorem wrs_comm : ∀ {V W : List (Nat × Option Obj)} {h : Heap}, Srt h → (∀ p ∈ W, ∀ q ∈ V, p.1 ≠ q.1) → wrs (wrs h W) V = wrs (wrs h V) W
  | [], W, h, _, _ => rfl
  | (j, b) :: V, W, h, x, hw => by
    simp only [wrs]
    rw [wrs_one x fun p hp => hw p hp _ (.head _), wrs_comm (V := V) (x.wr j b) fun p hp q hq => hw p hp q (.tail _ hq)]
theorem getO_wrs : ∀ {W : List (Nat × Option Obj)} {h : Heap} {id : Nat}, (∀ p ∈ W, p.1 ≠ id) → getO (wrs h W) id = getO h id
  | [], h, id, _ => rfl
  | (i, o) :: W, h, id, hw => by
    simp only [wrs]
    rw [getO_wrs fun p hp => hw p (.tail _ hp), getO_wrO, if_neg (hw _ (.head _))]

/-! ### environments -/
def puts (e : Env) : List (Nat × AV) → Env
  | [] => e
  | (t, v) :: r => puts (putE e t v) r
theorem puts_one {u : Nat} {x : AV} : ∀ {E : List (Nat × AV)} {e : Env}, (∀ p ∈ E, p.1 ≠ u ∨ p.2 = x) → putE (puts e E) u x = puts (putE e u x) E
  | [], e, _ => rfl
  | (t, v) :: E, e, hE => by
    simp only [puts]
    rw [puts_one (E := E) fun p hp => hE p (.tail _ hp)]
    by_cases h : t = u
    · subst h
      have : v = x := (hE _ (.head _)).resolve_left (fun h => h rfl)
      subst this
      rfl
    · rw [putE_comm h]
theorem puts_comm : ∀ {F E : List (Nat × AV)} {e : Env}, (∀ p ∈ E, ∀ q ∈ F, p.1 ≠ q.1 ∨ p.2 = q.2) → puts (puts e E) F = puts (puts e F) E
  | [], E, e, _ => rfl
  | (u, x) :: F, E, e, hE => by
    simp only [puts]
    rw [puts_one fun p hp => hE p hp _ (.head _), puts_comm (F := F) fun p hp q hq => hE p hp q (.tail _ hq)]
theorem getE_puts : ∀ {E : List (Nat × AV)} {e : Env} {t : Nat}, (∀ p ∈ E, p.1 ≠ t ∨ p.2 = getE e t) → getE (puts e E) t = getE e t
  | [], e, t, _ => rfl
  | (u, x) :: E, e, t, hE => by
    simp only [puts]
    have h1 : getE (putE e u x) t = getE e t := by
      rw [getE_putE]
      by_cases h : u = t
      · rw [if_pos h]; exact (hE _ (.head _)).resolve_left (fun h' => h' h)
      · rw [if_neg h]
    rw [getE_puts fun p hp => by rw [h1]; exact hE p (.tail _ hp), h1]
end Go.Abs

namespace Go.Abs
set_option linter.unusedSimpArgs false
set_option linter.unusedVariables false
open Go.RowKit

/-! ### an operation looks at its operands alone -/
section
variable {tb : Tb} {e f : Env}
theorem build_congr (fs : List (Nat × Nat)) : ∀ (ps : List (Nat × Operand)) (cs : List AV), (∀ p ∈ ps, evalO e p.2 = evalO f p.2) → buildCells tb e fs cs ps = buildCells tb f fs cs ps
  | [], cs, _ => rfl
  | (i, x) :: ps, cs, h => by
    simp only [buildCells]
    rw [h (i, x) (.head _)]
    cases fs[i]? with
    | none => rfl
    | some p =>
      simp only
      cases ((evalO f x).okF && (Nat.beq (evalO f x).flat.length (tyOf tb p.2).cells.length && (Nat.ble (p.1 + (evalO f x).flat.length) cs.length && !(tyOf tb p.2).cells.isEmpty))) with
      | false => rfl
      | true => exact build_congr fs ps _ fun p hp => h p (.tail _ hp)
theorem partsAt_in : ∀ {ps : List (Nat × Operand)} {i : Nat} {x : Operand}, partsAt ps i = some x → ∃ p ∈ ps, p.2 = x
  | [], i, x, h => by cases h
  | (j, y) :: ps, i, x, h => by
    simp only [partsAt] at h
    cases hb : Nat.beq j i with
    | true => rw [hb] at h; simp at h; exact ⟨_, .head _, h⟩
    | false => rw [hb] at h; obtain ⟨p, h1, h2⟩ := partsAt_in h; exact ⟨p, .tail _ h1, h2⟩
theorem rows_congr (r : RT) (ps : List (Nat × Operand)) (h : ∀ p ∈ ps, evalO e p.2 = evalO f p.2) : ∀ n i, litRows e r ps n i = litRows f r ps n i
  | 0, i => rfl
  | n + 1, i => by
    simp only [litRows]
    rw [rows_congr r ps h n (i + 1)]
    cases hp : partsAt ps i with
    | none => rfl
    | some x =>
      obtain ⟨p, h1, h2⟩ := partsAt_in hp
      have := h p h1
      rw [h2] at this
      simp only
      rw [this]
theorem args_congr {xs : Array Operand} (h : ∀ x ∈ xs, evalO e x = evalO f x) : xs.toList.map (evalO e) = xs.toList.map (evalO f) :=
  List.map_congr_left fun x hx => h x (by simpa using hx)
theorem opEval_congr (nb ty : Nat) (o : Op) (h : ∀ x ∈ o.operands, evalO e x = evalO f x) : opEval tb e nb ty o = opEval tb f nb ty o := by
  cases o <;> simp only [Op.operands] at h
  case build t ps =>
    unfold opEval; simp only
    rw [build_congr _ ps.toList _ fun p hp => h p.2 (by simp; exact ⟨p.1, by simpa using hp⟩)]
  case buildSlice t n ps =>
    unfold opEval; simp only
    have := fun q => rows_congr (e := e) (f := f) q ps.toList (fun p hp => h p.2 (by simp; exact ⟨p.1, by simpa using hp⟩)) n 0
    simp only [this]
  case makeFunc g first cap =>
    cases g <;> first | rfl | skip
    unfold opEval; simp only
    rw [args_congr (xs := cap) fun x hx => h x (by simp [hx])]
  case call k =>
    unfold opEval; simp only
    have ha : ∀ x ∈ k.args, evalO e x = evalO f x := fun x hx => h x (by simp [Call.operands, hx])
    rw [args_congr ha]
  case slice t x lo hi mx =>
    have hx : evalO e x = evalO f x := h x (by simp)
    have hl : intOpt e lo = intOpt f lo := by
      cases lo with
      | none => rfl
      | some l => simp only [intOpt]; rw [h l (by simp)]
    have hh : intOpt e hi = intOpt f hi := by
      cases hi with
      | none => rfl
      | some l => simp only [intOpt]; rw [h l (by simp)]
    unfold opEval; simp only
    rw [hx, hl, hh]
  all_goals first
    | rfl
    | (unfold opEval; simp_all; done)
theorem callee_congr (o : Op) (h : ∀ x ∈ o.operands, evalO e x = evalO f x) : calleeOf e o = calleeOf f o := by
  cases o <;> first | rfl | skip
  case call k =>
    simp only [Op.operands] at h
    unfold calleeOf
    simp only
    have ha : ∀ x ∈ k.args, evalO e x = evalO f x := fun x hx => h x (by simp [Call.operands, hx])
    rw [args_congr ha]
    cases hc : k.callee with
    | value g => simp only; rw [h g (by simp [Call.operands, hc])]
    | _ => rfl
end

section
variable {c : Ctx} {inl : Inl} {all : List Oper} {s s' : St} {nb : Nat} {o : Oper} {v : AV} {lg : Log}

theorem local_form {d : DH (AV × List Pl)}
    (hev : (((d.go s.heap log0).andThen fun (v, h, l) => match v.2 with
      | [] => .ret (v.1, { s with heap := h }, some l)
      | ids => bif c.inl then .fail else .ret (v.1, purgeS ids { s with heap := h }, none)) : D (AV × St × Option Log)).Has (v, s', some lg)) :
    ∃ W, s' = ⟨s.env, wrs s.heap W, s.next⟩ ∧ ((∀ p ∈ W, p.1 ∈ lg.wr) ∧ ∀ h2, Agr lg h2 s.heap → ∀ id, id ∉ lg.wl → lenO (getO (wrs h2 W) id) = lenO (getO h2 id)) ∧ ∀ e2 h2, Agr lg h2 s.heap →
      (((d.go h2 log0).andThen fun (v, h, l) => match v.2 with
      | [] => .ret (v.1, (⟨e2, h, s.next⟩ : St), some l)
      | ids => bif c.inl then .fail else .ret (v.1, purgeS ids (⟨e2, h, s.next⟩ : St), none)) : D (AV × St × Option Log)).Has (v, ⟨e2, wrs h2 W, s.next⟩, some lg) := by
  obtain ⟨⟨⟨v1, z⟩, h', l'⟩, h1, h2⟩ := (D.has_andThen _ _ _).1 hev
  cases z with
  | cons i is =>
    cases hil : c.inl with
    | true => simp only [hil, cond_true] at h2; exact h2.elim
    | false =>
      simp only [hil, cond_false, D.Has, Prod.mk.injEq] at h2
      cases h2.2.2
  | nil =>
    simp only [D.Has, Prod.mk.injEq, Option.some.injEq] at h2
    obtain ⟨rfl, rfl, rfl⟩ := h2
    obtain ⟨_, _, W, hW, hw, hall⟩ := DH.local _ _ _ _ _ _ h1
    refine ⟨W, by rw [hW], ⟨hw, fun g hg => (hall g hg).2⟩, fun e2 g hg => (D.has_andThen _ _ _).2 ⟨_, (hall g hg).1, rfl⟩⟩

theorem oneOp_form (hev : (oneOp c inl s nb o).Has (v, s', some lg)) :
    ∃ W, s' = ⟨s.env, wrs s.heap W, s.next⟩ ∧ ((∀ p ∈ W, p.1 ∈ lg.wr) ∧ ∀ h2, Agr lg h2 s.heap → ∀ id, id ∉ lg.wl → lenO (getO (wrs h2 W) id) = lenO (getO h2 id)) ∧ ∀ e2 h2, (∀ x ∈ o.op.operands, evalO e2 x = evalO s.env x) → Agr lg h2 s.heap →
      (oneOp c inl ⟨e2, h2, s.next⟩ nb o).Has (v, ⟨e2, wrs h2 W, s.next⟩, some lg) := by
  unfold oneOp at hev ⊢
  simp only at hev ⊢
  split at hev
  · rename_i g vs hcal
    split at hev
    · rename_i k hk
      obtain ⟨W, h1, h2, h3⟩ := local_form hev
      refine ⟨W, h1, h2, fun e2 g2 he hg => ?_⟩
      rw [callee_congr _ he, hcal]
      simp only [hk]
      exact h3 e2 g2 hg
    · rename_i hk
      split at hev
      · rename_i tab z hp
        split at hev
        · rename_i id lv
          obtain ⟨v1, h1, h2⟩ := (D.has_andThen _ _ _).1 hev
          simp only [D.Has, Prod.mk.injEq, Option.some.injEq] at h2
          obtain ⟨rfl, rfl, rfl⟩ := h2
          refine ⟨[], rfl, ⟨fun p hp => (by cases hp), fun _ _ _ _ => rfl⟩, fun e2 g2 he hg => ?_⟩
          rw [callee_congr _ he, hcal]
          simp only [hk, hp]
          exact (D.has_andThen _ _ _).2 ⟨_, h1, rfl⟩
        · exact hev.elim
      · obtain ⟨⟨v1, s1⟩, h1, h2⟩ := (D.has_andThen _ _ _).1 hev
        simp only [D.Has, Prod.mk.injEq] at h2
        cases h2.2.2
  · rename_i hcal
    obtain ⟨W, h1, h2, h3⟩ := local_form hev
    refine ⟨W, h1, h2, fun e2 g2 he hg => ?_⟩
    rw [callee_congr _ he, hcal]
    simp only
    rw [opEval_congr _ _ _ he]
    exact h3 e2 g2 hg

/-- What a local operation does, wherever it stands. -/
structure Form (c : Ctx) (inl : Inl) (all : List Oper) (nb : Nat) (o : Oper) (s s' : St) (lg : Log) (E : List (Nat × AV)) (W : List (Nat × Option Obj)) : Prop where
  eq : s' = ⟨puts s.env E, wrs s.heap W, s.next⟩
  wr : (∀ p ∈ W, p.1 ∈ lg.wr) ∧ ∀ h2, Agr lg h2 s.heap → ∀ id, id ∉ lg.wl → lenO (getO (wrs h2 W) id) = lenO (getO h2 id)
  put : ∀ p ∈ E, p.1 ∈ o.dst.toList ∨ (p.1 ∈ usesT all o ∧ getE s.env p.1 = p.2)
  go : ∀ e2 h2, (∀ t ∈ usesT all o, getE e2 t = getE s.env t) → Agr lg h2 s.heap → (opGuarded c inl all ⟨e2, h2, s.next⟩ nb o).Has (⟨puts e2 E, wrs h2 W, s.next⟩, some lg)

theorem operands_agree {e2 : Env} (h : ∀ t ∈ usesT all o, getE e2 t = getE s.env t) : ∀ x ∈ o.op.operands, evalO e2 x = evalO s.env x := by
  intro x hx
  cases x with
  | tmp t =>
    refine h t ?_
    unfold usesT opTmps
    refine List.mem_append_left _ (List.mem_filterMap.2 ⟨.tmp t, by simpa using hx, rfl⟩)
  | _ => rfl
theorem putR_puts (e : Env) (h : Heap) (n : Nat) (d : Option Nat) (v : AV) : putR ⟨e, h, n⟩ d v = ⟨puts e (d.toList.map fun t => (t, v)), h, n⟩ := by cases d <;> rfl

theorem yes_form (hev : ((oneOp c inl s nb o).andThen fun (v, s', l) => .ret (putR s' o.dst v, l) : D (St × Option Log)).Has (s', some lg)) :
    ∃ v W, s' = ⟨puts s.env (o.dst.toList.map fun t => (t, v)), wrs s.heap W, s.next⟩ ∧ ((∀ p ∈ W, p.1 ∈ lg.wr) ∧ ∀ h2, Agr lg h2 s.heap → ∀ id, id ∉ lg.wl → lenO (getO (wrs h2 W) id) = lenO (getO h2 id)) ∧ ∀ e2 h2, (∀ x ∈ o.op.operands, evalO e2 x = evalO s.env x) → Agr lg h2 s.heap →
      ((oneOp c inl ⟨e2, h2, s.next⟩ nb o).andThen fun (v, s', l) => .ret (putR s' o.dst v, l) : D (St × Option Log)).Has (⟨puts e2 (o.dst.toList.map fun t => (t, v)), wrs h2 W, s.next⟩, some lg) := by
  obtain ⟨⟨v1, s1, l1⟩, h1, h2⟩ := (D.has_andThen _ _ _).1 hev
  simp only [D.Has, Prod.mk.injEq] at h2
  obtain ⟨rfl, rfl⟩ := h2
  obtain ⟨W, rfl, hw, hall⟩ := oneOp_form h1
  refine ⟨v1, W, by rw [putR_puts], hw, fun e2 g2 he hg => (D.has_andThen _ _ _).2 ⟨_, hall e2 g2 he hg, ?_⟩⟩
  simp only [D.Has]
  rw [putR_puts]

theorem guarded_form (hev : (opGuarded c inl all s nb o).Has (s', some lg)) : ∃ E W, Form c inl all nb o s s' lg E W := by
  have hdst : ∀ (v : AV) (e : Env), ∀ p ∈ o.dst.toList.map (fun t => (t, v)), p.1 ∈ o.dst.toList ∨ (p.1 ∈ usesT all o ∧ getE e p.1 = p.2) := by
    intro v e p hp
    obtain ⟨t, ht, rfl⟩ := List.mem_map.1 hp
    exact .inl ht
  unfold opGuarded at hev
  simp only at hev
  split at hev
  · rename_i hg
    obtain ⟨v, W, h1, h2, h3⟩ := yes_form hev
    refine ⟨_, W, h1, h2, hdst v s.env, fun e2 g2 he hr => ?_⟩
    unfold opGuarded
    simp only [hg]
    exact h3 e2 g2 (operands_agree he) hr
  · rename_i j want hg
    split at hev
    · exact hev.elim
    · rename_i t hgd
      have hmem : t ∈ usesT all o := by
        unfold usesT
        rw [hg]
        exact List.mem_append_right _ (by simp [hgd])
      split at hev
      · rename_i b hb
        have key : ∀ (b' : Bool), b = b' → ((oneOp c inl { s with env := putE s.env t (.bool b') } nb o).andThen fun (v, s', l) => .ret (putR s' o.dst v, l) : D (St × Option Log)).Has (s', some lg) →
            (∀ e2 h2 x, getE e2 t = .bool b' → ((oneOp c inl { env := putE e2 t (.bool b'), heap := h2, next := s.next } nb o).andThen fun (v, s', l) => .ret (putR s' o.dst v, l) : D (St × Option Log)).Has x → (opGuarded c inl all ⟨e2, h2, s.next⟩ nb o).Has x) → ∃ E W, Form c inl all nb o s s' lg E W := by
          intro b' hbb hy hgo
          subst hbb
          obtain ⟨v, W, h1, h2, h3⟩ := yes_form hy
          refine ⟨(t, .bool b) :: o.dst.toList.map fun u => (u, v), W, h1, h2, fun p hp => ?_, fun e2 g2 he hr => ?_⟩
          · rcases List.mem_cons.1 hp with rfl | hp
            · exact .inr ⟨hmem, hb⟩
            · exact hdst v s.env p hp
          · have ht : getE e2 t = .bool b := by rw [he t hmem, hb]
            refine hgo e2 g2 _ ht ?_
            refine h3 (putE e2 t (.bool b)) g2 (fun x hx => ?_) hr
            have hx2 := operands_agree he x hx
            cases x with
            | tmp u =>
              simp only [evalO, getE_putE] at hx2 ⊢
              by_cases hu : t = u
              · rw [if_pos hu, if_pos hu]
              · rw [if_neg hu, if_neg hu]; exact hx2
            | _ => rfl
        have keyN : ∀ (b' : Bool), b = b' → (.ret (putR { s with env := putE s.env t (.bool b') } o.dst (.tup []), some log0) : D (St × Option Log)).Has (s', some lg) →
            (∀ e2 h2 x, getE e2 t = .bool b' → (.ret (putR { env := putE e2 t (.bool b'), heap := h2, next := s.next } o.dst (.tup []), some log0) : D (St × Option Log)).Has x → (opGuarded c inl all ⟨e2, h2, s.next⟩ nb o).Has x) → ∃ E W, Form c inl all nb o s s' lg E W := by
          intro b' hbb hy hgo
          subst hbb
          simp only [D.Has, Prod.mk.injEq, Option.some.injEq] at hy
          obtain ⟨rfl, rfl⟩ := hy
          refine ⟨(t, .bool b) :: o.dst.toList.map fun u => (u, .tup []), [], by rw [putR_puts]; rfl, ⟨fun p hp => (by cases hp), fun _ _ _ _ => rfl⟩, fun p hp => ?_, fun e2 g2 he hr => ?_⟩
          · rcases List.mem_cons.1 hp with rfl | hp
            · exact .inr ⟨hmem, hb⟩
            · exact hdst _ s.env p hp
          · have ht : getE e2 t = .bool b := by rw [he t hmem, hb]
            refine hgo e2 g2 _ ht ?_
            simp only [D.Has]
            rw [putR_puts]
            rfl
        split at hev
        · rcases hev with ⟨hbt, hev⟩ | ⟨hbt, hev⟩
          · exact key true hbt hev fun e2 h2 x ht hx => by
              unfold opGuarded
              simp only [hg, hgd, ht]
              exact .inl ⟨rfl, hx⟩
          · exact keyN false hbt hev fun e2 h2 x ht hx => by
              unfold opGuarded
              simp only [hg, hgd, ht]
              exact .inr ⟨rfl, hx⟩
        · rcases hev with ⟨hbt, hev⟩ | ⟨hbt, hev⟩
          · exact keyN true hbt hev fun e2 h2 x ht hx => by
              unfold opGuarded
              simp only [hg, hgd, ht]
              exact .inl ⟨rfl, hx⟩
          · exact key false hbt hev fun e2 h2 x ht hx => by
              unfold opGuarded
              simp only [hg, hgd, ht]
              exact .inr ⟨rfl, hx⟩
      · rename_i hb
        simp only [D.Has, Prod.mk.injEq, Option.some.injEq] at hev
        obtain ⟨rfl, rfl⟩ := hev
        refine ⟨o.dst.toList.map fun u => (u, .tup []), [], by rw [show s = ⟨s.env, s.heap, s.next⟩ from rfl, putR_puts]; rfl, ⟨fun p hp => (by cases hp), fun _ _ _ _ => rfl⟩, hdst _ s.env, fun e2 g2 he hr => ?_⟩
        have ht : getE e2 t = .tup [] := by rw [he t hmem, hb]
        unfold opGuarded
        simp only [hg, hgd, ht]
        simp only [D.Has]
        rw [putR_puts]
        rfl
      · exact hev.elim
end
end Go.Abs

namespace Go.Abs
set_option linter.unusedSimpArgs false
set_option linter.unusedVariables false
open Go.RowKit

/-! ### a run of operations, in some order -/
structure StepA (c : Ctx) (inl : Inl) (all : List Oper) (base : Nat) (p : Nat × Option Log) (s s' : St) : Prop where
  go : ∃ o, all[p.1]? = some o ∧ (opGuarded c inl all s (base + 16 * p.1) o).Has (s', p.2)
  srt : p.2.isSome = true ∨ Srt s'.heap
def RunA (c : Ctx) (inl : Inl) (all : List Oper) (base : Nat) : List (Nat × Option Log) → St → St → Prop
  | [], s, s' => s' = s
  | p :: r, s, s'' => ∃ s', StepA c inl all base p s s' ∧ RunA c inl all base r s' s''
def Ap (all : List Oper) (p q : Nat × Option Log) : Prop :=
  ∃ o o' l l', all[p.1]? = some o ∧ all[q.1]? = some o' ∧ p.2 = some l ∧ q.2 = some l' ∧ apartT all o o' = true ∧ apartL (some l) (some l') = true

section
variable {c : Ctx} {inl : Inl} {all : List Oper} {base : Nat} {s s1 s2 : St} {p q : Nat × Option Log}

theorem StepA.sorted (h : StepA c inl all base p s s1) (hs : Srt s.heap) : Srt s1.heap := by
  rcases h.srt with h1 | h1
  · obtain ⟨o, ho, hg⟩ := h.go
    cases hp : p.2 with
    | none => rw [hp] at h1; cases h1
    | some lg =>
      rw [hp] at hg
      obtain ⟨E, W, hf⟩ := guarded_form hg
      rw [hf.eq]
      exact hs.wrs
  · exact h1

theorem meets_of_mem {a b : List Nat} {x : Nat} (h : meets a b = false) (ha : x ∈ a) (hb : x ∈ b) : False := meets_false h x ha hb

theorem swap (hs : Srt s.heap) (h1 : StepA c inl all base p s s1) (h2 : StepA c inl all base q s1 s2) (ha : Ap all p q) : ∃ s1', StepA c inl all base q s s1' ∧ StepA c inl all base p s1' s2 := by
  obtain ⟨o, o', l, l', ho, ho', hp, hq, hT, hL⟩ := ha
  obtain ⟨_, e1, g1⟩ := h1.go
  obtain ⟨_, e2, g2⟩ := h2.go
  rw [ho] at e1; cases e1
  rw [ho'] at e2; cases e2
  rw [hp] at g1
  rw [hq] at g2
  obtain ⟨E, W, f1⟩ := guarded_form g1
  obtain ⟨F, V, f2⟩ := guarded_form g2
  simp only [apartT, apartL, Bool.and_eq_true, Bool.not_eq_true'] at hT hL
  obtain ⟨hT1, hT2⟩ := hT
  obtain ⟨hL1, hL2, hL3, hL4⟩ := hL
  have d1 : ∀ t ∈ o.dst.toList, t ∉ o'.dst.toList ∧ t ∉ usesT all o' := fun t ht => ⟨fun h => meets_of_mem hT1 ht (List.mem_append_left _ h), fun h => meets_of_mem hT1 ht (List.mem_append_right _ h)⟩
  have d2 : ∀ t ∈ o'.dst.toList, t ∉ usesT all o := fun t ht h => meets_of_mem hT2 ht h
  have w1 : ∀ i ∈ l.wr, i ∉ l'.rd ∧ i ∉ l'.wr := fun i hi => ⟨fun h => meets_of_mem hL1 hi (List.mem_append_left _ h), fun h => meets_of_mem hL1 hi (List.mem_append_right _ h)⟩
  have w2 : ∀ i ∈ l'.wr, i ∉ l.rd := fun i hi h => meets_of_mem hL2 h hi
  have se := f1.eq
  subst se
  -- what the second looks at is as before the first
  have hE : ∀ t ∈ usesT all o', getE (puts s.env E) t = getE s.env t := fun t ht => getE_puts fun x hx => by
    rcases f1.put x hx with h | ⟨h, hv⟩
    · exact .inl fun e => (d1 _ h).2 (e ▸ ht)
    · by_cases e : x.1 = t
      · right; rw [← hv, e]
      · exact .inl e
  have hW : ∀ i ∈ l'.rd, getO (wrs s.heap W) i = getO s.heap i := fun i hi => getO_wrs fun x hx e => (w1 _ (f1.wr.1 x hx)).1 (e ▸ hi)
  have hWl : ∀ i ∈ l'.ln, lenO (getO (wrs s.heap W) i) = lenO (getO s.heap i) := fun i hi => f1.wr.2 s.heap ⟨fun _ _ => rfl, fun _ _ => rfl⟩ i fun hm => meets_of_mem hL3 hm hi
  have ag2 : Agr l' s.heap (wrs s.heap W) := ⟨fun i hi => (hW i hi).symm, fun i hi => (hWl i hi).symm⟩
  have go2 := f2.go s.env s.heap (fun t ht => (hE t ht).symm) ag2
  have hF : ∀ t ∈ usesT all o, getE (puts s.env F) t = getE s.env t := fun t ht => getE_puts fun x hx => by
    rcases f2.put x hx with h | ⟨h, hv⟩
    · exact .inl fun e => d2 _ h (e ▸ ht)
    · by_cases e : x.1 = t
      · right; rw [← hv, ← e, hE x.1 h]
      · exact .inl e
  have hV : ∀ i ∈ l.rd, getO (wrs s.heap V) i = getO s.heap i := fun i hi => getO_wrs fun x hx e => w2 _ (f2.wr.1 x hx) (e ▸ hi)
  have go1 := f1.go (puts s.env F) (wrs s.heap V) hF ⟨hV, fun i hi => f2.wr.2 s.heap ag2 i fun hm => meets_of_mem hL4 hi hm⟩
  refine ⟨⟨puts s.env F, wrs s.heap V, s.next⟩, ⟨⟨o', ho', by rw [hq]; exact go2⟩, .inl (by rw [hq]; rfl)⟩, ⟨⟨o, ho, ?_⟩, .inl (by rw [hp]; rfl)⟩⟩
  rw [hp, f2.eq]
  simp only
  rw [wrs_comm hs fun x hx y hy e => (w1 _ (f1.wr.1 x hx)).2 (e ▸ f2.wr.1 y hy), puts_comm fun x hx y hy => ?_]
  · exact go1
  · by_cases e : x.1 = y.1
    · right
      rcases f1.put x hx with h | ⟨h, hv⟩
      · rcases f2.put y hy with h' | ⟨h', hv'⟩
        · exact absurd (e ▸ h') (d1 _ h).1
        · exact absurd (e ▸ h') (d1 _ h).2
      · rcases f2.put y hy with h' | ⟨h', hv'⟩
        · exact absurd h (e ▸ d2 _ h')
        · rw [← hv, ← hv', e, hE y.1 h']
    · exact .inl e

theorem bubble : ∀ (A : List (Nat × Option Log)) {C : List (Nat × Option Log)} {s s' : St}, Srt s.heap → RunA c inl all base (A ++ p :: C) s s' → (∀ x ∈ A, Ap all x p) → RunA c inl all base (p :: (A ++ C)) s s'
  | [], C, s, s', _, h, _ => h
  | x :: A, C, s, s', hs, h, ha => by
    obtain ⟨s1, h1, h2⟩ := h
    obtain ⟨s2, h3, h4⟩ := bubble A (h1.sorted hs) h2 fun y hy => ha y (.tail _ hy)
    obtain ⟨s1', h5, h6⟩ := swap hs h1 h3 (ha x (.head _))
    exact ⟨s1', h5, s2, h6, h4⟩
end

theorem opsRun_run {c : Ctx} {inl : Inl} {all : List Oper} {base : Nat} : ∀ (os : List Oper) (i : Nat) (s : St) (acc : List (Option Log)) (s' : St) (ls : List (Option Log)),
    (∀ j o, os[j]? = some o → all[i + j]? = some o) → (opsRun c inl all os (base + 16 * i) s acc).Has (s', ls) →
    ∃ ls', ls = acc.reverse ++ ls' ∧ ls'.length = os.length ∧ RunA c inl all base ((List.range' i os.length).zip ls') s s'
  | [], i, s, acc, s', ls, _, h => by
    simp only [opsRun, D.Has, Prod.mk.injEq] at h
    obtain ⟨rfl, rfl⟩ := h
    exact ⟨[], by simp, rfl, rfl⟩
  | o :: os, i, s, acc, s', ls, ha, h => by
    simp only [opsRun] at h
    obtain ⟨⟨s1, l⟩, h1, h2⟩ := (D.has_andThen _ _ _).1 h
    simp only at h2
    cases hb : (l.isSome || sortedH s1.heap) with
    | false => rw [hb] at h2; exact h2.elim
    | true =>
      rw [hb] at h2
      simp only [cond_true] at h2
      have h2' : (opsRun c inl all os (base + 16 * (i + 1)) s1 (l :: acc)).Has (s', ls) := by rw [show base + 16 * (i + 1) = base + 16 * i + 16 by omega]; exact h2
      obtain ⟨ls', e1, e2, e3⟩ := opsRun_run os (i + 1) s1 (l :: acc) s' ls (fun j o' hj => by have := ha (j + 1) o' (by simpa using hj); rw [show i + 1 + j = i + (j + 1) by omega]; exact this) h2'
      refine ⟨l :: ls', by rw [e1]; simp, by simp [e2], ?_⟩
      have : (List.range' i (o :: os).length).zip (l :: ls') = (i, l) :: (List.range' (i + 1) os.length).zip ls' := by
        simp [List.range'_succ]
      rw [this]
      simp only [Bool.or_eq_true] at hb
      exact ⟨s1, ⟨⟨o, by have := ha 0 o (by simp); simpa using this, h1⟩, hb.imp id Srt.of⟩, e3⟩

/-! ### edges -/
theorem testBit_fold {acc : List Nat} : ∀ (es : List Edge) (n : Nat) (x : Nat), (es.foldl (fun s e => bif Region.binds .any e then s ||| 2 ^ e.on ||| (acc[e.on]?).getD 0 else s) n).testBit x = true →
    n.testBit x = true ∨ ∃ e ∈ es, Region.binds .any e = true ∧ (x = e.on ∨ ((acc[e.on]?).getD 0).testBit x = true)
  | [], n, x, h => .inl h
  | e :: es, n, x, h => by
    simp only [List.foldl_cons] at h
    rcases testBit_fold es _ x h with h1 | ⟨e', h1, h2⟩
    · cases hb : Region.binds .any e with
      | false => rw [hb] at h1; exact .inl h1
      | true =>
        rw [hb] at h1
        simp only [cond_true, Nat.testBit_or, Bool.or_eq_true, Nat.testBit_two_pow, decide_eq_true_eq] at h1
        rcases h1 with (h1 | h1) | h1
        · exact .inl h1
        · exact .inr ⟨e, .head _, hb, .inl h1.symm⟩
        · exact .inr ⟨e, .head _, hb, .inr h1⟩
    · exact .inr ⟨e', .tail _ h1, h2⟩
/-- What comes before something listed is listed. -/
theorem bits_listed {Li : Nat → Prop} : ∀ (os : List Oper) (acc : List Nat), (∀ j, Li (acc.length + j) → ∀ o, os[j]? = some o → ∀ e ∈ o.after.toList, Region.binds .any e = true → Li e.on) →
    (∀ j, Li j → ∀ x, ((acc[j]?).getD 0).testBit x = true → Li x) →
    (∀ j, Li j → ∀ x, (((bfGo os acc)[j]?).getD 0).testBit x = true → Li x) ∧
    ∀ j o, os[j]? = some o → (∀ e ∈ o.after.toList, Region.binds .any e = true → Li e.on) → ∀ x, (((bfGo os acc)[acc.length + j]?).getD 0).testBit x = true → Li x
  | [], acc, _, hacc => ⟨hacc, fun j o h => by simp at h⟩
  | o :: os, acc, hos, hacc => by
    have hnew : (∀ e ∈ o.after.toList, Region.binds .any e = true → Li e.on) → ∀ x, (bfOf acc o).testBit x = true → Li x := by
      intro he x hx
      rcases testBit_fold _ _ _ hx with h | ⟨e, h1, h2, rfl | h3⟩
      · simp at h
      · exact he e h1 h2
      · exact hacc _ (he e h1 h2) x h3
    have hkeep : ∀ (os : List Oper) (acc : List Nat) (j : Nat), j < acc.length → (bfGo os acc)[j]? = acc[j]? := by
      intro os
      induction os with
      | nil => intro acc j _; rfl
      | cons o os ih =>
        intro acc j hj
        simp only [bfGo]
        rw [ih _ _ (by simp; omega), List.getElem?_append_left hj]
    have ih := bits_listed (Li := Li) os (acc ++ [bfOf acc o]) (fun j hj o' ho' => by
        refine hos (j + 1) ?_ o' (by simpa using ho')
        rw [show acc.length + (j + 1) = (acc ++ [bfOf acc o]).length + j by simp; omega]; exact hj) (fun j hj x hx => by
        rcases Nat.lt_trichotomy j acc.length with h | h | h
        · rw [List.getElem?_append_left h] at hx; exact hacc j hj x hx
        · subst h
          rw [List.getElem?_append_right (Nat.le_refl _)] at hx
          simp at hx
          exact hnew (hos 0 (by simpa using hj) o (by simp)) x hx
        · rw [List.getElem?_eq_none (by simp; omega)] at hx
          simp at hx)
    refine ⟨ih.1, fun j o' ho' he x hx => ?_⟩
    cases j with
    | zero =>
      simp at ho'
      subst ho'
      simp only [bfGo, Nat.add_zero] at hx
      rw [hkeep os _ _ (by simp), List.getElem?_append_right (Nat.le_refl _)] at hx
      simp at hx
      exact hnew he x hx
    | succ j =>
      refine ih.2 j o' (by simpa using ho') he x ?_
      rw [show (acc ++ [bfOf acc o]).length + j = acc.length + (j + 1) by simp; omega]
      exact hx
theorem edges_spec : ∀ (os : List Oper) (i : Nat), edgesOk i os = true → ∀ j o, os[j]? = some o → ∀ e ∈ o.after.toList, Region.binds .any e = true → e.on < i + j
  | [], i, _, j, o, h, e, he, hb => by simp at h
  | o :: os, i, hok, j, o', h, e, he, hb => by
    simp only [edgesOk, Bool.and_eq_true, List.all_eq_true] at hok
    cases j with
    | zero =>
      simp at h
      subst h
      have := hok.1 e he
      rw [hb] at this
      have h3 : e.on < i := by simpa using this
      exact h3
    | succ j =>
      have := edges_spec os (i + 1) hok.2 j o' (by simpa using h) e he hb
      omega
theorem pairs_spec {all : List Oper} {bf : List Nat} : ∀ (l : List (Oper × Option Log)) (i : Nat), (∀ j p, l[j]? = some p → all[i + j]? = some p.1) → pairsOk bf all i l = true →
    ((List.range' i l.length).zip (l.map (·.2))).Pairwise fun p q => ((bf[q.1]?).getD 0).testBit p.1 = true ∨ Ap all p q
  | [], i, _, _ => .nil
  | (a, lg) :: rest, i, hl, hok => by
    simp only [pairsOk, Bool.and_eq_true] at hok
    have : (List.range' i ((a, lg) :: rest).length).zip (((a, lg) :: rest).map (·.2)) = (i, lg) :: (List.range' (i + 1) rest.length).zip (rest.map (·.2)) := by simp [List.range'_succ]
    rw [this]
    refine List.Pairwise.cons ?_ (pairs_spec rest (i + 1) (fun j p hp => by have := hl (j + 1) p (by simpa using hp); rw [show i + 1 + j = i + (j + 1) by omega]; exact this) hok.2)
    have hgo : ∀ (r : List (Oper × Option Log)) (k : Nat), (∀ j p, r[j]? = some p → all[k + j]? = some p.1) → pairsOk.go bf all i a lg k r = true → ∀ q ∈ (List.range' k r.length).zip (r.map (·.2)), ((bf[q.1]?).getD 0).testBit i = true ∨ Ap all (i, lg) q := by
      intro r
      induction r with
      | nil => intro k _ _ q hq; simp at hq
      | cons b r ih =>
        obtain ⟨b, m⟩ := b
        intro k hk hok q hq
        simp only [pairsOk.go, Bool.and_eq_true, Bool.or_eq_true] at hok
        have e : (List.range' k ((b, m) :: r).length).zip (((b, m) :: r).map (·.2)) = (k, m) :: (List.range' (k + 1) r.length).zip (r.map (·.2)) := by simp [List.range'_succ]
        rw [e] at hq
        rcases List.mem_cons.1 hq with rfl | hq
        · rcases hok.1 with h1 | ⟨h1, h2⟩
          · exact .inl h1
          · right
            have h0 := hl 0 (a, lg) (by simp)
            have hb := hk 0 (b, m) (by simp)
            cases lg with
            | none => simp [apartL] at h2
            | some l =>
              cases m with
              | none => simp [apartL] at h2
              | some l' => exact ⟨a, b, l, l', by simpa using h0, by simpa using hb, rfl, rfl, h1, h2⟩
        · exact ih (k + 1) (fun j p hp => by have := hk (j + 1) p (by simpa using hp); rw [show k + 1 + j = k + (j + 1) by omega]; exact this) hok.2 q hq
    exact hgo rest (i + 1) (fun j p hp => by have := hl (j + 1) p (by simpa using hp); rw [show i + 1 + j = i + (j + 1) by omega]; exact this) hok.1
end Go.Abs

namespace Go.Abs
set_option linter.unusedSimpArgs false
set_option linter.unusedVariables false
open Go.RowKit

/-- What a piece of code leaves of the ghosts below n. -/
structure Low (B : Base) (il : Bool) (n : Nat) (G G' : Gh) : Prop where
  vis : ∀ x u, x.top = true → (∀ i ∈ x.idsS, i < n) → VRelS B G x u → VRelS B G' x u
  same : il = true → ∀ id, id < n → G' id = G id
theorem Low.refl {B : Base} {il : Bool} {n : Nat} {G : Gh} : Low B il n G G := ⟨fun _ _ _ _ h => h, fun _ _ _ => rfl⟩
theorem Low.trans {B : Base} {il : Bool} {n : Nat} {G G' G'' : Gh} (h : Low B il n G G') (h' : Low B il n G' G'') : Low B il n G G'' :=
  ⟨fun x u ht hi hx => h'.vis x u ht hi (h.vis x u ht hi hx), fun hi id hid => (h'.same hi id hid).trans (h.same hi id hid)⟩
theorem Low.less {B : Base} {il : Bool} {n m : Nat} {G G' : Gh} (h : Low B il n G G') (hm' : m ≤ n) : Low B il m G G' :=
  ⟨fun x u ht hi hx => h.vis x u ht (fun i hm => Nat.lt_of_lt_of_le (hi i hm) hm') hx, fun hi id hid => h.same hi id (by omega)⟩
theorem Lo.low {B : Base} {il : Bool} {nb nx n : Nat} {G G' : Gh} (h : Lo B il nb nx G G') (h1 : n ≤ nb) (h2 : n ≤ nx) : Low B il n G G' :=
  ⟨fun x u ht _ hx => h.vis x u ht hx, fun hi id hid => h.same hi id (by omega) (by omega)⟩

/-- A region under way: the operations that are left have their own numbers. -/
structure Reg (B : Base) (G : Gh) (fr : Nat → Prop) (base : Nat) (L : List (Nat × Option Log)) (s : St) (a : Act) (w : World) (nt : Nat) : Prop where
  st : FrS B G fr s a w nt
  own : ∀ p ∈ L, ∀ id, base + 16 * p.1 ≤ id → id < base + 16 * p.1 + 16 → fr id
  top : ∀ id, s.next ≤ id → fr id
  lim : ∀ p ∈ L, base + 16 * p.1 + 16 ≤ s.next
  ge : base ≤ s.next
/-- What a region is to leave. -/
structure Done (B : Base) (G0 : Gh) (il : Bool) (base nt : Nat) (s' : St) (Q : Exit → Act → World → Prop) : Prop where
  out : ∀ a' w' G', FrS B G' (fun id => s'.next ≤ id) s' a' w' nt → Low B il base G0 G' → base ≤ s'.next → Q .normal a' w'

section
variable {B : Base} {c : Ctx} {inl : Inl} {ops : Array Oper} {base nt : Nat} {s s' : St} {a : Act} {w : World} {G G0 : Gh} {fr : Nat → Prop} {Q : Exit → Act → World → Prop}

/-- One operation out of those that are left. -/
theorem reg_step (hc : CtxS B c inl) (hd : ∀ o ∈ ops.toList, ∀ t, o.dst = some t → t < nt) {p : Nat × Option Log} {L L' : List (Nat × Option Log)} (hp : p ∈ L) (hL : ∀ q ∈ L', q ∈ L) (hne : ∀ q ∈ L', q.1 ≠ p.1)
    (hr : Reg B G fr base L s a w nt) (hlo : Low B c.inl base G0 G) {s1 : St} (hst : StepA c inl ops.toList base p s s1) {K : Act → World → Prop}
    (hK : ∀ a' w' G' fr', Reg B G' fr' base L' s1 a' w' nt → Low B c.inl base G0 G' → K a' w') : wpOp B.P ops Q p.1 K a w := by
  obtain ⟨o, ho, hg⟩ := hst.go
  have hi : ops[p.1]? = some o := by simpa using ho
  have hnx := hr.lim p hp
  have hmem : o ∈ ops.toList := List.mem_of_getElem? ho
  have hle := (guarded_sound (K := fun _ _ => True) (Q := Q) hi rfl hc hr.st (hr.own p hp) hr.top hnx (hd o hmem) hg fun _ _ _ _ => trivial).2
  refine (guarded_sound hi rfl hc hr.st (hr.own p hp) hr.top hnx (hd o hmem) hg fun a' w' G' hn => ?_).1
  refine hK a' w' G' _ ⟨hn.st, fun q hq id h1 h2 => ?_, fun id h => ?_, fun q hq => Nat.le_trans (hr.lim q (hL q hq)) hle, Nat.le_trans hr.ge hle⟩ (hlo.trans (hn.lo.low (by omega) hr.ge))
  · have := hne q hq
    have h3 := hr.lim q (hL q hq)
    exact ⟨hr.own q (hL q hq) id h1 h2, by omega, by omega⟩
  · exact ⟨hr.top id (by omega), by omega, by omega⟩

theorem reg_end (hr : Reg B G fr base [] s a w nt) (hlo : Low B c.inl base G0 G) (hQ : Done B G0 c.inl base nt s Q) : Q .normal a w :=
  hQ.out a w G ⟨hr.st.sim, hr.st.env, hr.st.defers, hr.st.size, fun id h => hr.st.free id (hr.top id h)⟩ hlo hr.ge

theorem ops_sound (hc : CtxS B c inl) (hd : ∀ o ∈ ops.toList, ∀ t, o.dst = some t → t < nt) (hQ : Done B G0 c.inl base nt s' Q) :
    ∀ (L : List (Nat × Option Log)) (s : St) (a : Act) (w : World) (G : Gh) (fr : Nat → Prop), RunA c inl ops.toList base L s s' → (L.map (·.1)).Nodup → Reg B G fr base L s a w nt → Low B c.inl base G0 G →
    wpOps B.P ops Q (L.map (·.1)) a w
  | [], s, a, w, G, fr, hrun, _, hr, hlo => by
    cases hrun
    exact reg_end hr hlo hQ
  | p :: L, s, a, w, G, fr, hrun, hnd, hr, hlo => by
    obtain ⟨s1, h1, h2⟩ := hrun
    simp only [List.map_cons, List.nodup_cons] at hnd
    rw [List.map_cons, wpOps_cons]
    refine reg_step hc hd (.head _) (fun q hq => .tail _ hq) (fun q hq e => hnd.1 (List.mem_map.2 ⟨q, hq, e⟩)) hr hlo h1 fun a' w' G' fr' hr' hlo' => ?_
    exact ops_sound hc hd hQ L s1 a' w' G' fr' h2 hnd.2 hr' hlo'

/-- The operations that are left, in their order; the listed. -/
structure Left (ops : Array Oper) (bf : List Nat) (listed : Array Bool) (L : List (Nat × Option Log)) : Prop where
  asc : L.Pairwise fun p q => p.1 < q.1
  apart : L.Pairwise fun p q => ((bf[q.1]?).getD 0).testBit p.1 = true ∨ Ap ops.toList p q
  size : listed.size = ops.size
  iff : ∀ i, i < ops.size → (listed.getD i true = false ↔ i ∈ L.map (·.1))
  lt : ∀ p ∈ L, p.1 < ops.size
  closed : ∀ j, listed.getD j false = true → ∀ o, ops[j]? = some o → ∀ e ∈ o.after.toList, Region.binds .any e = true → listed.getD e.on false = true

theorem getD_ft {l : Array Bool} {i : Nat} (h : i < l.size) : l.getD i false = l.getD i true := by simp [h]
theorem binds_any {md : Region.Mode} {e : Edge} (h : Region.binds .any e = true) : Region.binds md e = true := by
  unfold Region.binds at *
  split at h <;> simp_all
theorem any_sound (hc : CtxS B c inl) (hd : ∀ o ∈ ops.toList, ∀ t, o.dst = some t → t < nt) (hQ : Done B G0 c.inl base nt s' Q)
    (hedge : ∀ (j : Nat) (o : Oper), ops[j]? = some o → ∀ e ∈ o.after.toList, Region.binds .any e = true → e.on < j) :
    ∀ (fuel : Nat) (L : List (Nat × Option Log)) (listed : Array Bool) (s : St) (a : Act) (w : World) (G : Gh) (fr : Nat → Prop), L.length = fuel → RunA c inl ops.toList base L s s' → Srt s.heap →
      Left ops (bfGo ops.toList []) listed L → Reg B G fr base L s a w nt → Low B c.inl base G0 G → wpAny B.P .any ops Q fuel listed a w := by
  intro fuel
  induction fuel with
  | zero =>
    intro L listed s a w G fr hl hrun hs hL hr hlo
    have : L = [] := List.eq_nil_of_length_eq_zero hl
    subst this
    cases hrun
    refine ⟨?_, reg_end hr hlo hQ⟩
    cases hrd : Region.ready .any ops listed with
    | nil => rfl
    | cons i is =>
      have hi : i ∈ Region.ready .any ops listed := by rw [hrd]; exact .head _
      obtain ⟨h0, o, ho, _⟩ := mem_ready.1 hi
      have hlt : i < ops.size := (Array.getElem?_eq_some_iff.1 ho).1
      have := (hL.iff i hlt).1 h0
      simp at this
  | succ fuel ih =>
    intro L listed s a w G fr hl hrun hs hL hr hlo
    refine ⟨fun hnil => ?_, fun i hi => ?_⟩
    · -- the first that is left is ready
      exfalso
      cases L with
      | nil => simp at hl
      | cons p L =>
        have hlt := hL.lt p (.head _)
        have : p.1 ∈ Region.ready .any ops listed := by
          refine mem_ready.2 ⟨(hL.iff p.1 hlt).2 (by simp), ops[p.1], by simp [hlt], fun e he heb => ?_⟩
          have hon := hedge p.1 ops[p.1] (by simp [hlt]) e (by simpa using he) heb
          have hon2 : e.on < listed.size := by rw [hL.size]; omega
          rw [getD_ft hon2]
          cases hb : listed.getD e.on true with
          | true => rfl
          | false =>
            have := (hL.iff e.on (by omega)).1 hb
            obtain ⟨q, hq, he2⟩ := List.mem_map.1 this
            have hasc := List.pairwise_cons.1 hL.asc
            rcases List.mem_cons.1 hq with rfl | hq
            · omega
            · have := hasc.1 q hq
              omega
        rw [hnil] at this
        cases this
    · obtain ⟨h0, o, ho, hall⟩ := mem_ready.1 hi
      have hlt : i < ops.size := (Array.getElem?_eq_some_iff.1 ho).1
      obtain ⟨p, hp, hpi⟩ := List.mem_map.1 ((hL.iff i hlt).1 h0)
      obtain ⟨A, C, rfl⟩ := List.append_of_mem hp
      subst hpi
      -- what stands before it is apart
      have hap : ∀ x ∈ A, Ap ops.toList x p := by
        intro x hx
        have := (List.pairwise_append.1 hL.apart).2.2 x hx p (.head _)
        refine this.resolve_left fun hbit => ?_
        have hbits := (bits_listed (Li := fun j => listed.getD j false = true) ops.toList [] (fun j hj o' ho' e he hb => hL.closed j (by simpa using hj) o' (by simpa using ho') e he hb) (fun j _ y hy => by simp at hy)).2 p.1 o (by simpa using ho)
          (fun e he hb => hall e (by simpa using he) hb) x.1 (by simpa using hbit)
        have hx2 : x ∈ A ++ p :: C := List.mem_append_left _ hx
        have hxlt := hL.lt x hx2
        have h3 := (hL.iff x.1 hxlt).2 (List.mem_map.2 ⟨x, hx2, rfl⟩)
        rw [getD_ft (by rw [hL.size]; exact hxlt), h3] at hbits
        cases hbits
      obtain ⟨s1, h1, h2⟩ := bubble A hs hrun hap
      have hasc := List.pairwise_append.1 hL.asc
      have hpc := List.pairwise_cons.1 hasc.2.1
      have hne : ∀ q ∈ A ++ C, q.1 ≠ p.1 := by
        intro q hq
        rcases List.mem_append.1 hq with hq | hq
        · have := hasc.2.2 q hq p (.head _); omega
        · have := hpc.1 q hq; omega
      have hsub : ∀ q ∈ A ++ C, q ∈ A ++ p :: C := by
        intro q hq
        rcases List.mem_append.1 hq with hq | hq
        · exact List.mem_append_left _ hq
        · exact List.mem_append_right _ (.tail _ hq)
      refine reg_step hc hd hp hsub hne hr hlo h1 fun a' w' G' fr' hr' hlo' => ?_
      refine ih (A ++ C) (listed.setIfInBounds p.1 true) s1 a' w' G' fr' (by simp at hl ⊢; omega) h2 (h1.sorted hs) ⟨?_, ?_, by simp [hL.size], fun j hj => ?_, fun q hq => hL.lt q (hsub q hq), fun j hj o' ho' e he hb => ?_⟩ hr' hlo'
      · exact hL.asc.sublist (List.Sublist.append_left (List.sublist_cons_self _ _) _)
      · exact hL.apart.sublist (List.Sublist.append_left (List.sublist_cons_self _ _) _)
      · by_cases e : p.1 = j
        · subst e
          have hset : (listed.setIfInBounds p.1 true).getD p.1 true = true := by simp [hL.size, hlt]
          rw [hset]
          refine ⟨fun h => (by cases h), fun h => ?_⟩
          obtain ⟨q, hq, he⟩ := List.mem_map.1 h
          exact absurd he (hne q hq)
        · rw [getD_set_ne true e, hL.iff j hj]
          simp only [List.map_append, List.map_cons, List.mem_append, List.mem_cons]
          constructor
          · rintro (h | rfl | h)
            · exact .inl h
            · exact absurd rfl e
            · exact .inr h
          · rintro (h | h)
            · exact .inl h
            · exact .inr (.inr h)
      · by_cases e2 : p.1 = j
        · subst e2
          rw [ho] at ho'
          cases ho'
          exact getD_set_true (hall e (by simpa using he) hb)
        · rw [getD_set_ne false e2] at hj
          exact getD_set_true (hL.closed j hj o' ho' e he hb)

/-! ### the whole region -/
theorem Sim.drew {h : Heap} (s : Sim B G h w) (n : Nat) : Sim B G h { w with drawn := n } := by
  refine ⟨fun id o ho => ?_, s.nodup, s.mine, s.apart, s.os, s.tape, s.output, s.size, s.safe⟩
  have := s.obj id o ho
  cases o with
  | box cs => exact this
  | robox cs => exact this
  | row r rows =>
    obtain ⟨l, v, hg, hv⟩ := this
    exact ⟨l, v, hg, hv.keep _ _ _ _ fun _ _ => rfl⟩
  | part root cols r rows lo hi =>
    obtain ⟨loc, kids, hg, hv⟩ := this
    exact ⟨loc, kids, hg, hv.keep fun _ _ => rfl⟩
theorem region_sound (hc : CtxS B c inl) (hd : ∀ o ∈ ops.toList, ∀ t, o.dst = some t → t < nt) {id : Nat} {draw : Bool} (hs : FrS B G (fun i => s.next ≤ i) s a w nt)
    (hev : (regRun c inl ops draw s).Has s') (hQ : Done B G c.inl s.next nt s' Q) : (Code.region id ops draw).wp B.P Q a w := by
  unfold regRun at hev
  obtain ⟨⟨s1, ls⟩, h1, h2⟩ := (D.has_andThen _ _ _).1 hev
  simp only at h2
  obtain ⟨ls', e1, e2, hrun⟩ := opsRun_run (all := ops.toList) (base := s.next) ops.toList 0 _ [] s1 ls (fun j o h => by simpa using h) (by simpa using h1)
  simp only [List.reverse_nil, List.nil_append] at e1
  subst e1
  have hreg : ∀ w, Sim B G s.heap w → Reg B G (fun i => s.next ≤ i) s.next ((List.range' 0 ops.toList.length).zip ls) { s with next := s.next + 16 * ops.toList.length } a w nt := fun w hw =>
    ⟨⟨hw, hs.env, hs.defers, hs.size, hs.free⟩, fun p hp i hi _ => by omega, fun i hi => by simp only at hi; omega, fun p hp => by
      have := (List.mem_range'_1.1 (List.of_mem_zip hp).1).2
      simp only
      omega, by simp only; omega⟩
  cases draw with
  | false =>
    simp only [Bool.not_false, Bool.true_or, cond_true, D.Has] at h2
    subst h2
    have := ops_sound hc hd hQ _ _ a w G _ hrun (by
      rw [List.map_fst_zip (by simp [e2])]
      exact List.nodup_range') (hreg w hs.sim) .refl
    rw [List.map_fst_zip (by simp [e2])] at this
    refine wp_region ?_
    rw [List.range_eq_range']
    simpa using this
  | true =>
    cases hb : (sortedH s.heap && edgesOk 0 ops.toList && pairsOk (bfGo ops.toList []) ops.toList 0 (ops.toList.zip ls)) with
    | false => rw [hb] at h2; exact h2.elim
    | true =>
      rw [hb] at h2
      simp only [Bool.not_true, Bool.false_or, cond_true, D.Has] at h2
      subst h2
      simp only [Bool.and_eq_true] at hb
      obtain ⟨⟨hb1, hb2⟩, hb3⟩ := hb
      have hpairs := pairs_spec (all := ops.toList) _ 0 (fun j p hp => by
        rw [List.getElem?_zip_eq_some] at hp
        simpa using hp.1) hb3
      rw [List.map_snd_zip (by simp [e2]), List.length_zip, e2, Nat.min_self] at hpairs
      have hedge : ∀ (j : Nat) (o : Oper), ops[j]? = some o → ∀ e ∈ o.after.toList, Region.binds .any e = true → e.on < j := fun j o ho e he heb => by
        have := edges_spec ops.toList 0 hb2 j o (by simpa using ho) e he heb
        omega
      have hany : wpAny B.P .any ops Q ops.size (Array.replicate ops.size false) a { w with drawn := w.drawn + 1 } :=
        any_sound hc hd hQ hedge ops.size _ _ _ a _ G _ (by simp [e2]) hrun (Srt.of hb1) ⟨by
            have h1 : ((List.range' 0 ops.toList.length).zip ls).map (·.1) = List.range' 0 ops.toList.length := List.map_fst_zip (by simp [e2])
            have h2 := List.pairwise_lt_range' (s := 0) (n := ops.toList.length)
            rw [← h1, List.pairwise_map] at h2
            exact h2, hpairs, by simp, fun i hi => by
              rw [List.map_fst_zip (by simp [e2])]
              simp [hi, List.mem_range'_1], fun p hp => by
              have := (List.mem_range'_1.1 (List.of_mem_zip hp).1).2
              simpa using this, fun j hj => by
              exfalso
              by_cases h : j < ops.size
              · simp [h] at hj
              · simp [h] at hj⟩ (hreg _ (hs.sim.drew _)) .refl
      exact wp_region_any hc.mix hany
end
end Go.Abs

namespace Go.Abs
set_option linter.unusedSimpArgs false
set_option linter.unusedVariables false
open Go.RowKit

/-! ### the head of a loop -/
theorem forgetV_bor (t : Option Nat) (r : RT) (x : List r.den) : forgetV (.bor t r x) = .bor none r x ∨ forgetV (.bor t r x) = .bor t r x := by
  cases t with
  | none => exact .inl rfl
  | some t =>
    simp only [forgetV]
    cases isFz t with
    | true => exact .inr rfl
    | false => exact .inl rfl
theorem forgetV_rel {B : Base} {G : Gh} {v : AV} {u : Value} (h : VRelS B G v u) : VRelS B G (forgetV v) u := by
  cases v with
  | bor t r x =>
    rcases forgetV_bor t r x with e | e
    · rw [e]; exact ⟨h.1, fun i hi => by cases hi⟩
    · rw [e]; exact h
  | _ => exact h
theorem forgetL_rel {B : Base} {G : Gh} : ∀ {cs : List AV} {vs : List Value}, VRelL B G cs vs → VRelL B G (cs.map forgetV) vs
  | [], [], _ => trivial
  | _ :: _, _ :: _, h => ⟨forgetV_rel h.1, forgetL_rel h.2⟩
  | [], _ :: _, h => h.elim
  | _ :: _, [], h => h.elim
theorem forgetA_rel {B : Base} {G : Gh} {v : AV} {u : Value} (h : VRel B G v u) : VRel B G (forgetA v) u := by
  cases v with
  | agg cs => obtain ⟨vs, e, x⟩ := h; exact ⟨vs, e, forgetL_rel x⟩
  | func f cs => exact h
  | tup cs => exact h
  | bor t r x =>
    have h2 : VRelS B G (forgetV (.bor t r x)) u := forgetV_rel (v := .bor t r x) h
    show VRel B G (forgetV (.bor t r x)) u
    rcases forgetV_bor t r x with e | e <;> (rw [e] at h2 ⊢; exact h2)
  | _ => exact h
theorem getE_forgetE : ∀ (e : Env) (t : Nat), getE (forgetE e) t = forgetA (getE e t)
  | [], t => rfl
  | (s, v) :: r, t => by
    simp only [forgetE, getE]
    cases Nat.beq s t with
    | true => rfl
    | false => exact getE_forgetE r t
theorem untup_rel {B : Base} {G : Gh} {v : AV} {u : Value} (h : VRel B G v u) : VRel B G v.untup u := by
  cases v with
  | tup cs => trivial
  | _ => exact h
theorem keepS_rel {B : Base} {G : Gh} {e : Env} {a : Act} (h : EnvR B G e a) : ∀ ts : List Nat, EnvR B G (keepS e ts) a
  | [] => ⟨fun t => trivial⟩
  | s :: ts => ⟨fun t => by
      have ih := keepS_rel h ts
      simp only [keepS, getE]
      by_cases hs : s = t
      · subst hs
        simp only [Nat.beq_refl, cond_true]
        exact untup_rel (h.rel s)
      · rw [beq_false hs]
        exact ih.rel t⟩
theorem forgetE_rel {B : Base} {G : Gh} {e : Env} {a : Act} (h : EnvR B G e a) : EnvR B G (forgetE e) a :=
  ⟨fun t => by rw [getE_forgetE]; exact forgetA_rel (h.rel t)⟩

/-- New objects, with nothing in them. -/
def emptyG : GO := .row (.sl .nil [])
structure News (k k' : Nat) (hn : Heap) : Prop where
  le : k ≤ k'
  rows : ∀ id o, getO hn id = some o → k ≤ id ∧ id < k' ∧ ∃ r, o = .row r []
theorem getO_append : ∀ (h g : Heap) (id : Nat), getO (h ++ g) id = (getO h id).or (getO g id)
  | [], g, id => by simp [getO]
  | (s, o) :: r, g, id => by
    simp only [List.cons_append, getO]
    cases Nat.beq s id with
    | true => rfl
    | false => exact getO_append r g id
theorem News.append {k k1 k2 : Nat} {h g : Heap} (x : News k k1 h) (y : News k1 k2 g) : News k k2 (h ++ g) := by
  refine ⟨Nat.le_trans x.le y.le, fun id o ho => ?_⟩
  rw [getO_append] at ho
  cases hh : getO h id with
  | some o' =>
    rw [hh] at ho
    simp only [Option.some_or, Option.some.injEq] at ho
    subst ho
    obtain ⟨h1, h2, h3⟩ := x.rows id o' hh
    exact ⟨h1, Nat.lt_of_lt_of_le h2 y.le, h3⟩
  | none =>
    rw [hh] at ho
    simp only [Option.none_or] at ho
    obtain ⟨h1, h2, h3⟩ := y.rows id o ho
    exact ⟨Nat.le_trans x.le h1, h2, h3⟩
theorem News.nil (k : Nat) : News k k [] := ⟨Nat.le_refl _, fun id o h => by cases h⟩
def Covers (G1 : Gh) (k k' : Nat) : Prop := ∀ id, k ≤ id → id < k' → G1 id = some emptyG
theorem widenS_news (v : AV) (k : Nat) : News k (widenS v k).2.2 (widenS v k).2.1 := by
  unfold widenS
  split
  · rename_i r
    refine ⟨Nat.le_succ k, fun id o ho => ?_⟩
    simp only [getO] at ho
    by_cases e : k = id
    · subst e
      simp only [Nat.beq_refl, cond_true, Option.some.injEq] at ho
      exact ⟨Nat.le_refl _, Nat.lt_succ_self _, r, ho.symm⟩
    · rw [beq_false e] at ho; cases ho
  · exact .nil k
theorem widenS_rel {B : Base} {G : Gh} {v : AV} {u : Value} (h : VRelS B G v u) (k : Nat) : ∀ G1 : Gh, G.le G1 → Covers G1 k (widenS v k).2.2 → VRelS B G1 (widenS v k).1 u := by
  unfold widenS
  split
  · rename_i r
    refine fun G1 hle hc => ⟨.nil, 0, ?_, h⟩
    unfold Gh.at
    rw [hc k (Nat.le_refl _) (Nat.lt_succ_self _)]
    rfl
  · exact fun G1 hle _ => VRelS.mono hle (forgetV_rel h)
theorem widenL_news : ∀ (cs : List AV) (k : Nat), News k (widenL cs k).2.2 (widenL cs k).2.1
  | [], k => .nil k
  | v :: cs, k => (widenS_news v k).append (widenL_news cs (widenS v k).2.2)
theorem widenL_rel {B : Base} {G : Gh} : ∀ {cs : List AV} {vs : List Value} (k : Nat), VRelL B G cs vs → ∀ G1 : Gh, G.le G1 → Covers G1 k (widenL cs k).2.2 → VRelL B G1 (widenL cs k).1 vs
  | [], [], k, _ => fun _ _ _ => trivial
  | v :: cs, u :: vs, k, h => fun G1 hle hc => ⟨widenS_rel h.1 k G1 hle fun id a b => hc id a (Nat.lt_of_lt_of_le b (widenL_news cs _).le), widenL_rel (widenS v k).2.2 h.2 G1 hle fun id a b => hc id (Nat.le_trans (widenS_news v k).le a) b⟩
  | [], _ :: _, k, h => h.elim
  | _ :: _, [], k, h => h.elim
/-- An object, maybe with other cells that are told of the same values. -/
def WideO (B : Base) (G : Gh) (k k' : Nat) (o o' : Obj) : Prop :=
  o' = o ∨ ∃ cs cs', o = .box cs ∧ o' = .box cs' ∧ ∀ G1 : Gh, G.le G1 → Covers G1 k k' → ∀ vs, VRelL B G cs vs → VRelL B G1 cs' vs
theorem widenH_rel {B : Base} {G : Gh} (c0 : Nat) : ∀ (h : Heap) (k : Nat),
    News k (widenH c0 h k).2.2 (widenH c0 h k).2.1 ∧ ∀ id o', getO (widenH c0 h k).1 id = some o' → ∃ o, getO h id = some o ∧ WideO B G k (widenH c0 h k).2.2 o o'
  | [], k => ⟨.nil k, fun id o' h => by cases h⟩
  | (t, o) :: r, k => by
    have plain : ∀ (o : Obj), News k (widenH c0 r k).2.2 (widenH c0 r k).2.1 ∧ ∀ id o', getO ((t, o) :: (widenH c0 r k).1) id = some o' → ∃ o1, getO ((t, o) :: r) id = some o1 ∧ WideO B G k (widenH c0 r k).2.2 o1 o' := by
      intro o
      have ih := widenH_rel (B := B) (G := G) c0 r k
      refine ⟨ih.1, fun id o' ho => ?_⟩
      simp only [getO] at ho ⊢
      cases hbq : Nat.beq t id with
      | true => rw [hbq] at ho; simp only [cond_true, Option.some.injEq] at ho ⊢; subst ho; exact ⟨o, rfl, .inl rfl⟩
      | false => rw [hbq] at ho; simp only [cond_false] at ho ⊢; exact ih.2 id o' ho
    cases o with
    | robox cs => exact plain _
    | row q x => exact plain _
    | part rt cols q x lo hi => exact plain _
    | box cs =>
      simp only [widenH]
      cases hlt : Nat.blt t c0 with
      | true => exact plain _
      | false =>
        simp only [cond_false]
        have h1 := widenL_news cs k
        have ih := widenH_rel (B := B) (G := G) c0 r (widenL cs k).2.2
        refine ⟨h1.append ih.1, fun id o' ho => ?_⟩
        simp only [getO] at ho ⊢
        cases hbq : Nat.beq t id with
        | true =>
          rw [hbq] at ho
          simp only [cond_true, Option.some.injEq] at ho ⊢
          subst ho
          exact ⟨_, rfl, .inr ⟨cs, _, rfl, rfl, fun G1 hle hc vs hvs => widenL_rel k hvs G1 hle fun id a b => hc id a (Nat.lt_of_lt_of_le b ih.1.le)⟩⟩
        | false =>
          rw [hbq] at ho
          simp only [cond_false] at ho ⊢
          obtain ⟨o, h2, h3⟩ := ih.2 id o' ho
          exact ⟨o, h2, h3.imp (fun x => x) fun ⟨cs, cs', e1, e2, h⟩ => ⟨cs, cs', e1, e2, fun G1 hle hc => h G1 hle fun id a b => hc id (Nat.le_trans h1.le a) b⟩⟩

def wideG (G : Gh) (k k' : Nat) : Gh := fun id => if k ≤ id ∧ id < k' then some emptyG else G id
theorem wide_sim {B : Base} {G : Gh} {h : Heap} {w : World} (s : Sim B G h w) (c0 n : Nat) (hf : ∀ id, n ≤ id → G id = none) :
    Sim B (wideG G n (widenH c0 h n).2.2) ((widenH c0 h n).1 ++ (widenH c0 h n).2.1) w ∧ G.le (wideG G n (widenH c0 h n).2.2) ∧ (∀ id, id < n → wideG G n (widenH c0 h n).2.2 id = G id) := by
  obtain ⟨hnews, hold⟩ := widenH_rel (B := B) (G := G) c0 h n
  generalize (widenH c0 h n).2.2 = k at *
  generalize (widenH c0 h n).2.1 = hn at *
  generalize (widenH c0 h n).1 = hb at *
  have hlow : ∀ id, id < n → wideG G n k id = G id := fun id hid => by unfold wideG; rw [if_neg (by omega)]
  have hsame : ∀ id go, G id = some go → wideG G n k id = some go := by
    intro id go hg
    rcases Nat.lt_or_ge id n with h1 | h1
    · rw [hlow id h1]; exact hg
    · rw [hf id h1] at hg; cases hg
  have hle := Gh.le_of_same hsame
  have hcov : Covers (wideG G n k) n k := fun id h1 h2 => by unfold wideG; rw [if_pos ⟨h1, h2⟩]
  -- each object: an old one, or an empty row
  have cases_ : ∀ id o', getO (hb ++ hn) id = some o' → (∃ o go, getO h id = some o ∧ WideO B G n k o o' ∧ G id = some go ∧ wideG G n k id = some go) ∨ (n ≤ id ∧ id < k ∧ wideG G n k id = some emptyG ∧ ∃ r, o' = .row r []) := by
    intro id o' ho
    rw [getO_append] at ho
    cases hh : getO hb id with
    | some o1 =>
      rw [hh] at ho
      simp only [Option.some_or, Option.some.injEq] at ho
      subst ho
      obtain ⟨o, h1, h2⟩ := hold id o1 hh
      have hor := s.obj id o h1
      have : ∃ go, G id = some go := by
        cases o with
        | box cs => obtain ⟨b, _, _, hg, _⟩ := hor; exact ⟨_, hg⟩
        | robox cs => obtain ⟨b, _, hg, _⟩ := hor; exact ⟨_, hg⟩
        | row r rows => obtain ⟨l, _, hg, _⟩ := hor; exact ⟨_, hg⟩
        | part rt cols r rows lo hi => obtain ⟨l, _, hg, _⟩ := hor; exact ⟨_, hg⟩
      obtain ⟨go, hg⟩ := this
      exact .inl ⟨o, go, h1, h2, hg, hsame id go hg⟩
    | none =>
      rw [hh] at ho
      simp only [Option.none_or] at ho
      obtain ⟨h1, h2, r, h3⟩ := hnews.rows id o' ho
      exact .inr ⟨h1, h2, hcov id h1 h2, r, h3⟩
  have own_ : ∀ {o o' : Obj}, WideO B G n k o o' → ownd o' = ownd o := by
    intro o o' hw
    rcases hw with rfl | ⟨cs, cs', rfl, rfl, _⟩ <;> rfl
  have obl_ : ∀ {o o' : Obj} {go : GO}, WideO B G n k o o' → obl o' go = obl o go := by
    intro o o' go hw
    rcases hw with rfl | ⟨cs, cs', rfl, rfl, _⟩ <;> rfl
  refine ⟨⟨fun id o' ho => ?_, fun id o' go ho how hg => ?_, fun id o' go ho how hg => ?_, fun i j o o' go go' hij ho ho' how how' hg hg' => ?_, s.os, s.tape, s.output, s.size, s.safe⟩, hle, hlow⟩
  · rcases cases_ id o' ho with ⟨o, go, h1, h2, hg, hg'⟩ | ⟨_, _, hg, r, rfl⟩
    · have hor := s.obj id o h1
      rcases h2 with rfl | ⟨cs, cs', rfl, rfl, hrel⟩
      · exact ORel.mono hle (fun l hl => hsame id _ hl) hor
      · obtain ⟨b, vals, e, hgb, hc, hv⟩ := hor
        exact ⟨b, vals, e, hsame id _ hgb, hc, hrel _ hle hcov _ hv⟩
    · exact ⟨_, .slice none 0 0, hg, .nil, [], rfl, rfl, rfl, rfl, fun b off cap sz e => by cases e⟩
  · rcases cases_ id o' ho with ⟨o, go', h1, h2, hg', hg''⟩ | ⟨_, _, hg', r, rfl⟩
    · rw [hg''] at hg; cases hg
      rw [obl_ h2]
      exact s.nodup id o _ h1 (by rw [← own_ h2]; exact how) hg'
    · rw [hg'] at hg; cases hg
      exact List.nodup_nil
  · rcases cases_ id o' ho with ⟨o, go', h1, h2, hg', hg''⟩ | ⟨_, _, hg', r, rfl⟩
    · rw [hg''] at hg; cases hg
      rw [obl_ h2]
      exact s.mine id o _ h1 (by rw [← own_ h2]; exact how) hg'
    · rw [hg'] at hg; cases hg
      intro b hb
      cases hb
  · rcases cases_ i o ho with ⟨o1, go1, h1, h2, hg1, hg2⟩ | ⟨_, _, hg1, r, rfl⟩
    · rw [hg2] at hg; cases hg
      rcases cases_ j o' ho' with ⟨o3, go3, h3, h4, hg3, hg4⟩ | ⟨_, _, hg3, r, rfl⟩
      · rw [hg4] at hg'; cases hg'
        rw [obl_ h2, obl_ h4]
        exact s.apart i j o1 o3 _ _ hij h1 h3 (by rw [← own_ h2]; exact how) (by rw [← own_ h4]; exact how') hg1 hg3
      · rw [hg3] at hg'; cases hg'
        intro b _ hb
        cases hb
    · rw [hg1] at hg; cases hg
      intro b hb
      cases hb

/-! ### counted anew -/
theorem reach_spec (h : Heap) (c0 : Nat) : ∀ (n : Nat) (todo seen : List Nat), seen.Nodup → (∀ x ∈ seen, c0 ≤ x) → (reach h c0 n todo seen).Nodup ∧ ∀ x ∈ reach h c0 n todo seen, c0 ≤ x
  | 0, todo, seen, h1, h2 => ⟨h1, h2⟩
  | n + 1, [], seen, h1, h2 => ⟨h1, h2⟩
  | n + 1, id :: todo, seen, h1, h2 => by
    simp only [reach]
    cases hb : (Nat.blt id c0 || memN seen id) with
    | true => exact reach_spec h c0 n todo seen h1 h2
    | false =>
      simp only [Bool.or_eq_false_iff] at hb
      have hge : c0 ≤ id := by
        rcases Nat.lt_or_ge id c0 with h3 | h3
        · exact absurd hb.1 (by rw [show Nat.blt id c0 = true from Nat.ble_eq_true_of_le h3]; simp)
        · exact h3
      have hni : id ∉ seen := fun hm => by rw [(memN_iff seen id).2 hm] at hb; cases hb.2
      simp only [cond_false]
      cases getO h id with
      | none => exact reach_spec h c0 n todo seen h1 h2
      | some o =>
        refine reach_spec h c0 n _ _ (List.nodup_append.2 ⟨h1, by simp, fun a ha b hb2 => ?_⟩) fun x hx => ?_
        · simp only [List.mem_singleton] at hb2
          subst hb2
          exact fun e => hni (e ▸ ha)
        · rcases List.mem_append.1 hx with hx | hx
          · exact h2 x hx
          · simp only [List.mem_singleton] at hx
            subst hx
            exact hge
theorem renId_spec {c0 : Nat} : ∀ {m : List Nat} {id k j : Nat}, renId m c0 id k = some j → ∃ i, j = k + i ∧ m[i]? = some id
  | [], id, k, j, h => by cases h
  | x :: xs, id, k, j, h => by
    simp only [renId] at h
    by_cases e : x = id
    · subst e
      simp only [Nat.beq_refl, cond_true, Option.some.injEq] at h
      exact ⟨0, by omega, rfl⟩
    · rw [beq_false e] at h
      obtain ⟨i, h1, h2⟩ := renId_spec (m := xs) h
      exact ⟨i + 1, by omega, by simpa using h2⟩
def renG (G : Gh) (m : List Nat) (c0 : Nat) : Gh := fun id => if id < c0 then G id else (m[id - c0]?).bind G
theorem blt_iff (a b : Nat) : Nat.blt a b = true ↔ a < b := ⟨Nat.le_of_ble_eq_true, fun h => Nat.ble_eq_true_of_le h⟩
theorem blt_false {a b : Nat} (h : ¬ a < b) : Nat.blt a b = false := by
  cases hb : Nat.blt a b with
  | false => rfl
  | true => exact absurd ((blt_iff a b).1 hb) h
theorem renG_id {G : Gh} {m : List Nat} {c0 id j : Nat} (h : renId m c0 id c0 = some j) : renG G m c0 j = G id := by
  obtain ⟨i, rfl, hi⟩ := renId_spec h
  unfold renG
  rw [if_neg (by omega), show c0 + i - c0 = i by omega, hi]
  rfl
theorem at_congr {G G' : Gh} {i j : Nat} (h : G' j = G i) (p : List (Int × Nat)) : G'.at j p = G.at i p := by unfold Gh.at; rw [h]
theorem renS_rel {B : Base} {G : Gh} {m : List Nat} {c0 : Nat} {v : AV} {u : Value} (h : VRelS B G v u) : VRelS B (renG G m c0) (v.renS m c0) u := by
  have key : ∀ (id : Nat) (f : Nat → AV), (∀ j, renG G m c0 j = G id → VRelS B (renG G m c0) (f j) u) → VRelS B (renG G m c0) (bif Nat.blt id c0 then f id else match renId m c0 id c0 with | some j => f j | none => .undef) u := by
    intro id f hf
    cases hb : Nat.blt id c0 with
    | true =>
      refine hf id ?_
      unfold renG
      rw [if_pos ((blt_iff _ _).1 hb)]
    | false =>
      simp only [cond_false]
      cases hr : renId m c0 id c0 with
      | none => trivial
      | some j => exact hf j (renG_id hr)
  cases v with
  | ref id p vw =>
    refine key id (fun j => .ref j p vw) fun j hj => ?_
    cases vw with
    | none => obtain ⟨loc, n, h1, h2⟩ := h; exact ⟨loc, n, by rw [at_congr hj]; exact h1, h2⟩
    | some ol => obtain ⟨o, l⟩ := ol; obtain ⟨loc, n, h1, h2⟩ := h; exact ⟨loc, n, by rw [at_congr hj]; exact h1, h2⟩
  | ptr id o =>
    refine key id (fun j => .ptr j o) fun j hj => ?_
    obtain ⟨b, h1, h2⟩ := h
    exact ⟨b, by rw [hj]; exact h1, h2⟩
  | eptr id p i k =>
    refine key id (fun j => .eptr j p i k) fun j hj => ?_
    obtain ⟨b, off, cap, sz, n, h1, h2⟩ := h
    exact ⟨b, off, cap, sz, n, by rw [at_congr hj]; exact h1, h2⟩
  | _ => exact h
theorem renL_rel {B : Base} {G : Gh} {m : List Nat} {c0 : Nat} : ∀ {cs : List AV} {vs : List Value}, VRelL B G cs vs → VRelL B (renG G m c0) (cs.map (AV.renS m c0)) vs
  | [], [], _ => trivial
  | _ :: _, _ :: _, h => ⟨renS_rel h.1, renL_rel h.2⟩
  | [], _ :: _, h => h.elim
  | _ :: _, [], h => h.elim
theorem ren_rel {B : Base} {G : Gh} {m : List Nat} {c0 : Nat} {v : AV} {u : Value} (hT : v.isT = false) (h : VRel B G v u) : VRel B (renG G m c0) (v.ren m c0) u := by
  cases v with
  | agg cs => obtain ⟨vs, e, x⟩ := h; exact ⟨vs, e, renL_rel x⟩
  | func f cs => obtain ⟨vs, e, x⟩ := h; exact ⟨vs, e, renL_rel x⟩
  | tup cs => cases hT
  | ref id p vw =>
    have h2 : VRelS B (renG G m c0) ((AV.ref id p vw).renS m c0) u := renS_rel (v := .ref id p vw) h
    have h3 : ((AV.ref id p vw).renS m c0).isS = true := by
      simp only [AV.renS]
      cases Nat.blt id c0 with
      | true => rfl
      | false => simp only [cond_false]; cases renId m c0 id c0 <;> rfl
    show VRel B _ ((AV.ref id p vw).renS m c0) u
    rw [VRel_S h3]; exact h2
  | ptr id o =>
    have h2 : VRelS B (renG G m c0) ((AV.ptr id o).renS m c0) u := renS_rel (v := .ptr id o) h
    have h3 : ((AV.ptr id o).renS m c0).isS = true := by
      simp only [AV.renS]
      cases Nat.blt id c0 with
      | true => rfl
      | false => simp only [cond_false]; cases renId m c0 id c0 <;> rfl
    show VRel B _ ((AV.ptr id o).renS m c0) u
    rw [VRel_S h3]; exact h2
  | eptr id p i k =>
    have h2 : VRelS B (renG G m c0) ((AV.eptr id p i k).renS m c0) u := renS_rel (v := .eptr id p i k) h
    have h3 : ((AV.eptr id p i k).renS m c0).isS = true := by
      simp only [AV.renS]
      cases Nat.blt id c0 with
      | true => rfl
      | false => simp only [cond_false]; cases renId m c0 id c0 <;> rfl
    show VRel B _ ((AV.eptr id p i k).renS m c0) u
    rw [VRel_S h3]; exact h2
  | _ => exact h
theorem getE_renE (m : List Nat) (c0 : Nat) : ∀ (e : Env) (t : Nat), getE (renE m c0 e) t = (getE e t).ren m c0
  | [], t => rfl
  | (s, v) :: r, t => by
    simp only [renE, getE]
    cases Nat.beq s t with
    | true => rfl
    | false => exact getE_renE m c0 r t
theorem keep_isT (e : Env) : ∀ (ts : List Nat) (t : Nat), (getE (forgetE (keepS e ts)) t).isT = false
  | [], t => rfl
  | s :: ts, t => by
    simp only [keepS, forgetE, getE]
    cases Nat.beq s t with
    | true =>
      simp only [cond_true]
      cases getE e s with
      | bor t r x => show (forgetV (.bor t r x)).isT = false; rcases forgetV_bor t r x with e | e <;> (rw [e]; rfl)
      | _ => rfl
    | false => exact keep_isT e ts t
theorem getO_low (h : Heap) (m : List Nat) (c0 : Nat) : ∀ (r : Heap) (id : Nat) (o : Obj), getO (lowO h m c0 r) id = some o → id < c0 ∧ ∃ o1, getO r id = some o1 ∧ o = o1.ren m c0
  | [], id, o, x => by cases x
  | (t, o1) :: r, id, o, x => by
    simp only [lowO] at x
    cases hb : Nat.blt t c0 with
    | true =>
      rw [hb] at x
      simp only [cond_true, getO] at x ⊢
      by_cases e : t = id
      · subst e
        simp only [Nat.beq_refl, cond_true, Option.some.injEq] at x ⊢
        exact ⟨(blt_iff _ _).1 hb, _, rfl, x.symm⟩
      · rw [beq_false e] at x ⊢
        exact getO_low h m c0 r id o x
    | false =>
      rw [hb] at x
      simp only [cond_false, getO] at x ⊢
      obtain ⟨h1, o2, h2, h3⟩ := getO_low h m c0 r id o x
      have e : t ≠ id := fun e => by
        subst e
        rw [(blt_iff _ _).2 h1] at hb
        cases hb
      rw [beq_false e]
      exact ⟨h1, o2, h2, h3⟩
theorem getO_all (h : Heap) (m : List Nat) (c0 : Nat) : ∀ (ids : List Nat) (k id : Nat) (o : Obj), getO (renAll h m c0 ids k) id = some o → ∃ i src o1, id = k + i ∧ ids[i]? = some src ∧ getO h src = some o1 ∧ o = o1.ren m c0
  | [], k, id, o, x => by cases x
  | s :: ids, k, id, o, x => by
    simp only [renAll] at x
    cases hs : getO h s with
    | none =>
      rw [hs] at x
      obtain ⟨i, src, o1, h1, h2, h3⟩ := getO_all h m c0 ids (k + 1) id o x
      exact ⟨i + 1, src, o1, by omega, by simpa using h2, h3⟩
    | some o1 =>
      rw [hs] at x
      simp only [getO] at x
      by_cases e : k = id
      · subst e
        simp only [Nat.beq_refl, cond_true, Option.some.injEq] at x
        exact ⟨0, s, o1, rfl, rfl, hs, x.symm⟩
      · rw [beq_false e] at x
        obtain ⟨i, src, o1, h1, h2, h3⟩ := getO_all h m c0 ids (k + 1) id o x
        exact ⟨i + 1, src, o1, by omega, by simpa using h2, h3⟩
theorem own_ren (o : Obj) (m : List Nat) (c0 : Nat) : ownd (o.ren m c0) = ownd o := by cases o <;> rfl
theorem obl_ren (o : Obj) (m : List Nat) (c0 : Nat) (go : GO) : obl (o.ren m c0) go = obl o go := by cases o <;> rfl
theorem ren_sim {B : Base} {G : Gh} {h : Heap} {w : World} (s : Sim B G h w) (m : List Nat) (c0 : Nat) (hnd : m.Nodup) (hge : ∀ x ∈ m, c0 ≤ x) : Sim B (renG G m c0) (lowO h m c0 h ++ renAll h m c0 m c0) w := by
  have src_ : ∀ id o, getO (lowO h m c0 h ++ renAll h m c0 m c0) id = some o → ∃ x o1, getO h x = some o1 ∧ o = o1.ren m c0 ∧ renG G m c0 id = G x ∧ ((id < c0 ∧ x = id) ∨ (c0 ≤ id ∧ m[id - c0]? = some x)) := by
    intro id o ho
    rw [getO_append] at ho
    cases hl : getO (lowO h m c0 h) id with
    | some o2 =>
      rw [hl] at ho
      simp only [Option.some_or, Option.some.injEq] at ho
      subst ho
      obtain ⟨h1, o1, h2, h3⟩ := getO_low h m c0 h id _ hl
      exact ⟨id, o1, h2, h3, by unfold renG; rw [if_pos h1], .inl ⟨h1, rfl⟩⟩
    | none =>
      rw [hl] at ho
      simp only [Option.none_or] at ho
      obtain ⟨i, x, o1, h1, h2, h3, h4⟩ := getO_all h m c0 m c0 id _ ho
      have e : id - c0 = i := by omega
      exact ⟨x, o1, h3, h4, by unfold renG; rw [if_neg (by omega), e, h2]; rfl, .inr ⟨by omega, by rw [e]; exact h2⟩⟩
  refine ⟨fun id o ho => ?_, fun id o go ho how hg => ?_, fun id o go ho how hg => ?_, fun i j o o' go go' hij ho ho' how how' hg hg' => ?_, s.os, s.tape, s.output, s.size, s.safe⟩
  · obtain ⟨x, o1, h1, rfl, hG, _⟩ := src_ id o ho
    have hor := s.obj x o1 h1
    cases o1 with
    | box cs =>
      obtain ⟨b, vals, e, hg, hc, hv⟩ := hor
      exact ⟨b, vals, e, by rw [hG]; exact hg, hc, renL_rel hv⟩
    | robox cs =>
      obtain ⟨b, vs, hg, hsafe, hc, hv⟩ := hor
      exact ⟨b, vs, by rw [hG]; exact hg, hsafe, hc, renL_rel hv⟩
    | row r rows =>
      obtain ⟨l, v, hg, hv⟩ := hor
      exact ⟨l, v, by rw [hG]; exact hg, hv⟩
    | part rt cols r rows lo hi =>
      obtain ⟨l, v, hg, hv⟩ := hor
      exact ⟨l, v, by rw [hG]; exact hg, hv⟩
  · obtain ⟨x, o1, h1, rfl, hG, _⟩ := src_ id o ho
    rw [obl_ren]
    exact s.nodup x o1 go h1 (by rw [← own_ren]; exact how) (by rw [← hG]; exact hg)
  · obtain ⟨x, o1, h1, rfl, hG, _⟩ := src_ id o ho
    rw [obl_ren]
    exact s.mine x o1 go h1 (by rw [← own_ren]; exact how) (by rw [← hG]; exact hg)
  · obtain ⟨x, o1, h1, rfl, hG, hx⟩ := src_ i o ho
    obtain ⟨y, o2, h2, rfl, hG', hy⟩ := src_ j o' ho'
    rw [obl_ren, obl_ren]
    refine s.apart x y o1 o2 go go' (fun e => ?_) h1 h2 (by rw [← own_ren]; exact how) (by rw [← own_ren]; exact how') (by rw [← hG]; exact hg) (by rw [← hG']; exact hg')
    subst e
    rcases hx with ⟨a1, a2⟩ | ⟨a1, a2⟩ <;> rcases hy with ⟨b1, b2⟩ | ⟨b1, b2⟩
    · exact hij (a2.symm.trans b2)
    · have := hge _ (List.mem_of_getElem? b2); omega
    · have := hge _ (List.mem_of_getElem? a2); omega
    · have hi := (List.getElem?_eq_some_iff.1 a2).1
      have := (List.getElem?_inj hi hnd).1 (a2.trans b2.symm)
      omega

theorem VRelS.congr {B : Base} {G G' : Gh} {x : AV} {u : Value} (h : ∀ i ∈ x.idsS, G' i = G i) (hv : VRelS B G x u) : VRelS B G' x u := by
  cases x with
  | ref id p vw =>
    have hj := h id (by simp [AV.idsS])
    cases vw with
    | none => obtain ⟨loc, n, h1, h2⟩ := hv; exact ⟨loc, n, by rw [at_congr hj]; exact h1, h2⟩
    | some ol => obtain ⟨o, l⟩ := ol; obtain ⟨loc, n, h1, h2⟩ := hv; exact ⟨loc, n, by rw [at_congr hj]; exact h1, h2⟩
  | ptr id o =>
    have hj := h id (by simp [AV.idsS])
    obtain ⟨b, h1, h2⟩ := hv
    exact ⟨b, by rw [hj]; exact h1, h2⟩
  | eptr id p i k =>
    have hj := h id (by simp [AV.idsS])
    obtain ⟨b, off, cap, sz, n, h1, h2⟩ := hv
    exact ⟨b, off, cap, sz, n, by rw [at_congr hj]; exact h1, h2⟩
  | _ => exact hv
theorem norm_sound {B : Base} {G : Gh} {s : St} {a : Act} {w : World} {nt : Nat} (hs : FrS B G (fun id => s.next ≤ id) s a w nt) {c0 : Nat} (hc : c0 ≤ s.next) (keep : List Nat) (il : Bool) :
    ∃ G', FrS B G' (fun id => (normSt c0 keep s).next ≤ id) (normSt c0 keep s) a w nt ∧ Low B il c0 G G' ∧ c0 ≤ (normSt c0 keep s).next := by
  obtain ⟨h1, h2, h3⟩ := wide_sim hs.sim c0 s.next hs.free
  have he : EnvR B (wideG G s.next (widenH c0 s.heap s.next).2.2) (forgetE (keepS s.env keep)) a := ⟨fun t => ((forgetE_rel (keepS_rel hs.env keep)).rel t).mono h2⟩
  obtain ⟨m1, m2⟩ := reach_spec ((widenH c0 s.heap s.next).1 ++ (widenH c0 s.heap s.next).2.1) c0 100000 (envIds (forgetE (keepS s.env keep)) ++ heapRoots c0 ((widenH c0 s.heap s.next).1 ++ (widenH c0 s.heap s.next).2.1)) [] List.nodup_nil (fun x hx => by cases hx)
  unfold normSt
  simp only
  generalize reach ((widenH c0 s.heap s.next).1 ++ (widenH c0 s.heap s.next).2.1) c0 100000 (envIds (forgetE (keepS s.env keep)) ++ heapRoots c0 ((widenH c0 s.heap s.next).1 ++ (widenH c0 s.heap s.next).2.1)) [] = m at *
  have hlow : ∀ id, id < c0 → renG (wideG G s.next (widenH c0 s.heap s.next).2.2) m c0 id = G id := fun id hid => by
    unfold renG
    rw [if_pos hid, h3 id (by omega)]
  refine ⟨renG (wideG G s.next (widenH c0 s.heap s.next).2.2) m c0, ⟨ren_sim h1 m c0 m1 m2, ⟨fun t => ?_⟩, hs.defers, hs.size, fun id hid => ?_⟩, ⟨fun x u _ hi hv => VRelS.congr (fun i hm => hlow i (hi i hm)) hv, fun _ id hid => hlow id hid⟩, by omega⟩
  · rw [getE_renE]
    exact ren_rel (keep_isT _ _ _) (he.rel t)
  · unfold renG
    rw [if_neg (by omega), List.getElem?_eq_none (by omega)]
    rfl
end Go.Abs

namespace Go.Abs
set_option linter.unusedSimpArgs false
set_option linter.unusedVariables false
open Go.RowKit

/-! ### data and form -/
inductive LeafV : AV → Prop
  | int (k : IntKind) (n : Int) : LeafV (.int k n)
  | bool (b : Bool) : LeafV (.bool b)
  | str (s : ByteArray) : LeafV (.str s)
  | bor (r : RT) (x : List r.den) : LeafV (.bor none r x)
theorem castL_heq {q r : RT} (h : q.same r = true) (x : List q.den) : AV.bor none r (castL h x) = AV.bor none q x := by
  have e := RT.eq_of_same h
  subst e
  rfl
theorem avC_leaf {c : CT} {v : AV} {x : c.den} (hv : LeafV v) (h : leafC c v = some x) : avC c x = v := by
  cases c with
  | int k =>
    cases hv with
    | int k' n =>
      simp only [leafC] at h
      cases hk : IntKind.same k' k with
      | false => rw [hk] at h; cases h
      | true =>
        rw [hk] at h
        have := IntKind.eq_of_same hk
        subst this
        exact congrArg (AV.int k') (show x = n from (Option.some.inj h).symm)
    | _ => cases h
  | bool =>
    cases hv with
    | bool b => exact congrArg AV.bool (show x = b from (Option.some.inj h).symm)
    | _ => cases h
  | str =>
    cases hv with
    | str b => exact congrArg AV.str (show x = b from (Option.some.inj h).symm)
    | _ => cases h
  | nl r => cases hv <;> cases h
  | vs r => cases hv <;> cases h
  | sl r =>
    cases hv with
    | bor q y =>
      simp only [leafC] at h
      by_cases e : q.same r = true
      · rw [dif_pos e] at h
        have h2 : castL e y = x := Option.some.inj h
        have h3 := castL_heq e y
        rw [h2] at h3
        exact h3
      · rw [dif_neg e] at h; cases h
    | _ => cases h
theorem tupOf_0s (v : AV) (vs : List AV) : tupOf [] (v :: vs) = none := rfl
theorem tupOf_10 (c : CT) : tupOf [c] [] = none := rfl
theorem tupOf_1 (c : CT) (v : AV) : tupOf [c] [v] = leafC c v := rfl
theorem tupOf_12 (c : CT) (v u : AV) (vs : List AV) : tupOf [c] (v :: u :: vs) = none := rfl
theorem tupOf_20 (c d : CT) (cs : List CT) : tupOf (c :: d :: cs) [] = none := rfl
theorem tupOf_2 (c d : CT) (cs : List CT) (v : AV) (vs : List AV) : tupOf (c :: d :: cs) (v :: vs) = (match leafC c v, tupOf (d :: cs) vs with | some x, some y => some (x, y) | _, _ => none) := rfl
theorem no_some {α : Type} {y : α} {p : Prop} (h : (none : Option α) = some y) : p := absurd h.symm (Option.some_ne_none y)
theorem avTup_tupOf : ∀ (cts : List CT) (vs : List AV) (y : Tup cts), (∀ v ∈ vs, LeafV v) → tupOf cts vs = some y → avTup cts y = vs
  | [], [], y, _, h => rfl
  | [], v :: vs, y, _, h => no_some ((tupOf_0s v vs).symm.trans h)
  | [c], [], y, _, h => no_some ((tupOf_10 c).symm.trans h)
  | [c], [v], y, hl, h => congrArg (fun x => [x]) (avC_leaf (hl v (.head _)) ((tupOf_1 c v).symm.trans h))
  | [c], v :: u :: vs, y, _, h => no_some ((tupOf_12 c v u vs).symm.trans h)
  | c :: d :: cs, [], y, _, h => no_some ((tupOf_20 c d cs).symm.trans h)
  | c :: d :: cs, v :: vs, y, hl, h => by
    have h0 := (tupOf_2 c d cs v vs).symm.trans h
    clear h
    have ih := avTup_tupOf (d :: cs) vs
    generalize tupOf (d :: cs) vs = t2 at h0 ih
    generalize hc : leafC c v = t1 at h0
    cases t1 with
    | none => exact no_some h0
    | some x =>
      cases t2 with
      | none => exact no_some h0
      | some z =>
        have h3 : (x, z) = y := Option.some.inj h0
        subst h3
        have h4 := avC_leaf (hl v (.head _)) hc
        have h5 := ih z (fun u hu => hl u (.tail _ hu)) rfl
        show avC c x :: avTup (d :: cs) z = v :: vs
        rw [h4, h5]
theorem leaf_ints : ∀ p : List (Int × Nat), ∀ v ∈ ints p, LeafV v := by
  intro p v hv
  unfold ints at hv
  obtain ⟨x, _, rfl⟩ := List.mem_map.1 hv
  exact .int _ _
theorem leaf_S (v : AV) : ∀ x ∈ leafS v, LeafV x := by
  cases v with
  | int k n => intro x hx; simp only [leafS, List.mem_singleton] at hx; subst hx; exact .int _ _
  | bool b => intro x hx; simp only [leafS, List.mem_singleton] at hx; subst hx; exact .bool _
  | str b => intro x hx; simp only [leafS, List.mem_singleton] at hx; subst hx; exact .str _
  | bor t r y => intro x hx; simp only [leafS, List.mem_singleton] at hx; subst hx; exact .bor _ _
  | ref id p vw =>
    cases vw with
    | none => exact leaf_ints p
    | some ol =>
      obtain ⟨o, l⟩ := ol
      intro x hx
      simp only [leafS, List.mem_append, List.mem_cons, List.not_mem_nil, or_false] at hx
      rcases hx with hx | rfl | rfl
      · exact leaf_ints p x hx
      · exact .int _ _
      · exact .int _ _
  | eptr id p i c =>
    intro x hx
    simp only [leafS, List.mem_append, List.mem_cons, List.not_mem_nil, or_false] at hx
    rcases hx with hx | rfl
    · exact leaf_ints p x hx
    · exact .int _ _
  | _ => intro x hx; cases hx
theorem leaf_V (v : AV) : ∀ x ∈ leafV v, LeafV x := by
  cases v with
  | agg cs => intro x hx; obtain ⟨y, _, h⟩ := List.mem_flatMap.1 hx; exact leaf_S y x h
  | func f cs => intro x hx; obtain ⟨y, _, h⟩ := List.mem_flatMap.1 hx; exact leaf_S y x h
  | _ => intro x hx; unfold leafV at hx; exact leaf_S _ x hx
theorem leaf_O (o : Obj) : ∀ x ∈ leafO o, LeafV x := by
  cases o with
  | box cs => intro x hx; obtain ⟨y, _, h⟩ := List.mem_flatMap.1 hx; exact leaf_S y x h
  | robox cs => intro x hx; obtain ⟨y, _, h⟩ := List.mem_flatMap.1 hx; exact leaf_S y x h
  | row r y => intro x hx; simp only [leafO, List.mem_singleton] at hx; subst hx; exact .bor _ _
  | part rt cols r y lo hi => intro x hx; cases hx
theorem leaf_E : ∀ (e : Env), ∀ x ∈ leafE e, LeafV x
  | [], x, h => by cases h
  | (t, v) :: r, x, h => by
    rcases List.mem_append.1 h with h | h
    · exact leaf_V v x h
    · exact leaf_E r x h
theorem leaf_H : ∀ (e : Heap), ∀ x ∈ leafH e, LeafV x
  | [], x, h => by cases h
  | (t, v) :: r, x, h => by
    rcases List.mem_append.1 h with h | h
    · exact leaf_O v x h
    · exact leaf_H r x h

theorem fillP_spec : ∀ (p q : List (Int × Nat)), sameP p q = true → ∀ ws, fillP p (ints q ++ ws) = some (q, ws)
  | [], [], _, ws => rfl
  | [], _ :: _, h, ws => by cases h
  | _ :: _, [], h, ws => by cases h
  | (i, j) :: p, (i', j') :: q, h, ws => by
    simp only [sameP, Bool.and_eq_true] at h
    have e := Nat.eq_of_beq_eq_true h.1
    subst e
    simp only [ints, List.map_cons, List.cons_append, fillP]
    have := fillP_spec p q h.2 ws
    simp only [ints] at this
    rw [this]
/-- The same, or less is told of it. -/
inductive LessV : AV → AV → Prop
  | same (v : AV) : LessV v v
  | undef (v : AV) : LessV .undef v
  | nil (r q : Option RT) : LessV (.nil r) (.nil q)
theorem LessV.relS {v2 v : AV} (h : LessV v2 v) {B : Base} {G : Gh} {u : Value} (x : VRelS B G v u) : VRelS B G v2 u := by
  cases h with
  | same => exact x
  | undef => trivial
  | nil => exact x
theorem LessV.relV {v2 v : AV} (h : LessV v2 v) {B : Base} {G : Gh} {u : Value} (x : VRel B G v u) : VRel B G v2 u := by
  cases h with
  | same => exact x
  | undef => trivial
  | nil => exact x
theorem tok_eq {a b : Option Nat} (h : sameTok a b = true) : a = b := by
  cases a <;> cases b <;> first | rfl | (cases h; done) | skip
  rw [Nat.eq_of_beq_eq_true h]
theorem fillS_spec {t v : AV} (h : sameS t v = true) : ∃ v2, (∀ ws, fillS t (leafS v ++ ws) = some (v2, ws)) ∧ LessV v2 v ∧ (t = .undef ∨ leafV v = leafS v) := by
  unfold sameS at h
  split at h
  · rename_i k n k' n'
    have := IntKind.eq_of_same h
    subst this
    exact ⟨_, fun ws => by simp [leafS, fillS, h], .same _, .inr rfl⟩
  · exact ⟨_, fun ws => rfl, .same _, .inr rfl⟩
  · exact ⟨_, fun ws => rfl, .same _, .inr rfl⟩
  · rename_i t' r x t'' q y
    simp only [Bool.and_eq_true] at h
    have := tok_eq h.1
    subst this
    exact ⟨.bor t' q y, fun ws => by simp [leafS, fillS, h.2], .same _, .inr rfl⟩
  · rename_i id p id' p'
    simp only [Bool.and_eq_true] at h
    have := Nat.eq_of_beq_eq_true h.1
    subst this
    exact ⟨.ref id p' none, fun ws => by simp only [leafS, fillS]; rw [fillP_spec p p' h.2], .same _, .inr rfl⟩
  · rename_i id p ol id' p' ol'
    simp only [Bool.and_eq_true] at h
    have := Nat.eq_of_beq_eq_true h.1
    subst this
    obtain ⟨o, l⟩ := ol'
    refine ⟨.ref id p' (some (o, l)), fun ws => ?_, .same _, .inr rfl⟩
    simp only [leafS, fillS, List.append_assoc]
    rw [fillP_spec p p' h.2]
    rfl
  · rename_i id p i c id' p' i' c'
    simp only [Bool.and_eq_true] at h
    have h1 := Nat.eq_of_beq_eq_true h.1
    have h2 := Nat.eq_of_beq_eq_true h.2.1
    subst h1; subst h2
    refine ⟨.eptr id p' i' c, fun ws => ?_, .same _, .inr rfl⟩
    simp only [leafS, fillS, List.append_assoc]
    rw [fillP_spec p p' h.2.2]
    rfl
  · rename_i id o id' o'
    simp only [Bool.and_eq_true] at h
    have h1 := Nat.eq_of_beq_eq_true h.1
    have h2 := Nat.eq_of_beq_eq_true h.2
    subst h1; subst h2
    exact ⟨_, fun ws => rfl, .same _, .inr rfl⟩
  · exact ⟨_, fun ws => rfl, .nil _ _, .inr rfl⟩
  · exact ⟨_, fun ws => rfl, .nil _ _, .inr rfl⟩
  · exact ⟨_, fun ws => rfl, .same _, .inr rfl⟩
  · have hl : leafS v = [] := by
      rw [List.isEmpty_iff] at h
      cases v <;> first | rfl | exact h
    exact ⟨.undef, fun ws => by rw [hl]; rfl, .undef _, .inl rfl⟩
  · cases h
theorem fillL_spec : ∀ (cs ds : List AV), sameL cs ds = true → ∃ xs, (∀ ws, fillL cs (ds.flatMap leafS ++ ws) = some (xs, ws)) ∧ ∀ (B : Base) (G : Gh) (vs : List Value), VRelL B G ds vs → VRelL B G xs vs
  | [], [], _ => ⟨[], fun ws => rfl, fun B G vs h => h⟩
  | [], _ :: _, h => by cases h
  | _ :: _, [], h => by cases h
  | c :: cs, d :: ds, h => by
    simp only [sameL, Bool.and_eq_true] at h
    obtain ⟨x, h1, h2, _⟩ := fillS_spec h.1
    obtain ⟨xs, h3, h4⟩ := fillL_spec cs ds h.2
    refine ⟨x :: xs, fun ws => ?_, fun B G vs hv => ?_⟩
    · simp only [List.flatMap_cons, List.append_assoc, fillL]
      rw [h1]
      simp only []
      rw [h3]
    · cases vs with
      | nil => exact hv.elim
      | cons v vs => exact ⟨h2.relS hv.1, h4 B G vs hv.2⟩
theorem fillV_spec {t v : AV} (h : sameV t v = true) : ∃ v2, (∀ ws, fillV t (leafV v ++ ws) = some (v2, ws)) ∧ ∀ (B : Base) (G : Gh) (u : Value), VRel B G v u → VRel B G v2 u := by
  unfold sameV at h
  split at h
  · rename_i cs ds
    obtain ⟨xs, h1, h2⟩ := fillL_spec cs ds h
    refine ⟨.agg xs, fun ws => ?_, fun B G u ⟨vs, e, hv⟩ => ⟨vs, e, h2 B G vs hv⟩⟩
    simp only [leafV, fillV]
    rw [h1]; rfl
  · rename_i f cs g ds
    simp only [Bool.and_eq_true] at h
    have := Nat.eq_of_beq_eq_true h.1
    subst this
    obtain ⟨xs, h1, h2⟩ := fillL_spec cs ds h.2
    refine ⟨.func f xs, fun ws => ?_, fun B G u ⟨vs, e, hv⟩ => ⟨vs, e, h2 B G vs hv⟩⟩
    simp only [leafV, fillV]
    rw [h1]; rfl
  · obtain ⟨v2, h1, h2, h3⟩ := fillS_spec h
    refine ⟨v2, fun ws => ?_, fun B G u hu => h2.relV hu⟩
    have ht : fillV t = fillS t := by
      cases t <;> first | rfl | (simp [sameS] at h; done)
    rw [ht]
    rcases h3 with rfl | h3
    · have hl : leafV v = [] := by
        unfold sameS at h
        exact List.isEmpty_iff.1 h
      have hl2 : leafS v = [] := by
        cases v <;> first | rfl | exact hl
      rw [hl, ← hl2]; exact h1 ws
    · rw [h3]; exact h1 ws
theorem fillO_spec {t o : Obj} (h : sameO t o = true) : ∃ o2, (∀ ws, fillO t (leafO o ++ ws) = some (o2, ws)) ∧ (ownd o2 = ownd o ∧ ∀ go, obl o2 go = obl o go) ∧ ∀ (B : Base) (G : Gh) (w : World) (id : Nat), ORel B G w id o → ORel B G w id o2 := by
  unfold sameO at h
  split at h
  · rename_i cs ds
    obtain ⟨xs, h1, h2⟩ := fillL_spec cs ds h
    refine ⟨.box xs, fun ws => ?_, ⟨rfl, fun _ => rfl⟩, fun B G w id ⟨b, vals, e, x1, x2, x3⟩ => ⟨b, vals, e, x1, x2, h2 B G _ x3⟩⟩
    simp only [leafO, fillO]
    rw [h1]; rfl
  · rename_i cs ds
    obtain ⟨xs, h1, h2⟩ := fillL_spec cs ds h
    refine ⟨.robox xs, fun ws => ?_, ⟨rfl, fun _ => rfl⟩, fun B G w id ⟨b, vs, x1, x2, x3, x4⟩ => ⟨b, vs, x1, x2, x3, h2 B G _ x4⟩⟩
    simp only [leafO, fillO]
    rw [h1]; rfl
  · rename_i r x q y
    exact ⟨.row q y, fun ws => by simp [leafO, fillO, h], ⟨rfl, fun _ => rfl⟩, fun B G w id hx => hx⟩
  · cases h
theorem fillE_spec : ∀ (e f : Env), sameE e f = true → ∃ g, (∀ ws, fillE e (leafE f ++ ws) = some (g, ws)) ∧ ∀ (B : Base) (G : Gh) (t : Nat) (u : Value), VRel B G (getE f t) u → VRel B G (getE g t) u
  | [], [], _ => ⟨[], fun ws => rfl, fun B G t u h => h⟩
  | [], _ :: _, h => by cases h
  | _ :: _, [], h => by cases h
  | (t, a) :: r, (t', b) :: q, h => by
    simp only [sameE, Bool.and_eq_true] at h
    have := Nat.eq_of_beq_eq_true h.1
    subst this
    obtain ⟨v2, h1, h2⟩ := fillV_spec h.2.1
    obtain ⟨g, h3, h4⟩ := fillE_spec r q h.2.2
    refine ⟨(t, v2) :: g, fun ws => ?_, fun B G s u hu => ?_⟩
    · simp only [leafE, List.append_assoc, fillE]
      rw [h1]
      simp only []
      rw [h3]
    · simp only [getE] at hu ⊢
      cases hb : Nat.beq t s with
      | true => rw [hb] at hu; exact h2 B G u hu
      | false => rw [hb] at hu; exact h4 B G s u hu
theorem fillH_spec : ∀ (e f : Heap), sameH e f = true → ∃ g, (∀ ws, fillH e (leafH f ++ ws) = some (g, ws)) ∧
    ∀ (id : Nat) (o2 : Obj), getO g id = some o2 → ∃ o, getO f id = some o ∧ (ownd o2 = ownd o ∧ ∀ go, obl o2 go = obl o go) ∧ ∀ (B : Base) (G : Gh) (w : World), ORel B G w id o → ORel B G w id o2
  | [], [], _ => ⟨[], fun ws => rfl, fun id o h => by cases h⟩
  | [], _ :: _, h => by cases h
  | _ :: _, [], h => by cases h
  | (t, a) :: r, (t', b) :: q, h => by
    simp only [sameH, Bool.and_eq_true] at h
    have := Nat.eq_of_beq_eq_true h.1
    subst this
    obtain ⟨v2, h1, h2, h2'⟩ := fillO_spec h.2.1
    obtain ⟨g, h3, h4⟩ := fillH_spec r q h.2.2
    refine ⟨(t, v2) :: g, fun ws => ?_, fun id o2 ho => ?_⟩
    · simp only [leafH, List.append_assoc, fillH]
      rw [h1]
      simp only []
      rw [h3]
    · simp only [getO] at ho ⊢
      cases hb : Nat.beq t id with
      | true =>
        rw [hb] at ho
        simp only [cond_true, Option.some.injEq] at ho ⊢
        subst ho
        exact ⟨b, rfl, h2, fun B G w => h2' B G w id⟩
      | false => rw [hb] at ho; exact h4 id o2 ho

theorem form_sound {B : Base} {G : Gh} {s : St} {a : Act} {w : World} {nt : Nat} (hs : FrS B G (fun id => s.next ≤ id) s a w nt) {c0 : Nat} (hc : c0 ≤ s.next) (keep : List Nat) (il : Bool)
    {tmpl : St} {cts : List CT} {y : Tup cts} (hf : toForm c0 keep tmpl cts s = some y) :
    ∃ s2, (ofForm tmpl cts y).Has s2 ∧ (∀ s3, (ofForm tmpl cts y).Has s3 → s3 = s2) ∧ ∃ G', FrS B G' (fun id => s2.next ≤ id) s2 a w nt ∧ Low B il c0 G G' ∧ c0 ≤ s2.next := by
  obtain ⟨G', hn, hlow, hge⟩ := norm_sound hs hc keep il
  unfold toForm at hf
  simp only at hf
  generalize normSt c0 keep s = s1 at *
  cases hb : sameSt tmpl s1 with
  | false => rw [hb] at hf; cases hf
  | true =>
    rw [hb] at hf
    simp only [cond_true] at hf
    simp only [sameSt, Bool.and_eq_true] at hb
    have hnx := Nat.eq_of_beq_eq_true hb.1
    obtain ⟨e2, he1, he2⟩ := fillE_spec tmpl.env s1.env hb.2.1
    obtain ⟨h2, hh1, hh2⟩ := fillH_spec tmpl.heap s1.heap hb.2.2
    have hleaf : avTup cts y = leafSt s1 := avTup_tupOf cts _ y (fun v hv => by
      rcases List.mem_append.1 hv with hv | hv
      · exact leaf_E _ v hv
      · exact leaf_H _ v hv) hf
    have hfill : fillSt tmpl (avTup cts y) = some ⟨e2, h2, tmpl.next⟩ := by
      rw [hleaf]
      unfold fillSt leafSt
      rw [he1]
      simp only
      have := hh1 []
      rw [List.append_nil] at this
      rw [this]
    refine ⟨⟨e2, h2, tmpl.next⟩, ?_, fun s3 h3 => ?_, G', ⟨?_, ⟨fun t => he2 B G' t _ (hn.env.rel t)⟩, hn.defers, hn.size, fun id hid => hn.free id (by rw [← hnx]; exact hid)⟩, hlow, by rw [hnx]; exact hge⟩
    · unfold ofForm
      rw [hfill]
      rfl
    · unfold ofForm at h3
      rw [hfill] at h3
      exact h3.symm
    · refine ⟨fun id o ho => ?_, fun id o go ho how hg => ?_, fun id o go ho how hg => ?_, fun i j o o' go go' hij ho ho' how how' hg hg' => ?_, hn.sim.os, hn.sim.tape, hn.sim.output, hn.sim.size, hn.sim.safe⟩
      · obtain ⟨o1, h3, h4, h5⟩ := hh2 id o ho
        exact h5 _ _ _ (hn.sim.obj id o1 h3)
      · obtain ⟨o1, h3, h4, h5⟩ := hh2 id o ho
        rw [h4.2]
        exact hn.sim.nodup id o1 go h3 (by rw [← h4.1]; exact how) hg
      · obtain ⟨o1, h3, h4, h5⟩ := hh2 id o ho
        rw [h4.2]
        exact hn.sim.mine id o1 go h3 (by rw [← h4.1]; exact how) hg
      · obtain ⟨o1, h3, h4, h5⟩ := hh2 i o ho
        obtain ⟨o2, h6, h7, h8⟩ := hh2 j o' ho'
        rw [h4.2, h7.2]
        exact hn.sim.apart i j o1 o2 go go' hij h3 h6 (by rw [← h4.1]; exact how) (by rw [← h7.1]; exact how') hg hg'
end Go.Abs

namespace Go.Abs
set_option linter.unusedSimpArgs false
set_option linter.unusedVariables false
open Go.RowKit

/-! ### a local slice that is lent while a loop runs -/
/-- The cells stay single ones. -/
def KeepS (f : AV → AV) : Prop := ∀ v, (f v).isS = true ∨ f v = v
theorem mapL_rel {B B' : Base} {G G' : Gh} {f : AV → AV} (hf : ∀ v u, VRelS B G v u → VRelS B' G' (f v) u) : ∀ {cs : List AV} {vs : List Value}, VRelL B G cs vs → VRelL B' G' (cs.map f) vs
  | [], [], _ => trivial
  | _ :: _, _ :: _, h => ⟨hf _ _ h.1, mapL_rel hf h.2⟩
  | [], _ :: _, h => h.elim
  | _ :: _, [], h => h.elim
theorem mapA_rel {B B' : Base} {G G' : Gh} {f : AV → AV} (hf : ∀ v u, VRelS B G v u → VRelS B' G' (f v) u) (hk : ∀ v, v.isS = true → (f v).isS = true) {v : AV} {u : Value} (h : VRel B G v u) : VRel B' G' (mapA f v) u := by
  have plain : v.isS = true → mapA f v = f v → VRel B' G' (mapA f v) u := by
    intro hS e
    rw [VRel_S hS] at h
    rw [e, VRel_S (hk v hS)]
    exact hf v u h
  cases v with
  | agg cs => obtain ⟨vs, e, x⟩ := h; exact ⟨vs, e, mapL_rel hf x⟩
  | func g cs => obtain ⟨vs, e, x⟩ := h; exact ⟨vs, e, mapL_rel hf x⟩
  | tup cs => trivial
  | _ => exact plain rfl rfl
theorem getE_mapE {f : AV → AV} (hu : f .undef = .undef) : ∀ (e : Env) (t : Nat), getE (mapE f e) t = mapA f (getE e t)
  | [], t => hu.symm
  | (s, v) :: r, t => by
    simp only [mapE, getE]
    cases Nat.beq s t with
    | true => rfl
    | false => exact getE_mapE hu r t
theorem mapE_rel {B B' : Base} {G G' : Gh} {f : AV → AV} (hf : ∀ v u, VRelS B G v u → VRelS B' G' (f v) u) (hk : ∀ v, v.isS = true → (f v).isS = true) (hu : f .undef = .undef) {e : Env} {a : Act} (h : EnvR B G e a) : EnvR B' G' (mapE f e) a :=
  ⟨fun t => by rw [getE_mapE hu]; exact mapA_rel hf hk (h.rel t)⟩
/-- An object, its cells told anew. -/
def MapO (f : AV → AV) (kp : RT → Bool) (o o' : Obj) : Prop :=
  (∃ cs, o = .box cs ∧ o' = .box (cs.map f)) ∨ ∃ r x, o = .row r x ∧ o' = .row r x ∧ kp r = true
theorem getO_mapH {f : AV → AV} {kp : RT → Bool} : ∀ (h : Heap) (id : Nat) (o' : Obj), getO (mapH f kp h) id = some o' → ∃ o, getO h id = some o ∧ MapO f kp o o'
  | [], id, o', h => by cases h
  | (t, o) :: r, id, o', h => by
    have drop : getO (delO (mapH f kp r) t) id = some o' → ∃ o1, getO ((t, o) :: r) id = some o1 ∧ MapO f kp o1 o' := by
      intro h
      rw [getO_delO] at h
      by_cases e : t = id
      · rw [if_pos e] at h; cases h
      · rw [if_neg e] at h
        simp only [getO]
        rw [beq_false e]
        exact getO_mapH r id o' h
    have keep : ∀ o1, MapO f kp o o1 → getO ((t, o1) :: mapH f kp r) id = some o' → ∃ o1, getO ((t, o) :: r) id = some o1 ∧ MapO f kp o1 o' := by
      intro o1 hm h
      simp only [getO] at h ⊢
      cases hb : Nat.beq t id with
      | true => rw [hb] at h; simp only [cond_true, Option.some.injEq] at h ⊢; subst h; exact ⟨o, rfl, hm⟩
      | false => rw [hb] at h; exact getO_mapH r id o' h
    cases o with
    | box cs => exact keep _ (.inl ⟨cs, rfl, rfl⟩) h
    | row q x =>
      simp only [mapH] at h
      cases hq : kp q with
      | true => rw [hq] at h; exact keep _ (.inr ⟨q, x, rfl, rfl, hq⟩) h
      | false => rw [hq] at h; exact drop h
    | robox cs => exact drop h
    | part rt cols q x lo hi => exact drop h
theorem getO_mapH_ne {f : AV → AV} {kp : RT → Bool} {h : Heap} {t id : Nat} (e : t ≠ id) (o : Obj) : getO (mapH f kp ((t, o) :: h)) id = getO (mapH f kp h) id := by
  have keep : ∀ o1, getO ((t, o1) :: mapH f kp h) id = getO (mapH f kp h) id := fun o1 => by simp only [getO]; rw [beq_false e]; rfl
  have drop : getO (delO (mapH f kp h) t) id = getO (mapH f kp h) id := by rw [getO_delO, if_neg e]
  cases o with
  | box cs => exact keep _
  | row q x =>
    simp only [mapH]
    cases kp q with
    | true => exact keep _
    | false => exact drop
  | robox cs => exact drop
  | part rt cols q x lo hi => exact drop
theorem getO_mapH_eq {f : AV → AV} {kp : RT → Bool} {h g : Heap} {id : Nat} (o : Obj) : getO (mapH f kp ((id, o) :: h)) id = getO (mapH f kp ((id, o) :: g)) id := by
  have keep : ∀ (o1 : Obj) (h : Heap), getO ((id, o1) :: mapH f kp h) id = some o1 := fun o1 h => by simp only [getO, Nat.beq_refl, cond_true]
  have drop : ∀ h : Heap, getO (delO (mapH f kp h) id) id = none := fun h => by rw [getO_delO, if_pos rfl]
  cases o with
  | box cs => exact (keep _ _).trans (keep _ _).symm
  | row q x =>
    simp only [mapH]
    cases kp q with
    | true => exact (keep _ _).trans (keep _ _).symm
    | false => exact (drop _).trans (drop _).symm
  | robox cs => exact (drop _).trans (drop _).symm
  | part rt cols q x lo hi => exact (drop _).trans (drop _).symm
theorem getO_mapH_del {f : AV → AV} {kp : RT → Bool} : ∀ (h : Heap) (n id : Nat) (o : Obj), n ≠ id → getO (mapH f kp h) id = some o → getO (mapH f kp (delO h n)) id = some o
  | [], n, id, o, _, h => h
  | (t, ob) :: r, n, id, o, hn, h => by
    simp only [delO]
    by_cases e : t = n
    · subst e
      rw [Nat.beq_refl, cond_true]
      rw [getO_mapH_ne hn] at h
      exact getO_mapH_del r t id o hn h
    · rw [beq_false e, cond_false]
      by_cases e2 : t = id
      · subst e2
        rw [← h]
        exact getO_mapH_eq ob
      · rw [getO_mapH_ne e2] at h ⊢
        exact getO_mapH_del r n id o hn h
theorem MapO.own {f : AV → AV} {kp : RT → Bool} {o o' : Obj} (h : MapO f kp o o') : ownd o = true ∧ ownd o' = true ∧ ∀ go, obl o' go = obl o go := by
  rcases h with ⟨cs, rfl, rfl⟩ | ⟨r, x, rfl, rfl, _⟩ <;> exact ⟨rfl, rfl, fun _ => rfl⟩
theorem map_sim {B B' : Base} {G : Gh} {h : Heap} {w : World} (s : Sim B G h w) {f : AV → AV} {kp : RT → Bool} (hf : ∀ v u, VRelS B G v u → VRelS B' G (f v) u)
    (hrow : ∀ r x l v, kp r = true → CellV B.fz w true (.sl r) x l v → CellV B'.fz w true (.sl r) x l v)
    (hmine : ∀ id o go, getO h id = some o → ownd o = true → G id = some go → ∀ b ∈ obl o go, ¬ B'.safe b)
    (hos : w.os = B'.w0.os) (htape : w.tape = B'.w0.tape) (hout : w.output = B'.w0.output) (hsize : B'.w0.heap.size ≤ w.heap.size) (hsafe : ∀ b, B'.safe b → w.heap[b]? = B'.w0.heap[b]?) : Sim B' G (mapH f kp h) w := by
  refine ⟨fun id o' ho => ?_, fun id o' go ho how hg => ?_, fun id o' go ho how hg b hb => ?_, fun i j o o' go go' hij ho ho' how how' hg hg' => ?_, hos, htape, hout, hsize, hsafe⟩
  · obtain ⟨o, h1, h2⟩ := getO_mapH h id o' ho
    have hor := s.obj id o h1
    rcases h2 with ⟨cs, rfl, rfl⟩ | ⟨r, x, rfl, rfl, hk⟩
    · obtain ⟨b, vals, e, hg, hc, hv⟩ := hor
      exact ⟨b, vals, e, hg, hc, mapL_rel hf hv⟩
    · obtain ⟨l, v, hg, hv⟩ := hor
      exact ⟨l, v, hg, hrow _ _ _ _ hk hv⟩
  · obtain ⟨o, h1, h2⟩ := getO_mapH h id o' ho
    rw [h2.own.2.2]
    exact s.nodup id o go h1 h2.own.1 hg
  · obtain ⟨o, h1, h2⟩ := getO_mapH h id o' ho
    rw [h2.own.2.2] at hb
    exact ⟨(s.mine id o go h1 h2.own.1 hg b hb).1, hmine id o go h1 h2.own.1 hg b hb⟩
  · obtain ⟨o1, h1, h2⟩ := getO_mapH h i o ho
    obtain ⟨o2, h3, h4⟩ := getO_mapH h j o' ho'
    rw [h2.own.2.2, h4.own.2.2]
    exact s.apart i j o1 o2 go go' hij h1 h3 h2.own.1 h4.own.1 hg hg'
/-- An object that has its place already. -/
theorem Sim.putAt {B : Base} {G : Gh} {h : Heap} {w : World} (s : Sim B G h w) {id : Nat} {o : Obj} {go : GO} (hg : G id = some go) (ho : ORel B G w id o) (hw : ownd o = true) (hh : Held B G h w (obl o go)) : Sim B G (setO h id o) w := by
  have cs : ∀ i o', getO (setO h id o) i = some o' → (i = id ∧ o' = o) ∨ (i ≠ id ∧ getO h i = some o') := by
    intro i o' h1
    rw [getO_setO] at h1
    by_cases e : id = i
    · rw [if_pos e] at h1; cases h1; exact .inl ⟨e.symm, rfl⟩
    · rw [if_neg e] at h1; exact .inr ⟨fun e' => e e'.symm, h1⟩
  refine ⟨fun i o' h1 => ?_, fun i o' g h1 h2 h3 => ?_, fun i o' g h1 h2 h3 => ?_, fun i j o1 o2 g1 g2 hij h1 h2 h3 h4 h5 h6 => ?_, s.os, s.tape, s.output, s.size, s.safe⟩
  · rcases cs i o' h1 with ⟨rfl, rfl⟩ | ⟨_, h1⟩
    · exact ho
    · exact s.obj i o' h1
  · rcases cs i o' h1 with ⟨rfl, rfl⟩ | ⟨_, h1⟩
    · rw [hg] at h3; cases h3; exact hh.nodup
    · exact s.nodup i o' g h1 h2 h3
  · rcases cs i o' h1 with ⟨rfl, rfl⟩ | ⟨_, h1⟩
    · rw [hg] at h3; cases h3; exact hh.mine
    · exact s.mine i o' g h1 h2 h3
  · rcases cs i o1 h1 with ⟨e1, e2⟩ | ⟨n1, k1⟩
    · rcases cs j o2 h2 with ⟨e3, e4⟩ | ⟨n2, k2⟩
      · exact absurd (e1.trans e3.symm) hij
      · subst e1
        rw [hg] at h5; cases h5
        subst e2
        exact fun b hb => hh.apart j o2 g2 k2 h4 h6 b hb
    · rcases cs j o2 h2 with ⟨e3, e4⟩ | ⟨n2, k2⟩
      · subst e3
        rw [hg] at h6; cases h6
        subst e4
        exact fun b hb hb2 => hh.apart i o1 g1 k1 h3 h5 b hb2 hb
      · exact s.apart i j o1 o2 g1 g2 hij k1 k2 h3 h4 h5 h6

/-! the frame's base while the loop runs -/
def fzBase (B : Base) (w : World) (bs : List Nat) (tok : Nat → Value) : Base where
  P := B.P
  w0 := w
  mine := (List.range w.heap.size).filter fun b => !(memN bs b || (decide (b < B.w0.heap.size) && !memN B.mine b))
  tok := fun k => bif isFz k then tok k else B.tok k
theorem fz_safe {B : Base} {w : World} {bs : List Nat} {tok : Nat → Value} (b : Nat) : (fzBase B w bs tok).safe b ↔ b < w.heap.size ∧ (b ∈ bs ∨ B.safe b) := by
  unfold Base.safe fzBase
  simp only [List.mem_filter, List.mem_range, Bool.not_eq_true', Bool.or_eq_false_iff, Bool.and_eq_false_iff, decide_eq_false_iff_not, Bool.not_eq_false', not_and]
  constructor
  · rintro ⟨h1, h2⟩
    refine ⟨h1, ?_⟩
    by_cases hb : b ∈ bs
    · exact .inl hb
    · refine .inr ?_
      have hb' : memN bs b = false := by
        cases e : memN bs b with
        | false => rfl
        | true => exact absurd ((memN_iff bs b).1 e) hb
      have h3 := h2 h1 hb'
      refine ⟨Nat.lt_of_not_le fun h => h3 (.inl (by omega)), fun hm => h3 (.inr ((memN_iff _ _).2 hm))⟩
  · rintro ⟨h1, h2⟩
    refine ⟨h1, fun _ hn h3 => ?_⟩
    rcases h2 with h2 | ⟨h2, h4⟩
    · rw [(memN_iff bs b).2 h2] at hn; cases hn
    · rcases h3 with h3 | h3
      · exact h3 h2
      · exact h4 ((memN_iff _ _).1 h3)

theorem fz_fz {B : Base} {w : World} {bs : List Nat} {tok : Nat → Value} (hs : ∀ b, B.safe b → w.heap[b]? = B.w0.heap[b]?) (hz : B.w0.heap.size ≤ w.heap.size) {r : RT} {x : List r.den} {v : Value} (h : B.fz r x v) : (fzBase B w bs tok).fz r x v := by
  obtain ⟨l, h1, h2⟩ := h
  exact ⟨l, h1.keep _ _ _ _ fun b hb => hs b (h2 b hb), fun b hb => (fz_safe b).2 ⟨Nat.lt_of_lt_of_le (h2 b hb).1 hz, .inr (h2 b hb)⟩⟩
theorem isFz_900 {k : Nat} (h : isFz k = true) : 900 ≤ k ∧ k < 1000 := by
  unfold isFz at h
  rw [Bool.and_eq_true] at h
  exact ⟨Nat.le_of_ble_eq_true h.1, (blt_iff _ _).1 h.2⟩
theorem fz_isFz {k : Nat} (h1 : 900 ≤ k) (h2 : k < 1000) : isFz k = true := by
  unfold isFz
  rw [Nat.ble_eq_true_of_le h1, (blt_iff _ _).2 h2]; rfl
theorem noFz_rel {B : Base} {G : Gh} {w : World} {bs : List Nat} {tok : Nat → Value} (hs : ∀ b, B.safe b → w.heap[b]? = B.w0.heap[b]?) (hz : B.w0.heap.size ≤ w.heap.size) (v : AV) (u : Value) (h : VRelS B G v u) : VRelS (fzBase B w bs tok) G (noFz v) u := by
  have saf : ∀ b, B.safe b → (fzBase B w bs tok).safe b := fun b hb => (fz_safe b).2 ⟨Nat.lt_of_lt_of_le hb.1 hz, .inr hb⟩
  cases v with
  | bor t r x =>
    have h1 := fz_fz (bs := bs) (tok := tok) hs hz h.1
    cases t with
    | none => exact ⟨h1, fun i e => by cases e⟩
    | some k =>
      simp only [noFz]
      cases hk : isFz k with
      | true => exact ⟨h1, fun i e => by cases e⟩
      | false =>
        refine ⟨h1, fun i e => ?_⟩
        cases e
        obtain ⟨h2, h3⟩ := h.2 k rfl
        refine ⟨?_, h3⟩
        show u = bif isFz k then tok k else B.tok k
        rw [hk]; exact h2
  | bptr r row c =>
    obtain ⟨b, o, ls, h1, h2, h3, h4⟩ := h
    exact ⟨b, o, ls, RowV.keep r row ls b o h1 (hs b h2) fun b' hb' => hs b' (h3 b' hb'), saf b h2, fun b' hb' => saf b' (h3 b' hb'), h4⟩
  | ref id p vw => cases vw <;> exact h
  | _ => exact h
theorem noFz_isS (v : AV) (h : v.isS = true) : (noFz v).isS = true := by
  cases v with
  | bor t r x => cases t with
    | none => rfl
    | some k => simp only [noFz]; cases isFz k <;> rfl
  | _ => exact h
theorem lendE_rel {B : Base} {G : Gh} {a : Act} : ∀ (us : List Nat) (k : Nat) (e : Env), k + us.length ≤ 1000 → EnvR B G e a → (∀ i u, us[i]? = some u → B.tok (k + i) = a.tmps.getD u undef) → EnvR B G (lendE k us e) a
  | [], k, e, _, h, _ => h
  | u :: us, k, e, hk, h, ht => by
    simp only [List.length_cons] at hk
    refine lendE_rel us (k + 1) _ (by omega) ?_ fun i u' hi => by rw [Nat.add_assoc, Nat.add_comm 1 i]; exact ht (i + 1) u' (by simpa using hi)
    have hr := h.rel u
    cases he : getE e u with
    | bor t r x =>
      rw [he] at hr
      refine ⟨fun t' => ?_⟩
      rw [getE_putE]
      by_cases e1 : u = t'
      · rw [if_pos e1]
        subst e1
        refine ⟨hr.1, fun i e => ?_⟩
        cases e
        exact ⟨(ht 0 u rfl).symm, fun hl => by omega⟩
      · rw [if_neg e1]; exact h.rel t'
    | _ => exact h
/-- What is known while the loop runs. -/
structure Froze (B : Base) (G : Gh) (s : St) (us : List Nat) (rx : (r : RT) × List r.den) (a : Act) (w : World) (l : L) (tok : Nat → Value) : Prop where
  env : EnvR B G s.env a
  tree : CellV B.fz w true (.sl rx.1) rx.2 l (tok 900)
  no : rx.1.noVs = true
  held : ∃ h, Sim B G h w ∧ Held B G h w l.bl
  toks : ∀ i u, us[i]? = some u → tok (901 + i) = a.tmps.getD u undef
theorem freeze_sound {B : Base} {G : Gh} {s : St} {a : Act} {w : World} {nt : Nat} (hs : FrS B G (fun id => s.next ≤ id) s a w nt) {t : Nat} {us : List Nat} {s1 : St} {rx : (r : RT) × List r.den} (h : freezeSt t us s = some (s1, rx)) :
    ∃ l tok, Froze B G s us rx a w l tok ∧ FrS (fzBase B w l.bl tok) G (fun id => s1.next ≤ id) s1 a w nt ∧ s1.next = s.next := by
  unfold freezeSt at h
  split at h
  · rename_i id hget
    split at h
    · rename_i r x ho
      cases hb : (r.noVs && Nat.blt us.length 90) with
      | false => rw [hb] at h; cases h
      | true =>
        rw [hb] at h
        simp only [cond_true, Option.some.injEq, Prod.mk.injEq] at h
        obtain ⟨rfl, rfl⟩ := h
        simp only [Bool.and_eq_true] at hb
        obtain ⟨hno, hlen⟩ := hb
        have hlen := (blt_iff _ _).1 hlen
        have hv := hs.env.rel t
        rw [hget] at hv
        obtain ⟨loc, n, hG, hval⟩ := hv
        obtain ⟨l, v0, hg, hc⟩ := hs.sim.obj id _ ho
        have hc2 := hc
        obtain ⟨loc', kids, e1, hv0, hk, hrest⟩ := hc2
        subst e1
        unfold Gh.at at hG
        rw [hg] at hG
        simp only [L.at, Option.some.injEq, Prod.mk.injEq] at hG
        obtain ⟨rfl, rfl⟩ := hG
        have hv1 : a.tmps.getD t undef = v0 := by rw [hval, hv0, hk]
        let tok : Nat → Value := fun k => bif Nat.beq k 900 then v0 else match us[k - 901]? with
          | some u => a.tmps.getD u undef
          | none => undef
        have ht9 : tok 900 = v0 := rfl
        have htu : ∀ i u, us[i]? = some u → tok (901 + i) = a.tmps.getD u undef := by
          intro i u hi
          show (bif Nat.beq (901 + i) 900 then v0 else _) = _
          rw [beq_false (by omega), cond_false, show 901 + i - 901 = i by omega, hi]
        have hheld : Held B G (delO s.heap id) w (L.sl loc' kids).bl := by
          have := Held.take hs.sim Held.nil ho rfl hg (List.Sublist.refl _)
          rwa [List.nil_append] at this
        refine ⟨.sl loc' kids, tok, ⟨hs.env, by rw [ht9]; exact hc, hno, ⟨_, hs.sim.heap (del_sub _ _), hheld⟩, htu⟩, ⟨?_, ?_, hs.defers, hs.size, hs.free⟩, rfl⟩
        · refine map_sim (hs.sim.heap (del_sub s.heap id)) (noFz_rel hs.sim.safe hs.sim.size) (fun r x l v _ hx => CellV.mono (fun r x v => fz_fz hs.sim.safe hs.sim.size) _ _ _ _ hx) (fun i o go h1 h2 h3 b hb hsf => ?_) rfl rfl rfl (Nat.le_refl _) fun b _ => rfl
          rcases ((fz_safe b).1 hsf).2 with hm | hm
          · exact hheld.apart i o go h1 h2 h3 b hm hb
          · exact (hs.sim.mine i o go (del_sub _ _ _ _ h1) h2 h3 b hb).2 hm
        · have h1 : EnvR (fzBase B w (L.sl loc' kids).bl tok) G (mapE noFz s.env) a := mapE_rel (noFz_rel hs.sim.safe hs.sim.size) noFz_isS rfl hs.env
          refine lendE_rel us 901 _ (by omega) ⟨fun t' => ?_⟩ fun i u hi => ?_
          · rw [getE_putE]
            by_cases e1 : t = t'
            · rw [if_pos e1]
              subst e1
              rw [hv1]
              refine ⟨⟨_, CellV.noVs _ _ _ _ (by simpa [CT.noVs] using hno) hc.lend, fun b hb => (fz_safe b).2 ⟨(hheld.mine b hb).1, .inl hb⟩⟩, fun i e => ?_⟩
              cases e
              exact ⟨rfl, fun h => by omega⟩
            · rw [if_neg e1]; exact h1.rel t'
          · have hlt := (List.getElem?_eq_some_iff.1 hi).1
            show (bif isFz (901 + i) then tok (901 + i) else _) = _
            rw [fz_isFz (by omega) (by omega), cond_true]
            exact htu i u hi
    · cases h
  · cases h

theorem top_rel {B B' : Base} {G : Gh} {x : AV} {u : Value} (ht : x.top = true) (h : VRelS B G x u) : VRelS B' G x u := by
  cases x with
  | ref id p vw => cases vw <;> exact h
  | eptr id p i c => exact h
  | ptr id o => exact h
  | _ => cases ht
theorem Low.base {B B' : Base} {il : Bool} {n : Nat} {G G' : Gh} (h : Low B il n G G') : Low B' il n G G' :=
  ⟨fun x u ht hi hx => top_rel ht (h.vis x u ht hi (top_rel ht hx)), h.same⟩
theorem thawS_isS {f : Nat → AV} (hf : ∀ k, (f k).isS = true) (v : AV) (h : v.isS = true) : (thawS f v).isS = true := by
  cases v with
  | bor t r x => cases t with
    | none => rfl
    | some k =>
      simp only [thawS]
      cases isFz k with
      | true => exact hf k
      | false => rfl
  | _ => first | exact h | rfl
theorem tokV_isS (e0 : Env) (nx : Nat) (us : List Nat) (k : Nat) : (tokV e0 nx us k).isS = true := by
  unfold tokV
  cases Nat.beq k 900 with
  | true => rfl
  | false =>
    simp only [cond_false]
    cases us[k - 901]? with
    | none => rfl
    | some u => simp only; split <;> rfl
theorem thaw_sound {B : Base} {G : Gh} {s : St} {us : List Nat} {rx : (r : RT) × List r.den} {a : Act} {w : World} {l : L} {tok : Nat → Value} (hz : Froze B G s us rx a w l tok) {G2 : Gh} {s2 : St} {a2 : Act} {w2 : World} {nt : Nat}
    (hs : FrS (fzBase B w l.bl tok) G2 (fun id => s2.next ≤ id) s2 a2 w2 nt) {c0 : Nat} (hc : c0 ≤ s2.next) (il : Bool) :
    ∃ G3, FrS B G3 (fun id => (thawSt s.env us rx s2).next ≤ id) (thawSt s.env us rx s2) a2 w2 nt ∧ Low B il c0 G2 G3 ∧ c0 ≤ (thawSt s.env us rx s2).next := by
  obtain ⟨h0, sim0, held0⟩ := hz.held
  have hfree : G2 s2.next = none := hs.free _ (Nat.le_refl _)
  have hle : G2.le (G2.set s2.next (.row l)) := Gh.le_set _ hfree
  have hne : ∀ id go, G2 id = some go → (G2.set s2.next (.row l)) id = some go := fun id go hg => by
    unfold Gh.set
    by_cases e : s2.next = id
    · subst e; rw [hfree] at hg; cases hg
    · rw [if_neg e]; exact hg
  obtain ⟨loc, kids, e1, hv0, hk, hrest⟩ := hz.tree
  have sim1 : Sim (fzBase B w l.bl tok) (G2.set s2.next (.row l)) (delO s2.heap s2.next) w2 := by
    have s1 := hs.sim.heap (del_sub s2.heap s2.next)
    have src : ∀ id o go, getO (delO s2.heap s2.next) id = some o → (G2.set s2.next (.row l)) id = some go → G2 id = some go := by
      intro id o go ho hg
      rw [getO_delO] at ho
      by_cases e : s2.next = id
      · rw [if_pos e] at ho; cases ho
      · unfold Gh.set at hg; rw [if_neg e] at hg; exact hg
    exact ⟨fun id o ho => ORel.mono hle (fun l hl => hne _ _ hl) (s1.obj id o ho), fun id o go ho how hg => s1.nodup id o go ho how (src id o go ho hg), fun id o go ho how hg => s1.mine id o go ho how (src id o go ho hg),
      fun i j o o' go go' hij ho ho' how how' hg hg' => s1.apart i j o o' go go' hij ho ho' how how' (src i o go ho hg) (src j o' go' ho' hg'), s1.os, s1.tape, s1.output, s1.size, s1.safe⟩
  have hf : ∀ v u, VRelS (fzBase B w l.bl tok) (G2.set s2.next (.row l)) v u → VRelS B (G2.set s2.next (.row l)) (thawS (tokV s.env s2.next us) v) u := by
    intro v u h
    cases v with
    | bor t r x => cases t with
      | none => trivial
      | some k =>
        simp only [thawS]
        cases hkf : isFz k with
        | false => trivial
        | true =>
          obtain ⟨h1, _⟩ := h.2 k rfl
          have h1 : u = bif isFz k then tok k else B.tok k := h1
          rw [hkf, cond_true] at h1
          simp only [cond_true]
          unfold tokV
          by_cases e9 : k = 900
          · subst e9
            simp only [Nat.beq_refl, cond_true]
            refine ⟨loc, kids.length, ?_, by rw [h1, hv0, hk]⟩
            unfold Gh.at
            rw [set_self, e1]
            rfl
          · rw [beq_false e9]
            simp only [cond_false]
            cases hu : us[k - 901]? with
            | none => trivial
            | some u1 =>
              simp only
              have h3 := hz.toks _ u1 hu
              obtain ⟨h4, h5⟩ := isFz_900 hkf
              rw [show 901 + (k - 901) = k by omega, ← h1] at h3
              have h6 := hz.env.rel u1
              split
              · rename_i t r x he
                rw [he, ← h3] at h6
                exact ⟨h6.1, fun i e => by cases e⟩
              · trivial
    | bptr r row c => trivial
    | ref id p vw => cases vw <;> exact h
    | _ => exact h
  have hS : ∀ v : AV, v.isS = true → (thawS (tokV s.env s2.next us) v).isS = true := thawS_isS (tokV_isS _ _ _)
  have sim2 : Sim B (G2.set s2.next (.row l)) (mapH (thawS (tokV s.env s2.next us)) RT.noVs (delO s2.heap s2.next)) w2 := by
    refine map_sim sim1 hf (fun r x l v hn hx => CellV.noVs _ _ _ _ (by simpa [CT.noVs] using hn) hx) (fun i o go h1 h2 h3 b hb hsf => (sim1.mine i o go h1 h2 h3 b hb).2 ((fz_safe b).2 ⟨Nat.lt_of_lt_of_le hsf.1 sim0.size, .inr hsf⟩)) (sim1.os.trans sim0.os) (sim1.tape.trans sim0.tape) (sim1.output.trans sim0.output) (Nat.le_trans sim0.size sim1.size) fun b hb => ?_
    rw [sim1.safe b ((fz_safe b).2 ⟨Nat.lt_of_lt_of_le hb.1 sim0.size, .inr hb⟩)]
    exact sim0.safe b hb
  have lsafe : ∀ b ∈ l.bl, (fzBase B w l.bl tok).safe b := fun b hb => (fz_safe b).2 ⟨(held0.mine b hb).1, .inl hb⟩
  have sub : ∀ id o', getO (mapH (thawS (tokV s.env s2.next us)) RT.noVs (delO s2.heap s2.next)) id = some o' → id ≠ s2.next := by
    intro id o' ho e
    obtain ⟨o, h1, _⟩ := getO_mapH _ _ _ ho
    rw [getO_delO, if_pos e.symm] at h1
    cases h1
  have sim3 : Sim B (G2.set s2.next (.row l)) (setO (mapH (thawS (tokV s.env s2.next us)) RT.noVs (delO s2.heap s2.next)) s2.next (.row rx.1 rx.2)) w2 := by
    refine sim2.putAt (go := .row l) (set_self ..) ⟨l, _, set_self .., hz.tree.keep _ _ _ _ fun b hb => sim1.safe b (lsafe b hb)⟩ rfl ⟨held0.nodup, fun b hb => ⟨Nat.lt_of_lt_of_le (held0.mine b hb).1 sim1.size, (held0.mine b hb).2⟩, fun i o' go h1 h2 h3 b hb hb2 => ?_⟩
    obtain ⟨o, h4, h5⟩ := getO_mapH _ _ _ h1
    rw [h5.own.2.2] at hb2
    exact (sim1.mine i o go h4 h5.own.1 h3 b hb2).2 (lsafe b hb)
  have hget : ∀ i o, getO (setO (mapH (thawS (tokV s.env s2.next us)) RT.noVs s2.heap) s2.next (.row rx.1 rx.2)) i = some o → getO (setO (mapH (thawS (tokV s.env s2.next us)) RT.noVs (delO s2.heap s2.next)) s2.next (.row rx.1 rx.2)) i = some o := by
    intro i o ho
    rw [getO_setO] at ho ⊢
    by_cases e : s2.next = i
    · rw [if_pos e] at ho ⊢; exact ho
    · rw [if_neg e] at ho ⊢
      exact getO_mapH_del s2.heap s2.next i o e ho
  refine ⟨G2.set s2.next (.row l), ⟨sim3.heap hget, ?_, hs.defers, hs.size, fun id hid => ?_⟩, ⟨fun x u ht hi hx => VRelS.mono hle hx, fun _ id hid => ?_⟩, Nat.le_succ_of_le hc⟩
  · exact mapE_rel hf hS rfl ⟨fun t => (hs.env.rel t).mono hle⟩
  · have hid : s2.next + 1 ≤ id := hid
    unfold Gh.set
    rw [if_neg (by omega)]
    exact hs.free id (by omega)
  · unfold Gh.set
    rw [if_neg (by omega)]
end Go.Abs

namespace Go.Abs
set_option linter.unusedSimpArgs false
set_option linter.unusedVariables false
open Go.RowKit

/-! ### code -/
def X.toE : X → Exit
  | .normal => .normal
  | .exit i => .exit i
  | .ret => .ret
structure Fin (B : Base) (G0 : Gh) (il : Bool) (c0 nt : Nat) (x : X) (s' : St) (e : Exit) (a' : Act) (w' : World) : Prop where
  ex : e = x.toE
  st : ∃ G', FrS B G' (fun id => s'.next ≤ id) s' a' w' nt ∧ Low B il c0 G0 G' ∧ c0 ≤ s'.next
theorem Fin.mono {B : Base} {G0 G1 : Gh} {il : Bool} {c0 nt : Nat} {x : X} {s' : St} {e : Exit} {a' : Act} {w' : World} (h : Fin B G1 il c0 nt x s' e a' w') (hl : Low B il c0 G0 G1) : Fin B G0 il c0 nt x s' e a' w' := by
  obtain ⟨G', h1, h2, h3⟩ := h.st
  exact ⟨h.ex, G', h1, hl.trans h2, h3⟩

/-- Within a loop, before a round. -/
def LoopWp (P : Program) (c : Code) (Q : Exit → Act → World → Prop) (a : Act) (w : World) : Prop :=
  ∀ (b : Frame) (k : List Item) (cs : List Frame), ∃ e a' w', Q e a' w' ∧ Arrives P (lone (b.at a (.code c :: .inLoop c :: k)) cs w) b k cs e a' w'
theorem LoopWp.enter {P : Program} {c : Code} {Q : Exit → Act → World → Prop} {a : Act} {w : World} (h : LoopWp P c Q a w) : (Code.loop c).wp P Q a w :=
  fun b k cs => let ⟨e, a', w', hq, harr⟩ := h b k cs; ⟨e, a', w', hq, .of_steps (.one step_loop) harr⟩
theorem LoopWp.round {P : Program} {c : Code} {Q : Exit → Act → World → Prop} {a : Act} {w : World} (h : c.wp P (Exit.then (LoopWp P c Q) Q) a w) : LoopWp P c Q a w := by
  intro b k cs
  obtain ⟨e, a₁, w₁, hq, harr⟩ := h b (.inLoop c :: k) cs
  cases e with
  | normal =>
    obtain ⟨e₂, a₂, w₂, hq₂, harr₂⟩ := hq b k cs
    exact ⟨e₂, a₂, w₂, hq₂, .of_steps (Steps.trans harr (.one step_inLoop)) harr₂⟩
  | exit id => exact ⟨_, a₁, w₁, hq, .pass (x := .inLoop c) rfl (fun _ _ => .inl (by simp)) harr⟩
  | goto l => exact ⟨_, a₁, w₁, hq, .pass (x := .inLoop c) rfl (fun _ _ => .inl (by simp)) harr⟩
  | ret => exact ⟨_, a₁, w₁, hq, .pass (x := .inLoop c) rfl (fun _ _ => .inl (by simp)) harr⟩
  | panic ch => exact ⟨_, a₁, w₁, hq, .pass (x := .inLoop c) rfl (fun _ _ => .inl (by simp)) harr⟩
  | outgrown => exact ⟨_, a₁, w₁, hq, .pass (x := .inLoop c) rfl (fun _ _ => .inl (by simp)) harr⟩

def dstOk (nt : Nat) : Code → Bool
  | .region _ ops _ => ops.toList.all fun o => match o.dst with | some t => Nat.blt t nt | none => true
  | .seq a b => dstOk nt a && dstOk nt b
  | .cond _ a b => dstOk nt a && dstOk nt b
  | .block _ a => dstOk nt a
  | .loop a => dstOk nt a
  | .scope a => dstOk nt a
  | _ => true
def allLoops (Pr : Code → Prop) : Code → Prop
  | .seq a b => allLoops Pr a ∧ allLoops Pr b
  | .cond _ a b => allLoops Pr a ∧ allLoops Pr b
  | .block _ a => allLoops Pr a
  | .loop a => Pr a ∧ allLoops Pr a
  | .scope a => allLoops Pr a
  | _ => True
def allJoins (Pr : Nat → Code → Prop) : Code → Prop
  | .seq a b => (∀ j, joinId a b = some j → Pr j b) ∧ allJoins Pr a ∧ allJoins Pr b
  | .cond _ a b => allJoins Pr a ∧ allJoins Pr b
  | .block _ a => allJoins Pr a
  | .loop a => allJoins Pr a
  | .scope a => allJoins Pr a
  | _ => True
theorem dstOk_mono {nt mt : Nat} (h : nt ≤ mt) : ∀ c : Code, dstOk nt c = true → dstOk mt c = true
  | .region _ ops _, hc => by
    simp only [dstOk, List.all_eq_true] at hc ⊢
    intro o ho
    have := hc o ho
    cases hd : o.dst with
    | none => rfl
    | some t => rw [hd] at this; exact (blt_iff _ _).2 (Nat.lt_of_lt_of_le ((blt_iff _ _).1 this) h)
  | .seq a b, hc => by
    simp only [dstOk, Bool.and_eq_true] at hc ⊢
    exact ⟨dstOk_mono h a hc.1, dstOk_mono h b hc.2⟩
  | .cond _ a b, hc => by
    simp only [dstOk, Bool.and_eq_true] at hc ⊢
    exact ⟨dstOk_mono h a hc.1, dstOk_mono h b hc.2⟩
  | .block _ a, hc => dstOk_mono h a hc
  | .loop a, hc => dstOk_mono h a hc
  | .scope a, hc => dstOk_mono h a hc
  | .skip, _ => rfl
  | .label _, _ => rfl
  | .exit _, _ => rfl
  | .ret, _ => rfl
  | .goto _, _ => rfl
  | .rangeFunc _ _ _ _, _ => rfl
  | .refuse _, _ => rfl
/-- The loops that a context knows are those of the code. -/
structure LoopsS (c : Ctx) (inl : Inl) (body : Code) : Prop where
  ok : ∀ k l, (k, l) ∈ c.loops → Nat.blt k JB = true → l.d = c.dep → ∀ a, loopCode k body = some a → ∀ p r, l.fn p = some r → ∃ n, iterD (stepD l.c0 l fun s => codeRun c inl l.c0 a s) n p = some r
  jok : ∀ k l, (k, l) ∈ c.loops → Nat.blt k JB = false → l.d = c.dep → ∀ a, joinCode k body = some a → ∀ p r, l.fn p = some r → ∃ n, iterD (stepJ l.c0 l fun s => codeRun c inl l.c0 a s) n p = some r

theorem X.eq_of_same {x y : X} (h : X.same x y = true) : x = y := by
  cases x <;> cases y <;> first | rfl | (cases h; done) | skip
  rw [Nat.eq_of_beq_eq_true h]
section
variable {B : Base} {c : Ctx} {inl : Inl} {nt c0 : Nat} {G G0 : Gh} {s s' : St} {a : Act} {w : World}

theorem toExit_1 (x : X) (s : St) (e : ExitC) : toExit c0 x s [e] = (bif X.same e.x x then toForm c0 e.keep e.tmpl e.cts s else none) := rfl
theorem toExit_2 (x : X) (s : St) (e d : ExitC) (es : List ExitC) : toExit c0 x s (e :: d :: es) = (bif X.same e.x x then
      match toForm c0 e.keep e.tmpl e.cts s with
      | some y => some (.inl y)
      | none => (toExit c0 x s (d :: es)).map .inr
    else (toExit c0 x s (d :: es)).map .inr) := rfl
theorem ofExit_2 (e d : ExitC) (es : List ExitC) (y : SumT (e :: d :: es)) : ofExit (e :: d :: es) y = .cases _ _ y (fun z => (ofForm e.tmpl e.cts z).andThen fun s => .ret (e.x, s)) (fun z => ofExit (d :: es) z) := rfl
theorem exit_one (hs : FrS B G (fun id => s.next ≤ id) s a w nt) (hc : c0 ≤ s.next) {x : X} {e : ExitC} {y : Tup e.cts} (hx : X.same e.x x = true) (hf : toForm c0 e.keep e.tmpl e.cts s = some y) {x' : X} {s' : St}
    (h : ((ofForm e.tmpl e.cts y).andThen fun s => .ret (e.x, s) : D (X × St)).Has (x', s')) : x' = x ∧ ∃ G', FrS B G' (fun id => s'.next ≤ id) s' a w nt ∧ Low B c.inl c0 G G' ∧ c0 ≤ s'.next := by
  obtain ⟨s2, h1, h2, G', h3⟩ := form_sound hs hc e.keep c.inl hf
  obtain ⟨s4, h4, h5⟩ := (D.has_andThen _ _ _).1 h
  simp only [D.Has, Prod.mk.injEq] at h5
  obtain ⟨h6, h7⟩ := h5
  subst h7
  have := h2 s4 h4
  subst this
  exact ⟨by rw [← h6]; exact X.eq_of_same hx, G', h3⟩
theorem exit_sound (hs : FrS B G (fun id => s.next ≤ id) s a w nt) (hc : c0 ≤ s.next) {x : X} : ∀ (es : List ExitC) (r : SumT es), toExit c0 x s es = some r → ∀ (x' : X) (s' : St), (ofExit es r).Has (x', s') →
    x' = x ∧ ∃ G', FrS B G' (fun id => s'.next ≤ id) s' a w nt ∧ Low B c.inl c0 G G' ∧ c0 ≤ s'.next
  | [], r, h, x', s', h2 => r.elim
  | [e], r, h, x', s', h2 => by
    have h0 := (toExit_1 (c0 := c0) x s e).symm.trans h
    cases hx : X.same e.x x with
    | false => rw [hx] at h0; exact no_some h0
    | true => rw [hx] at h0; exact exit_one hs hc hx h0 h2
  | e :: d :: es, r, h, x', s', h2 => by
    have h0 := (toExit_2 (c0 := c0) x s e d es).symm.trans h
    have h3 : (D.cases _ _ r (fun z => (ofForm e.tmpl e.cts z).andThen fun s => .ret (e.x, s)) (fun z => ofExit (d :: es) z) : D (X × St)).Has (x', s') := h2
    clear h h2
    have rest : ∀ z, toExit c0 x s (d :: es) = some z → r = .inr z → x' = x ∧ ∃ G', FrS B G' (fun id => s'.next ≤ id) s' a w nt ∧ Low B c.inl c0 G G' ∧ c0 ≤ s'.next := by
      intro z hz hr
      subst hr
      rcases h3 with ⟨y, hy, _⟩ | ⟨y, hy, h4⟩
      · cases hy
      · cases hy
        exact exit_sound hs hc (d :: es) z hz x' s' h4
    have rest' : (toExit c0 x s (d :: es)).map Sum.inr = some r → x' = x ∧ ∃ G', FrS B G' (fun id => s'.next ≤ id) s' a w nt ∧ Low B c.inl c0 G G' ∧ c0 ≤ s'.next := by
      intro hm
      obtain ⟨z, hz, hr⟩ := Option.map_eq_some_iff.1 hm
      exact rest z hz hr.symm
    cases hx : X.same e.x x with
    | false => rw [hx] at h0; exact rest' h0
    | true =>
      rw [hx] at h0
      simp only [cond_true] at h0
      cases hf : toForm c0 e.keep e.tmpl e.cts s with
      | none => rw [hf] at h0; exact rest' h0
      | some y =>
        rw [hf] at h0
        have hr : Sum.inl y = r := Option.some.inj h0
        subst hr
        rcases h3 with ⟨z, hz, h4⟩ | ⟨z, hz, _⟩
        · cases hz
          exact exit_one hs hc hx hf h4
        · cases hz

/-- What is behind a loop's exit: the loop again, in another form, or the end. -/
structure Beh (B : Base) (G0 : Gh) (il : Bool) (c0 nt : Nat) (body : Code) (Q : Exit → Act → World → Prop) (x : X) (s' : St) : Prop where
  again : x = .normal → ∀ a w G', FrS B G' (fun id => s'.next ≤ id) s' a w nt → Low B il c0 G0 G' → c0 ≤ s'.next → LoopWp B.P body Q a w
  done : x ≠ .normal → ∀ e a w, Fin B G0 il c0 nt x s' e a w → Q e a w
theorem loop_rounds {l : LoopCon} {body : Code} {fb : St → D (X × St)} {Q : Exit → Act → World → Prop} (hbody : ∀ (s : St) (a : Act) (w : World) (G : Gh), FrS B G (fun id => s.next ≤ id) s a w nt → c0 ≤ s.next → ∀ x s', (fb s).Has (x, s') → body.wp B.P (Fin B G c.inl c0 nt x s') a w) :
    ∀ (n : Nat) (p : Tup l.ins) (r : SumT l.exits), iterD (stepD c0 l fb) n p = some r → ∀ (s0 : St) (a : Act) (w : World) (G1 : Gh), (ofForm l.tmpl l.ins p).Has s0 → FrS B G1 (fun id => s0.next ≤ id) s0 a w nt → Low B c.inl c0 G0 G1 → c0 ≤ s0.next →
      ∀ (x : X) (s' : St), (ofExit l.exits r).Has (x, s') → Beh B G0 c.inl c0 nt body Q x s' → LoopWp B.P body Q a w
  | 0, p, r, h, s0, a, w, G1, _, _, _, _, x, s', _, _ => no_some h
  | n + 1, p, r, h, s0, a, w, G1, hof, hs, hlow, hge, x, s', hex, hbeh => by
    obtain ⟨y, hy, hk⟩ := D.has_of_runK _ _ _ h
    unfold stepD at hy
    obtain ⟨s1, h1, h2⟩ := (D.has_andThen _ _ _).1 hy
    have e1 : s1 = s0 := by
      unfold ofForm at h1 hof
      cases hf : fillSt l.tmpl (avTup l.ins p) with
      | none => rw [hf] at h1; exact h1.elim
      | some q => rw [hf] at h1 hof; exact h1.symm.trans hof
    subst e1
    obtain ⟨⟨x1, s2⟩, h3, h4⟩ := (D.has_andThen _ _ _).1 h2
    have hb := hbody s1 a w G1 hs hge x1 s2 h3
    refine LoopWp.round (wp_mono hb fun e a' w' hfin => ?_)
    obtain ⟨G2, g1, g2, g3⟩ := hfin.st
    have he := hfin.ex
    have esc : ((D.opt (toExit c0 x1 s2 l.exits)).andThen fun y => .ret (.inr y) : D (Tup l.ins ⊕ SumT l.exits)).Has y → Exit.then (LoopWp B.P body Q) Q e a' w' := by
      intro h5
      obtain ⟨z, h6, h7⟩ := (D.has_andThen _ _ _).1 h5
      have h8 : Sum.inr z = y := h7
      subst h8
      have h9 : z = r := Option.some.inj hk
      subst h9
      have h10 : toExit c0 x1 s2 l.exits = some z := by
        cases ht : toExit c0 x1 s2 l.exits with
        | none => rw [ht] at h6; exact h6.elim
        | some z' => rw [ht] at h6; have h11 : z' = z := h6; rw [h11]
      obtain ⟨hx, G3, k1, k2, k3⟩ := exit_sound (c := c) g1 g3 l.exits z h10 x s' hex
      subst hx
      have hfin2 : Fin B G0 c.inl c0 nt x s' e a' w' := ⟨he, G3, k1, (hlow.trans g2).trans k2, k3⟩
      cases x with
      | normal =>
        rw [he]
        exact hbeh.again rfl a' w' G3 k1 ((hlow.trans g2).trans k2) k3
      | exit i =>
        have := hbeh.done (fun h => by cases h) e a' w' hfin2
        rw [he] at this ⊢
        exact this
      | ret =>
        have := hbeh.done (fun h => by cases h) e a' w' hfin2
        rw [he] at this ⊢
        exact this
    cases x1 with
    | normal =>
      simp only at h4
      cases ht : toForm c0 l.keep l.tmpl l.ins s2 with
      | none => rw [ht] at h4; exact esc h4
      | some z =>
        rw [ht] at h4
        have h8 : Sum.inl z = y := h4
        subst h8
        obtain ⟨s3, k1, _, G3, k2, k3, k4⟩ := form_sound g1 g3 l.keep c.inl ht
        rw [he]
        exact loop_rounds hbody n z r hk s3 a' w' G3 k1 k2 ((hlow.trans g2).trans k3) k4 x s' hex hbeh
    | exit i => exact esc h4
    | ret => exact esc h4

/-- A loop by its contracts, one behind another. -/
theorem loopRun_sound {id dep : Nat} {body : Code} {Ls : Loops} (hbody : ∀ (s : St) (a : Act) (w : World) (G : Gh), FrS B G (fun id => s.next ≤ id) s a w nt → c0 ≤ s.next → ∀ x s', (codeRun c inl c0 body s).Has (x, s') → body.wp B.P (Fin B G c.inl c0 nt x s') a w)
    (hl : ∀ l, (id, l) ∈ Ls → Nat.blt id JB = true → l.d = dep → ∀ p r, l.fn p = some r → ∃ n, iterD (stepD l.c0 l fun s => codeRun c inl l.c0 body s) n p = some r) :
    ∀ (ls : Loops), (∀ q ∈ ls, q ∈ Ls) → ∀ (s : St) (a : Act) (w : World) (G1 : Gh), FrS B G1 (fun id => s.next ≤ id) s a w nt → Low B c.inl c0 G0 G1 → c0 ≤ s.next → ∀ (x : X) (s' : St), (loopRun c0 dep id s ls).Has (x, s') → LoopWp B.P body (Fin B G0 c.inl c0 nt x s') a w
  | [], _, s, a, w, G1, _, _, _, x, s', h => h.elim
  | (k, l) :: ls, hsub, s, a, w, G1, hs, hlow, hge, x, s', h => by
    have ih := loopRun_sound hbody hl ls fun q hq => hsub q (.tail _ hq)
    simp only [loopRun] at h
    cases hb : (Nat.beq k id && (Nat.blt id JB && (Nat.beq l.c0 c0 && Nat.beq l.d dep))) with
    | false => rw [hb] at h; exact ih s a w G1 hs hlow hge x s' h
    | true =>
      rw [hb] at h
      simp only [cond_true] at h
      simp only [Bool.and_eq_true] at hb
      have e1 := Nat.eq_of_beq_eq_true hb.1
      subst e1
      cases ht : toForm c0 l.keep l.tmpl l.ins s with
      | none => rw [ht] at h; exact ih s a w G1 hs hlow hge x s' h
      | some p =>
        rw [ht] at h
        obtain ⟨r, hr, h2⟩ := h
        obtain ⟨⟨x1, s1⟩, h3, h4⟩ := (D.has_andThen _ _ _).1 h2
        obtain ⟨n, hn⟩ := hl l (hsub _ (.head _)) hb.2.1 (Nat.eq_of_beq_eq_true hb.2.2.2) p r hr
        have e2 := Nat.eq_of_beq_eq_true hb.2.2.1
        rw [e2] at hn
        obtain ⟨s3, k1, _, G3, k2, k3, k4⟩ := form_sound hs hge l.keep c.inl ht
        refine loop_rounds (c := c) (G0 := G0) hbody n p r hn s3 a w G3 k1 k2 (hlow.trans k3) k4 x1 s1 h3 ⟨fun e a' w' G' f1 f2 f3 => ?_, fun hne e a' w' hfin => ?_⟩
        · subst e
          exact ih s1 a' w' G' f1 f2 f3 x s' h4
        · cases x1 with
          | normal => exact absurd rfl hne
          | exit i => obtain ⟨rfl, rfl⟩ := Prod.mk.inj h4; exact hfin
          | ret => obtain ⟨rfl, rfl⟩ := Prod.mk.inj h4; exact hfin
theorem joinRun_has {id dep : Nat} : ∀ (ls : Loops) {d : D (X × St)} {x : X} {s' : St}, joinRun c0 dep id s ls = some d → d.Has (x, s') → ∃ l p r, (id, l) ∈ ls ∧ l.c0 = c0 ∧ l.d = dep ∧ toForm c0 l.keep l.tmpl l.ins s = some p ∧ l.fn p = some r ∧ (ofExit l.exits r).Has (x, s')
  | [], d, x, s', h, _ => by cases h
  | (k, l) :: ls, d, x, s', h, hd => by
    simp only [joinRun] at h
    have rest : joinRun c0 dep id s ls = some d → ∃ l1 p r, (id, l1) ∈ (k, l) :: ls ∧ l1.c0 = c0 ∧ l1.d = dep ∧ toForm c0 l1.keep l1.tmpl l1.ins s = some p ∧ l1.fn p = some r ∧ (ofExit l1.exits r).Has (x, s') := by
      intro h
      obtain ⟨l1, p, r, h1, h2⟩ := joinRun_has ls h hd
      exact ⟨l1, p, r, .tail _ h1, h2⟩
    cases hb : (Nat.beq k id && (Nat.beq l.c0 c0 && Nat.beq l.d dep)) with
    | false => rw [hb] at h; exact rest h
    | true =>
      rw [hb] at h
      simp only [cond_true] at h
      simp only [Bool.and_eq_true] at hb
      have e1 := Nat.eq_of_beq_eq_true hb.1
      subst e1
      split at h
      · exact rest h
      · rename_i p hp
        have e2 := Option.some.inj h
        subst e2
        obtain ⟨r, hr, h2⟩ := hd
        exact ⟨l, p, r, .head _, Nat.eq_of_beq_eq_true hb.2.1, Nat.eq_of_beq_eq_true hb.2.2, hp, hr, h2⟩
/-- No key of a join is a loop's. -/
theorem joinId_big {a b : Code} {j : Nat} (h : joinId a b = some j) : Nat.blt j JB = false := by
  unfold joinId at h
  split at h
  · have := Option.some.inj h
    subst this
    cases hb : Nat.blt (JB + _) JB with
    | false => rfl
    | true => exact absurd ((blt_iff _ _).1 hb) (by omega)
  · cases h
theorem join_sound {l : LoopCon} {q : Code} {fb : St → D (X × St)} (hbody : ∀ (s : St) (a : Act) (w : World) (G : Gh), FrS B G (fun id => s.next ≤ id) s a w nt → c0 ≤ s.next → ∀ x s', (fb s).Has (x, s') → q.wp B.P (Fin B G c.inl c0 nt x s') a w)
    {n : Nat} {p : Tup l.ins} {r : SumT l.exits} (h : iterD (stepJ c0 l fb) n p = some r) {s0 : St} {a : Act} {w : World} {G1 : Gh} (hof : (ofForm l.tmpl l.ins p).Has s0) (hs : FrS B G1 (fun id => s0.next ≤ id) s0 a w nt) (hlow : Low B c.inl c0 G0 G1) (hge : c0 ≤ s0.next)
      {x : X} {s' : St} (hex : (ofExit l.exits r).Has (x, s')) : q.wp B.P (Fin B G0 c.inl c0 nt x s') a w := by
  cases n with
  | zero => exact no_some h
  | succ n =>
    obtain ⟨y, hy, hk⟩ := D.has_of_runK _ _ _ h
    unfold stepJ at hy
    obtain ⟨s1, h1, h2⟩ := (D.has_andThen _ _ _).1 hy
    have e1 : s1 = s0 := by
      unfold ofForm at h1 hof
      cases hf : fillSt l.tmpl (avTup l.ins p) with
      | none => rw [hf] at h1; exact h1.elim
      | some q => rw [hf] at h1 hof; exact h1.symm.trans hof
    subst e1
    obtain ⟨⟨x1, s2⟩, h3, h4⟩ := (D.has_andThen _ _ _).1 h2
    refine wp_mono (hbody s1 a w G1 hs hge x1 s2 h3) fun e a' w' hfin => ?_
    obtain ⟨G2, g1, g2, g3⟩ := hfin.st
    obtain ⟨z, h6, h7⟩ := (D.has_andThen _ _ _).1 h4
    have h8 : Sum.inr z = y := h7
    subst h8
    have h9 : z = r := Option.some.inj hk
    subst h9
    have h10 : toExit c0 x1 s2 l.exits = some z := by
      cases ht : toExit c0 x1 s2 l.exits with
      | none => rw [ht] at h6; exact h6.elim
      | some z' => rw [ht] at h6; have h11 : z' = z := h6; rw [h11]
    obtain ⟨hx, G3, k1, k2, k3⟩ := exit_sound (c := c) g1 g3 l.exits z h10 x s' hex
    subst hx
    exact ⟨hfin.ex, G3, k1, (hlow.trans g2).trans k2, k3⟩

theorem code_sound {P : Program} {fbody : Code} (hc : ∀ B : Base, B.P = P → CtxS B c inl) (hl : LoopsS c inl fbody) : ∀ (code : Code), dstOk nt code = true → allLoops (fun a => loopCode ((firstReg a).getD 0) fbody = some a) code → allJoins (fun j a => joinCode j fbody = some a) code →
    ∀ (B : Base) (hP : B.P = P) (c0 : Nat) (s : St) (a : Act) (w : World) (G : Gh), FrS B G (fun id => s.next ≤ id) s a w nt → c0 ≤ s.next → ∀ (x : X) (s' : St), (codeRun c inl c0 code s).Has (x, s') → code.wp B.P (Fin B G c.inl c0 nt x s') a w
  | .skip, _, _, _, B, hP, c0, s, a, w, G, hs, hge, x, s', h => by
    simp only [codeRun, D.Has, Prod.mk.injEq] at h
    obtain ⟨rfl, rfl⟩ := h
    exact wp_skip ⟨rfl, G, hs, .refl, hge⟩
  | .label _, _, _, _, B, hP, c0, s, a, w, G, hs, hge, x, s', h => by
    simp only [codeRun, D.Has, Prod.mk.injEq] at h
    obtain ⟨rfl, rfl⟩ := h
    exact wp_label ⟨rfl, G, hs, .refl, hge⟩
  | .region id ops draw, hd, _, _, B, hP, c0, s, a, w, G, hs, hge, x, s', h => by
    simp only [codeRun] at h
    obtain ⟨s1, h1, h2⟩ := (D.has_andThen _ _ _).1 h
    simp only [D.Has, Prod.mk.injEq] at h2
    obtain ⟨rfl, rfl⟩ := h2
    refine region_sound (hc B hP) (fun o ho t ht => ?_) hs h1 ⟨fun a' w' G' k1 k2 k3 => ⟨rfl, G', k1, k2.less hge, by omega⟩⟩
    simp only [dstOk, List.all_eq_true] at hd
    have := hd o ho
    rw [ht] at this
    exact (blt_iff _ _).1 this
  | .seq p q, hd, hal, haj, B, hP, c0, s, a, w, G, hs, hge, x, s', h => by
    simp only [codeRun] at h
    simp only [dstOk, Bool.and_eq_true] at hd
    obtain ⟨⟨x1, s1⟩, h1, h2⟩ := (D.has_andThen _ _ _).1 h
    refine wp_seq (wp_mono (code_sound hc hl p hd.1 hal.1 haj.2.1 B hP c0 s a w G hs hge x1 s1 h1) fun e a' w' hf => ?_)
    obtain ⟨G1, k1, k2, k3⟩ := hf.st
    have he := hf.ex
    cases x1 with
    | normal =>
      rw [he]
      simp only at h2
      have plain_ : (codeRun c inl c0 q s1).Has (x, s') → q.wp B.P (Fin B G c.inl c0 nt x s') a' w' := fun h2 =>
        wp_mono (code_sound hc hl q hd.2 hal.2 haj.2.2 B hP c0 s1 a' w' G1 k1 k3 x s' h2) fun e a w hf => hf.mono k2
      cases hj : joinAt c c0 p q s1 with
      | none => rw [hj] at h2; exact plain_ h2
      | some d =>
        rw [hj] at h2
        simp only at h2
        unfold joinAt at hj
        cases hb : hasJ c.loops with
        | false => rw [hb] at hj; cases hj
        | true =>
          rw [hb, cond_true] at hj
          cases hi : joinId p q with
          | none => rw [hi] at hj; cases hj
          | some j =>
            rw [hi] at hj
            obtain ⟨l, y, r, h1, h3, h4, h5, h6, h7⟩ := joinRun_has _ hj h2
            obtain ⟨n, hn⟩ := hl.jok _ l h1 (joinId_big hi) h4 q (haj.1 j hi) y r h6
            subst h3
            obtain ⟨s2, m1, _, G', m2, m3, m4⟩ := form_sound k1 k3 l.keep c.inl h5
            exact join_sound (c := c) (G0 := G) (fun s a w G hs hge x s' h => code_sound hc hl q hd.2 hal.2 haj.2.2 B hP l.c0 s a w G hs hge x s' h) hn m1 m2 (k2.trans m3) m4 h7
    | exit i =>
      simp only [D.Has, Prod.mk.injEq] at h2
      obtain ⟨rfl, rfl⟩ := h2
      rw [he] at hf ⊢
      exact hf
    | ret =>
      simp only [D.Has, Prod.mk.injEq] at h2
      obtain ⟨rfl, rfl⟩ := h2
      rw [he] at hf ⊢
      exact hf
  | .cond o p q, hd, hal, haj, B, hP, c0, s, a, w, G, hs, hge, x, s', h => by
    simp only [codeRun] at h
    simp only [dstOk, Bool.and_eq_true] at hd
    split at h
    · rename_i t
      split at h
      · rename_i v hv
        have hr := hs.env.rel t
        rw [hv] at hr
        have hr : a.eval (.tmp t) = .bool v := hr
        rcases h with ⟨rfl, h⟩ | ⟨rfl, h⟩
        · exact wp_cond_true hr (code_sound hc hl p hd.1 hal.1 haj.1 B hP c0 { s with env := putE s.env t (.bool true) } a w G (hs.fill hv) hge x s' h)
        · exact wp_cond_false hr (code_sound hc hl q hd.2 hal.2 haj.2 B hP c0 { s with env := putE s.env t (.bool false) } a w G (hs.fill hv) hge x s' h)
      · exact h.elim
    · rename_i v
      cases v with
      | true => exact wp_cond_true rfl (code_sound hc hl p hd.1 hal.1 haj.1 B hP c0 s a w G hs hge x s' h)
      | false => exact wp_cond_false rfl (code_sound hc hl q hd.2 hal.2 haj.2 B hP c0 s a w G hs hge x s' h)
    · exact h.elim
  | .block i p, hd, hal, haj, B, hP, c0, s, a, w, G, hs, hge, x, s', h => by
    simp only [codeRun] at h
    obtain ⟨⟨x1, s1⟩, h1, h2⟩ := (D.has_andThen _ _ _).1 h
    refine wp_block (wp_mono (code_sound hc hl p hd hal haj B hP c0 s a w G hs hge x1 s1 h1) fun e a' w' hf => ?_)
    have he := hf.ex
    cases x1 with
    | normal =>
      simp only [D.Has, Prod.mk.injEq] at h2
      obtain ⟨rfl, rfl⟩ := h2
      rw [he] at hf ⊢
      exact hf
    | ret =>
      simp only [D.Has, Prod.mk.injEq] at h2
      obtain ⟨rfl, rfl⟩ := h2
      rw [he] at hf ⊢
      exact hf
    | exit j =>
      simp only at h2
      rw [he]
      by_cases hj : j = i
      · subst hj
        simp only [Nat.beq_refl, cond_true, D.Has, Prod.mk.injEq] at h2
        obtain ⟨rfl, rfl⟩ := h2
        simp only [X.toE, Exit.inBlock, if_true]
        exact ⟨rfl, hf.st⟩
      · rw [beq_false hj] at h2
        simp only [cond_false, D.Has, Prod.mk.injEq] at h2
        obtain ⟨rfl, rfl⟩ := h2
        simp only [X.toE, Exit.inBlock, if_neg hj]
        exact ⟨rfl, hf.st⟩
  | .loop p, hd, hal, haj, B, hP, c0, s, a, w, G, hs, hge, x, s', h => by
    simp only [codeRun] at h
    have plain : ∀ (B : Base) (hP : B.P = P) (s : St) (a : Act) (w : World) (G : Gh), FrS B G (fun id => s.next ≤ id) s a w nt → c0 ≤ s.next → ∀ x s', (loopRun c0 c.dep ((firstReg p).getD 0) s c.loops).Has (x, s') → (Code.loop p).wp B.P (Fin B G c.inl c0 nt x s') a w := fun B hP s a w G hs hge x s' h =>
      (loopRun_sound (c := c) (inl := inl) (G0 := G) (Ls := c.loops) (fun s a w G hs hge x s' h => code_sound hc hl p hd hal.2 haj B hP c0 s a w G hs hge x s' h) (fun l h1 h2 h3 y r h4 => hl.ok _ l h1 h2 h3 p hal.1 y r h4) c.loops (fun _ h => h) s a w G hs .refl hge x s' h).enter
    cases hz : fzOf c.fz ((firstReg p).getD 0) with
    | none => rw [hz] at h; exact plain B hP s a w G hs hge x s' h
    | some tu =>
      obtain ⟨t, us⟩ := tu
      rw [hz] at h
      simp only at h
      cases hq : freezeSt t us s with
      | none => rw [hq] at h; exact h.elim
      | some q =>
        obtain ⟨s1, rx⟩ := q
        rw [hq] at h
        simp only at h
        obtain ⟨⟨x1, s2⟩, h1, h2⟩ := (D.has_andThen _ _ _).1 h
        simp only [D.Has, Prod.mk.injEq] at h2
        obtain ⟨rfl, rfl⟩ := h2
        obtain ⟨l, tok, f1, f2, f3⟩ := freeze_sound hs hq
        have h4 := plain (fzBase B w l.bl tok) hP s1 a w G f2 (by rw [f3]; exact hge) x1 s2 h1
        refine wp_mono h4 fun e a' w' hfin => ?_
        obtain ⟨G2, k1, k2, k3⟩ := hfin.st
        obtain ⟨G3, m1, m2, m3⟩ := thaw_sound f1 k1 k3 c.inl
        exact ⟨hfin.ex, G3, m1, k2.base.trans m2, m3⟩
  | .exit i, _, _, _, B, hP, c0, s, a, w, G, hs, hge, x, s', h => by
    simp only [codeRun, D.Has, Prod.mk.injEq] at h
    obtain ⟨rfl, rfl⟩ := h
    exact wp_exit ⟨rfl, G, hs, .refl, hge⟩
  | .scope p, hd, hal, haj, B, hP, c0, s, a, w, G, hs, hge, x, s', h => by
    simp only [codeRun] at h
    refine wp_scope_straight (wp_mono (code_sound hc hl p hd hal haj B hP c0 s a w G hs hge x s' h) fun e a' w' hf => ?_)
    have he := hf.ex
    rw [he] at hf ⊢
    cases x <;> exact hf
  | .ret, _, _, _, B, hP, c0, s, a, w, G, hs, hge, x, s', h => by
    simp only [codeRun, D.Has, Prod.mk.injEq] at h
    obtain ⟨rfl, rfl⟩ := h
    exact wp_ret ⟨rfl, G, hs, .refl, hge⟩
  | .goto _, _, _, _, B, hP, c0, s, a, w, G, hs, hge, x, s', h => by
    simp only [codeRun] at h
    exact h.elim
  | .rangeFunc _ _ _ _, _, _, _, B, hP, c0, s, a, w, G, hs, hge, x, s', h => by
    simp only [codeRun] at h
    exact h.elim
  | .refuse _, _, _, _, B, hP, c0, s, a, w, G, hs, hge, x, s', h => by
    simp only [codeRun] at h
    exact h.elim
end
end Go.Abs

namespace Go.Abs
set_option linter.unusedSimpArgs false
set_option linter.unusedVariables false
open Go.RowKit

/-! ### results -/
def resF (tmps : Array Value) : ResultVar → Sem Value
  | .tmp t => pure (tmps.getD t undef)
  | .cell a t => do loadVar t (← asAddr (tmps.getD a undef))
theorem untup_A {B : Base} {G : Gh} {v : AV} {u : Value} (h : VRel B G v u) : VRelA B G v.untup u := by
  cases v with
  | tup cs => trivial
  | _ => exact h
theorem mkV_A {B : Base} {G : Gh} {agg : Bool} {cs : List AV} {u : Value} (h : VRel B G (mkV agg cs) u) (hl : cs.length = 1 ∨ agg = true) (ho : ∀ c ∈ cs, c.isT = false) : VRelA B G (mkV agg cs) u := by
  rw [VRel_A] at h
  · exact h
  · unfold mkV
    cases agg with
    | true => rfl
    | false =>
      match cs, hl with
      | [c], _ => exact ho c (.head _)
      | [], hl => simp at hl
      | _ :: _ :: _, hl => simp at hl
theorem VRelL_noT {B : Base} {G : Gh} : ∀ {cs : List AV} {vs : List Value}, VRelL B G cs vs → ∀ c ∈ cs, c.isT = false
  | [], _, _, c, hc => by cases hc
  | a :: cs, [], h, c, hc => h.elim
  | a :: cs, v :: vs, h, c, hc => by
    rcases List.mem_cons.1 hc with rfl | hc
    · cases c <;> first | rfl | exact h.1.elim
    · exact VRelL_noT h.2 c hc
theorem getRes_sound {tb : Tb} {B : Base} {G : Gh} {e : Env} {h : Heap} {a : Act} {w : World} (hty : tyCheck B.P tb = true) (s : Sim B G h w) (he : EnvR B G e a) :
    ∀ (rs : List ResultVar) (vs : List AV) (h' : Heap), (getRes tb e rs).Has h vs h' → h' = h ∧ ∃ us, (rs.mapM (resF a.tmps)).run B.P w = .ok us w ∧ VRelAs B G vs us
  | [], vs, h', hg => by
    obtain ⟨rfl, rfl⟩ := hg
    exact ⟨rfl, [], by simp, trivial⟩
  | .tmp t :: rs, vs, h', hg => by
    simp only [getRes] at hg
    obtain ⟨vs1, h1, h2, h3⟩ := (DH.has_andThen _ _ _ _ _).1 hg
    obtain ⟨rfl, us, hr, hv⟩ := getRes_sound hty s he rs vs1 h1 h2
    obtain ⟨rfl, rfl⟩ := h3
    refine ⟨rfl, a.tmps.getD t undef :: us, ?_, untup_A (he.rel t), hv⟩
    rw [List.mapM_cons, Sem.run_bind]
    simp only [resF, Sem.run_pure, Result.andThen_ok, Sem.run_bind, hr]
  | .cell x t :: rs, vs, h', hg => by
    simp only [getRes] at hg
    obtain ⟨cs, h1, hl, h3⟩ := (DH.has_andThen _ _ _ _ _).1 hg
    obtain ⟨rfl, b, off, us0, hv, hc, hr⟩ := loadC_sound s ((he.rel x).S (VRelS.ptr_of_load hl)) hl
    cases hb : (Nat.beq cs.length (tyOf tb t).cells.length && Nat.ble 1 cs.length) with
    | false => rw [hb] at h3; exact h3.elim
    | true =>
      rw [hb, cond_true] at h3
      simp only [Bool.and_eq_true, beq_iff] at hb
      obtain ⟨vs1, h4, h5, h6⟩ := (DH.has_andThen _ _ _ _ _).1 h3
      obtain ⟨rfl, us, hr2, hv2⟩ := getRes_sound hty s he rs vs1 h4 h5
      obtain ⟨rfl, rfl⟩ := h6
      have hn : 1 ≤ (tyOf tb t).cells.length := by rw [← hb.1]; exact Nat.le_of_ble_eq_true hb.2
      have hu := TyOk.of hty (t := t) (by intro e1; rw [e1] at hn; simp at hn)
      obtain ⟨i, d, zz, hi, hd, hs, hbb, hz, hzc, hok⟩ := hu.out
      refine ⟨rfl, (if (tyOf tb t).agg then .agg us0.toArray else us0.headD undef) :: us, ?_, mkV_A (mkV_rel hr fun ha => by rw [hb.1, agg_one hok ha]) ?_ (VRelL_noT hr), hv2⟩
      · rw [List.mapM_cons, Sem.run_bind]
        have e1 : (resF a.tmps (.cell x t)).run B.P w = .ok (if (tyOf tb t).agg then .agg us0.toArray else us0.headD undef) w := by
          simp only [resF]
          rw [Sem.run_bind, hv]
          have e2 : (asAddr (.pointer (some ⟨b, off, none⟩))).run B.P w = .ok ⟨b, off, none⟩ w := rfl
          rw [e2, Result.andThen_ok, loadVar_run hu (by rw [← hr.length, hb.1]) hn hc]
        rw [e1]
        simp only [Result.andThen_ok, Sem.run_bind, hr2, Sem.run_pure]
      · cases ha : (tyOf tb t).agg with
        | true => exact .inr rfl
        | false => exact .inl (by rw [hb.1, agg_one hok ha])
theorem oneOrTup_rel {B : Base} {G : Gh} : ∀ {vs : List AV} {us : List Value}, VRelAs B G vs us → VRel B G (oneOrTup vs) (if h : us.toArray.size = 1 then us.toArray[0] else .tuple us.toArray)
  | [], us, h => by
    cases us with
    | nil => exact ⟨[], rfl, trivial⟩
    | cons u us => exact h.elim
  | [v], us, h => by
    match us, h with
    | [u], h =>
      simp only [oneOrTup, List.size_toArray, List.length_cons, List.length_nil, Nat.zero_add, dif_pos]
      have := h.1
      cases v with
      | tup cs => exact this.elim
      | _ => rw [VRel_A rfl]; exact this
    | [], h => exact h.elim
    | _ :: _ :: _, h => exact h.2.elim
  | v :: v2 :: vs, us, h => by
    match us, h with
    | u :: u2 :: us, h =>
      have : ¬ (u :: u2 :: us).toArray.size = 1 := by simp
      rw [dif_neg this]
      exact ⟨_, rfl, h⟩
    | [], h => exact h.elim
    | [_], h => exact h.2.elim
theorem results_run {P : Program} {fn : Func} {tmps : Array Value} {w : World} {us : List Value} (h : (fn.results.toList.mapM (resF tmps)).run P w = .ok us w) :
    (results fn tmps).run P w = .ok (if h : us.toArray.size = 1 then us.toArray[0] else .tuple us.toArray) w := by
  have e : results fn tmps = (do let vs ← fn.results.mapM (resF tmps); pure (if h : vs.size = 1 then vs[0] else .tuple vs)) := rfl
  rw [e, Sem.run_bind, Array.mapM_eq_mapM_toList, Sem.run_map, h]
  rfl
end Go.Abs

namespace Go.Abs
set_option linter.unusedSimpArgs false
set_option linter.unusedVariables false
open Go.RowKit

/-! ### functions -/
structure FnS (P : Program) (f : Nat) (fn : Func) : Prop where
  here : P.funcs[f]? = some fn
  enters : Enters P f
  body : ∀ b, fn.body = some b → dstOk fn.ntmps b = true ∧ allLoops (fun a => loopCode ((firstReg a).getD 0) b = some a) b ∧ allJoins (fun j a => joinCode j b = some a) b
def FsS (P : Program) (fs : Nat → Option Func) : Prop := ∀ f fn, fs f = some fn → FnS P f fn
/-- What is needed of a context, before the calls. -/
structure CtxB (P : Program) (c : Ctx) : Prop where
  mix : P.follows .mixedOrders = true
  ty : tyCheck P c.tb = true
  cons : ∀ f k, conOf c.cons f = some k → ConS P f k
  ptrs : ∀ f tab z, ptrOf c.ptrs f = some (tab, z) → PtrS P f tab z
theorem CtxB.dep {P : Program} {c : Ctx} (h : CtxB P c) (d : Nat) (i : Bool) : CtxB P { c with dep := d, inl := i } := ⟨h.mix, h.ty, h.cons, h.ptrs⟩
theorem CtxB.withInl {B : Base} {c : Ctx} {inl : Inl} (h : CtxB B.P c) (hi : InlS B inl) : CtxS B c inl := ⟨h.mix, h.ty, h.cons, h.ptrs, hi⟩

theorem args_get : ∀ (vs : List AV) (i t : Nat), getE (argsEnv i vs) t = if i ≤ t then vs.getD (t - i) .undef else .undef
  | [], i, t => by simp [argsEnv, getE]
  | v :: vs, i, t => by
    simp only [argsEnv, getE]
    by_cases h : i = t
    · subst h; simp
    · rw [beq_false h]
      simp only [cond_false]
      rw [args_get vs (i + 1) t]
      by_cases h2 : i ≤ t
      · rw [if_pos (by omega), if_pos h2, show t - i = (t - (i + 1)) + 1 by omega]; rfl
      · rw [if_neg (by omega), if_neg h2]
theorem VRelF.getD {B : Base} {G : Gh} : ∀ {vs : List AV} {us : List Value} (j : Nat) (rest : List Value), VRelF B G vs us → VRel B G (vs.getD j .undef) ((us ++ rest).getD j undef)
  | [], us, j, rest, h => by
    simp only [List.getD_nil]; trivial
  | v :: vs, [], j, rest, h => h.elim
  | v :: vs, u :: us, 0, rest, h => h.1
  | v :: vs, u :: us, j + 1, rest, h => VRelF.getD (vs := vs) (us := us) j rest h.2
theorem args_env {B : Base} {G : Gh} {vs : List AV} {us : List Value} (h : VRelF B G vs us) (n : Nat) (d : List Deferred) : EnvR B G (argsEnv 0 vs) { tmps := us.toArray ++ Array.replicate n undef, defers := d } := by
  refine ⟨fun t => ?_⟩
  rw [args_get, if_pos (Nat.zero_le t), Nat.sub_zero]
  have := h.getD t (List.replicate n undef)
  have e : (us.toArray ++ Array.replicate n undef).getD t undef = (us ++ List.replicate n undef).getD t undef := by
    rw [Array.getD_eq_getD_getElem?, List.getD_eq_getElem?_getD]
    congr 1
    rw [← Array.getElem?_toList]
    simp
  simp only
  rw [e]; exact this

section
variable {B : Base} {fs : Nat → Option Func} {c : Nat → Ctx}
theorem inl_soundP {P : Program} (hfs : FsS P fs) (hc : ∀ f, CtxB P (c f)) (hi : ∀ f, (c f).inl = true) (hl : ∀ f fn b d, d < 6 → fs f = some fn → fn.body = some b → LoopsS { c f with dep := d } (inlRun fs c d) b) : ∀ d, d ≤ 6 → ∀ B : Base, B.P = P → InlS B (inlRun fs c d)
  | 0, _, B, hP => ⟨fun g vs s v s' h => h.elim, fun g vs s v s' h => h.elim⟩
  | d + 1, hd, B, hP => by
    have ih := inl_soundP hfs hc hi hl d (by omega)
    subst hP
    have split_ : ∀ {g : Nat} {vs : List AV} {s : St} {v : AV} {s' : St}, (inlRun fs c (d + 1) g vs s).Has (v, s') → ∃ fn b x s1 rs, fs g = some fn ∧ fn.body = some b ∧
        (codeRun { c g with dep := d } (inlRun fs c d) s.next b { s with env := argsEnv 0 vs }).Has (x, s1) ∧ (x = .normal ∨ x = .ret) ∧ (∃ h', (getRes (c g).tb s1.env fn.results.toList).Has s1.heap rs h') ∧ v = oneOrTup rs ∧ s' = { s1 with env := s.env } := by
      intro g vs s v s' h
      simp only [inlRun] at h
      split at h
      · exact h.elim
      · rename_i fn hfn
        split at h
        · exact h.elim
        · rename_i b hb
          obtain ⟨⟨x, s1⟩, h1, h2⟩ := (D.has_andThen _ _ _).1 h
          have fin : ((((getRes (c g).tb s1.env fn.results.toList).go s1.heap log0).andThen fun (rs, _, _) => .ret (oneOrTup rs, { s1 with env := s.env })) : D (AV × St)).Has (v, s') → ∃ rs, (∃ h', (getRes (c g).tb s1.env fn.results.toList).Has s1.heap rs h') ∧ v = oneOrTup rs ∧ s' = { s1 with env := s.env } := by
            intro h3
            obtain ⟨⟨rs, h4, l⟩, h5, h6⟩ := (D.has_andThen _ _ _).1 h3
            simp only [D.Has, Prod.mk.injEq] at h6
            exact ⟨rs, ⟨h4, DH.has_of_go _ _ _ _ _ _ h5⟩, h6.1.symm, h6.2.symm⟩
          cases x with
          | exit i => exact h2.elim
          | normal => obtain ⟨rs, h3⟩ := fin h2; exact ⟨fn, b, .normal, s1, rs, hfn, hb, h1, .inl rfl, h3⟩
          | ret => obtain ⟨rs, h3⟩ := fin h2; exact ⟨fn, b, .ret, s1, rs, hfn, hb, h1, .inr rfl, h3⟩
    refine ⟨fun g vs s v s' h => ?_, fun g vs s v s' h G w us hvs hsim hfree => ?_⟩
    · obtain ⟨fn, b, x, s1, rs, h1, h2, h3, h4, h5, rfl, rfl⟩ := split_ h
      exact ⟨rfl, (hfs g fn h1).enters⟩
    · obtain ⟨fn, b, x, s1, rs, h1, h2, h3, h4, ⟨h', h5⟩, rfl, rfl⟩ := split_ h
      have hf := hfs g fn h1
      have hbody := hf.body b h2
      refine calls_of_wp hf.here h2 ?_
      have hc' : ∀ B' : Base, B'.P = B.P → CtxS B' { c g with dep := d } (inlRun fs c d) := fun B' hP' => ⟨by rw [hP']; exact (hc g).mix, by rw [hP']; exact (hc g).ty, by rw [hP']; exact (hc g).cons, by rw [hP']; exact (hc g).ptrs, ih B' hP'⟩
      have hst : FrS B G (fun id => s.next ≤ id) { s with env := argsEnv 0 vs } { tmps := us.toArray ++ Array.replicate (fn.ntmps - us.toArray.size) undef, defers := [] } w (us.toArray ++ Array.replicate (fn.ntmps - us.toArray.size) undef).size :=
        ⟨hsim, args_env hvs _ _, rfl, rfl, hfree⟩
      refine wp_mono (code_sound hc' (hl g fn b d (by omega) h1 h2) b (dstOk_mono (nt := fn.ntmps) (by rw [Array.size_append, Array.size_replicate]; omega) b hbody.1) hbody.2.1 hbody.2.2 B rfl s.next { s with env := argsEnv 0 vs } _ w G hst (Nat.le_refl _) x s1 h3) fun e a' w' hfin => ?_
      obtain ⟨G', k1, k2, k3⟩ := hfin.st
      obtain ⟨_, us', hr, hv⟩ := getRes_sound (hc g).ty k1.sim k1.env _ _ _ h5
      have hres := results_run (fn := fn) hr
      have hinl : (c g).inl = true := hi g
      have hgoal : a'.defers = [] ∧ ∃ v, (results fn a'.tmps).run B.P w' = .ok v w' ∧ Ret (fun u w' => ∃ G', InlR B G s.next { s1 with env := s.env } (oneOrTup rs) u w' G') (.returned v) w' :=
        ⟨k1.defers, _, hres, G', k1.sim, oneOrTup_rel hv, k1.free, k2.same hinl, k3⟩
      rw [hfin.ex]
      rcases h4 with rfl | rfl
      · exact hgoal
      · exact hgoal
theorem inl_sound (hfs : FsS B.P fs) (hc : ∀ f, CtxB B.P (c f)) (hi : ∀ f, (c f).inl = true) (hl : ∀ f fn b d, d < 6 → fs f = some fn → fn.body = some b → LoopsS { c f with dep := d } (inlRun fs c d) b) (d : Nat) (hd : d ≤ 6) : InlS B (inlRun fs c d) := inl_soundP hfs hc hi hl d hd B rfl
end
end Go.Abs

namespace Go.Abs
set_option linter.unusedSimpArgs false
set_option linter.unusedVariables false
open Go.RowKit

/-! ### several cells as values -/
def TupW (F : Fz) (w : World) (own : Bool) : (cs : List CT) → Tup cs → List Value → List L → Prop
  | [], _, vs, ls => vs = [] ∧ ls = []
  | [c], x, vs, ls => ∃ v l, vs = [v] ∧ ls = [l] ∧ CellV F w own c x l v
  | c :: d :: cs, x, vs, ls => ∃ v l vs' ls', vs = v :: vs' ∧ ls = l :: ls' ∧ CellV F w own c x.1 l v ∧ TupW F w own (d :: cs) x.2 vs' ls'
theorem TupW.length {F : Fz} {w : World} {own : Bool} : ∀ {cs : List CT} {x : Tup cs} {vs : List Value} {ls : List L}, TupW F w own cs x vs ls → vs.length = cs.length
  | [], _, vs, ls, h => by rw [h.1]; rfl
  | [c], _, vs, ls, h => by obtain ⟨v, l, rfl, _⟩ := h; rfl
  | c :: d :: cs, x, vs, ls, h => by
    obtain ⟨v, l, vs', ls', rfl, rfl, _, h⟩ := h
    simp [TupW.length h]
theorem TupW.keep {F : Fz} {w w' : World} {own : Bool} : ∀ {cs : List CT} {x : Tup cs} {vs : List Value} {ls : List L}, TupW F w own cs x vs ls → (∀ b ∈ Ls.bl ls, w'.heap[b]? = w.heap[b]?) → TupW F w' own cs x vs ls
  | [], _, vs, ls, h, _ => h
  | [c], x, vs, ls, h, hb => by
    obtain ⟨v, l, rfl, rfl, h⟩ := h
    exact ⟨v, l, rfl, rfl, h.keep _ _ _ _ fun b hm => hb b (by simp [Ls.bl]; exact hm)⟩
  | c :: d :: cs, x, vs, ls, h, hb => by
    obtain ⟨v, l, vs', ls', rfl, rfl, h, ht⟩ := h
    exact ⟨v, l, vs', ls', rfl, rfl, h.keep _ _ _ _ fun b hm => hb b (by simp only [Ls.bl, List.mem_append]; exact .inl hm), TupW.keep ht fun b hm => hb b (by simp only [Ls.bl, List.mem_append]; exact .inr hm)⟩

theorem TupW.noVs {F F' : Fz} {w : World} {own : Bool} : ∀ {cs : List CT} {x : Tup cs} {vs : List Value} {ls : List L}, cs.all CT.noVs = true → TupW F w own cs x vs ls → TupW F' w own cs x vs ls
  | [], _, vs, ls, _, h => h
  | [c], x, vs, ls, hn, h => by
    obtain ⟨v, l, rfl, rfl, h⟩ := h
    exact ⟨v, l, rfl, rfl, CellV.noVs _ _ _ _ (by simpa using hn) h⟩
  | c :: d :: cs, x, vs, ls, hn, h => by
    obtain ⟨v, l, vs', ls', rfl, rfl, h, ht⟩ := h
    rw [List.all_cons, Bool.and_eq_true] at hn
    exact ⟨v, l, vs', ls', rfl, rfl, CellV.noVs _ _ _ _ hn.1 h, TupW.noVs hn.2 ht⟩
theorem TupW.mono {F F' : Fz} (hF : ∀ r x v, F r x v → F' r x v) {w : World} {own : Bool} : ∀ {cs : List CT} {x : Tup cs} {vs : List Value} {ls : List L}, TupW F w own cs x vs ls → TupW F' w own cs x vs ls
  | [], _, vs, ls, h => h
  | [c], x, vs, ls, h => by
    obtain ⟨v, l, rfl, rfl, h⟩ := h
    exact ⟨v, l, rfl, rfl, CellV.mono hF _ _ _ _ h⟩
  | c :: d :: cs, x, vs, ls, h => by
    obtain ⟨v, l, vs', ls', rfl, rfl, h, ht⟩ := h
    exact ⟨v, l, vs', ls', rfl, rfl, CellV.mono hF _ _ _ _ h, TupW.mono hF ht⟩
theorem TupW.of0 {F : Fz} {w : World} {own : Bool} {cs : List CT} {x : Tup cs} {vs : List Value} {ls : List L} (h : TupW F0 w own cs x vs ls) : TupW F w own cs x vs ls := TupW.mono (fun _ _ _ h => h.elim) h

theorem inTup_e0 : inTup [] [] = DH.ret () := rfl
theorem inTup_e0s {v : Bool × AV} {vs : List (Bool × AV)} : inTup [] (v :: vs) = .fail := rfl
theorem inTup_e1n {c : CT} : inTup [c] [] = .fail := rfl
theorem inTup_e1 {c : CT} {m : Bool} {v : AV} : inTup [c] [(m, v)] = inCell m c v := rfl
theorem inTup_e12 {c : CT} {v u : Bool × AV} {vs : List (Bool × AV)} : inTup [c] (v :: u :: vs) = .fail := rfl
theorem inTup_e2n {c d : CT} {cs : List CT} : inTup (c :: d :: cs) [] = .fail := rfl
theorem inTup_e2 {c d : CT} {cs : List CT} {m : Bool} {v : AV} {vs : List (Bool × AV)} : inTup (c :: d :: cs) ((m, v) :: vs) = ((inCell m c v).andThen fun x => (inTup (d :: cs) vs).andThen fun y => .ret (x, y)) := rfl

theorem inTupP_e0 : inTupP [] [] = DH.ret () := rfl
theorem inTupP_e0s {v : AV} {vs : List AV} : inTupP [] (v :: vs) = .fail := rfl
theorem inTupP_e1n {c : CT} : inTupP [c] [] = .fail := rfl
theorem inTupP_e1 {c : CT} {v : AV} : inTupP [c] [v] = mvCellP c v := rfl
theorem inTupP_e12 {c : CT} {v u : AV} {vs : List AV} : inTupP [c] (v :: u :: vs) = .fail := rfl
theorem inTupP_e2n {c d : CT} {cs : List CT} : inTupP (c :: d :: cs) [] = .fail := rfl
theorem inTupP_e2 {c d : CT} {cs : List CT} {v : AV} {vs : List AV} : inTupP (c :: d :: cs) (v :: vs) = ((mvCellP c v).andThen fun x => (inTupP (d :: cs) vs).andThen fun y => .ret (x, y)) := rfl

theorem seen_lt {B : Base} {G : Gh} {h : Heap} {w : World} (s : Sim B G h w) {ids : List Nat} {b : Nat} (hs : Seen B G h ids b) : b < w.heap.size := by
  rcases hs with hs | ⟨id, o, go, _, h1, h2, h3, h4⟩
  · exact Nat.lt_of_lt_of_le hs.1 s.size
  · exact (s.mine id o go h1 h2 h3 b h4).1
theorem inTup_read {B : Base} {G : Gh} {h : Heap} {w : World} (s : Sim B G h w) : ∀ (cs : List CT) (as : List AV) (vs : List Value) (x : Tup cs) (h' : Heap), VRelL B G as vs → (inTup cs (as.map fun x => (false, x))).Has h x h' →
    h' = h ∧ ∃ ls, TupW B.fz w false cs x vs ls ∧ ∀ b ∈ Ls.bl ls, b < w.heap.size
  | [], as, vs, x, h', hv, hr => by
    match as, hv, hr with
    | [], hv, hr =>
      rw [List.map_nil, inTup_e0] at hr
      have := hv.nil
      subst this
      exact ⟨hr.2.symm, [], ⟨rfl, rfl⟩, fun b hb => by cases hb⟩
    | _ :: _, hv, hr => rw [List.map_cons, inTup_e0s] at hr; exact hr.elim
  | [c], as, vs, x, h', hv, hr => by
    match as, hv, hr with
    | [], hv, hr => rw [List.map_nil, inTup_e1n] at hr; exact hr.elim
    | [a], hv, hr =>
      obtain ⟨v, rfl, hv1⟩ := hv.one
      have hr : (rdCell c a).Has h x h' := hr
      obtain ⟨rfl, l, h1, h2⟩ := rdCell_sound s hv1 hr
      refine ⟨rfl, [l], ⟨v, l, rfl, rfl, h1⟩, fun b hb => ?_⟩
      simp only [Ls.bl, List.append_nil] at hb
      exact seen_lt s (h2 b hb)
    | _ :: _ :: _, hv, hr => rw [List.map_cons, List.map_cons, inTup_e12] at hr; exact hr.elim
  | c :: d :: cs, as, vs, x, h', hv, hr => by
    match as, hv, hr with
    | [], hv, hr => rw [List.map_nil, inTup_e2n] at hr; exact hr.elim
    | a :: as, hv, hr =>
      obtain ⟨v, vs', rfl, hv1, hv2⟩ := hv.cons
      rw [List.map_cons, inTup_e2] at hr
      obtain ⟨y, h1, hr1, hr2⟩ := (DH.has_andThen _ _ _ _ _).1 hr
      obtain ⟨z, h2, hr3, hr4⟩ := (DH.has_andThen _ _ _ _ _).1 hr2
      have hr1 : (rdCell c a).Has h y h1 := hr1
      obtain ⟨rfl, l, k1, k2⟩ := rdCell_sound s hv1 hr1
      obtain ⟨rfl, ls, k3, k4⟩ := inTup_read s (d :: cs) as vs' z h2 hv2 hr3
      obtain ⟨rfl, rfl⟩ := hr4
      refine ⟨rfl, l :: ls, ⟨v, l, vs', ls, rfl, rfl, k1, k3⟩, fun b hb => ?_⟩
      simp only [Ls.bl, List.mem_append] at hb
      rcases hb with hb | hb
      · exact seen_lt s (k2 b hb)
      · exact k4 b hb
/-! ### a column of a row of an object leaves it -/
def Obj.isPart : Obj → Bool
  | .part .. => true
  | _ => false
/-- What is left of a heap: objects as they were, or parts of them. -/
def HSub (h' h : Heap) : Prop := ∀ i o, getO h' i = some o → ∃ o0, getO h i = some o0 ∧ (o = o0 ∨ (o.isPart = true ∧ ownd o0 = true ∧ ∀ go b, b ∈ obl o go → b ∈ obl o0 go))
theorem HSub.refl (h : Heap) : HSub h h := fun i o ho => ⟨o, ho, .inl rfl⟩
theorem HSub.of {h' h : Heap} (x : ∀ i o, getO h' i = some o → getO h i = some o) : HSub h' h := fun i o ho => ⟨o, x i o ho, .inl rfl⟩
theorem ownd_part {o : Obj} (h : o.isPart = true) : ownd o = true := by cases o <;> first | rfl | cases h
theorem HSub.trans {h1 h2 h3 : Heap} (x : HSub h2 h1) (y : HSub h3 h2) : HSub h3 h1 := by
  intro i o ho
  obtain ⟨o2, e2, k2⟩ := y i o ho
  obtain ⟨o1, e1, k1⟩ := x i o2 e2
  refine ⟨o1, e1, ?_⟩
  rcases k2 with rfl | ⟨a1, a2, a3⟩
  · exact k1
  · rcases k1 with rfl | ⟨b1, b2, b3⟩
    · exact .inr ⟨a1, a2, a3⟩
    · exact .inr ⟨a1, b2, fun go b hb => b3 go b (a3 go b hb)⟩
theorem HSub.obj {h' h : Heap} (x : HSub h' h) {i : Nat} {o : Obj} (ho : getO h' i = some o) : ∃ o0, getO h i = some o0 ∧ ownd o0 = ownd o ∧ ∀ go b, b ∈ obl o go → b ∈ obl o0 go := by
  obtain ⟨o0, e, k⟩ := x i o ho
  refine ⟨o0, e, ?_⟩
  rcases k with rfl | ⟨a1, a2, a3⟩
  · exact ⟨rfl, fun _ _ h => h⟩
  · exact ⟨by rw [a2, ownd_part a1], a3⟩
theorem HSub.whole {h' h : Heap} (x : HSub h' h) {i : Nat} {o : Obj} (ho : getO h' i = some o) (hp : o.isPart = false) : getO h i = some o := by
  obtain ⟨o0, e, k⟩ := x i o ho
  rcases k with rfl | ⟨a1, _⟩
  · exact e
  · rw [hp] at a1; cases a1

theorem RowK.more {F : Fz} {w : World} {cols cols' : List Nat} (hc : ∀ j, memN cols' j = false → memN cols j = false) : ∀ (r : RT) (d : r.den) (ls : List L) (j : Nat), RowK F w cols j r d ls → RowK F w cols' j r d ls
  | .one c, d, ls, j, h => by obtain ⟨l, rfl, hv⟩ := h; exact ⟨l, rfl, fun hm => hv (hc j hm)⟩
  | .cons c r, d, ls, j, h => by obtain ⟨l, ls', rfl, hv, hr⟩ := h; exact ⟨l, ls', rfl, fun hm => hv (hc j hm), RowK.more hc r d.2 ls' (j + 1) hr⟩
theorem memN_cons {a : Nat} {l : List Nat} {x : Nat} : memN (a :: l) x = (Nat.beq a x || memN l x) := rfl
theorem Ls.blX_out {cols : List Nat} : ∀ (ls : List L) (j0 j : Nat) (b : Nat), j < j0 → (Ls.blX (j :: cols) j0 ls).count b = (Ls.blX cols j0 ls).count b
  | [], j0, j, b, h => rfl
  | l :: ls, j0, j, b, h => by
    simp only [Ls.blX, List.count_append, memN_cons, beq_false (show j ≠ j0 by omega), Bool.false_or]
    rw [Ls.blX_out ls (j0 + 1) j b (by omega)]
theorem Ls.blX_cut {cols : List Nat} : ∀ (ls : List L) (j0 j : Nat) (k : L) (b : Nat), ls[j]? = some k → memN cols (j0 + j) = false → k.bl.count b + (Ls.blX ((j0 + j) :: cols) j0 ls).count b = (Ls.blX cols j0 ls).count b
  | [], j0, j, k, b, h, _ => by simp at h
  | l :: ls, j0, 0, k, b, h, hm => by
    simp only [List.getElem?_cons_zero, Option.some.injEq] at h
    subst h
    simp only [Nat.add_zero] at hm ⊢
    simp only [Ls.blX, List.count_append, memN_cons, Nat.beq_refl, Bool.true_or, cond_true, hm, cond_false, List.count_nil]
    rw [Ls.blX_out ls (j0 + 1) j0 b (by omega)]
    omega
  | l :: ls, j0, j + 1, k, b, h, hm => by
    have e : j0 + (j + 1) = j0 + 1 + j := by omega
    rw [e] at hm ⊢
    have ih := Ls.blX_cut ls (j0 + 1) j k b (by simpa using h) hm
    simp only [Ls.blX, List.count_append, memN_cons, beq_false (show j0 + 1 + j ≠ j0 by omega), Bool.false_or]
    omega
theorem Lss.blP_row {cols : List Nat} {i : Int} (h0 : 0 ≤ i) : ∀ (kids : List (List L)) (i0 n : Nat) (ls : List L) (b : Nat), kids[n]? = some ls → ((i0 + n : Nat) : Int) = i → (Lss.blP cols i (i + 1) i0 kids).count b = (Ls.blX cols 0 ls).count b
  | [], i0, n, ls, b, h, _ => by simp at h
  | k :: kids, i0, 0, ls, b, h, e => by
    simp only [List.getElem?_cons_zero, Option.some.injEq] at h
    subst h
    simp only [Nat.add_zero] at e
    simp only [Lss.blP]
    rw [Lss.blP_out kids (i0 + 1) (by omega), decide_eq_true (show i ≤ (i0 : Int) by omega), decide_eq_true (show (i0 : Int) < i + 1 by omega)]
    simp
  | k :: kids, i0, n + 1, ls, b, h, e => by
    have ih := Lss.blP_row (cols := cols) h0 kids (i0 + 1) n ls b (by simpa using h) (by omega)
    simp only [Lss.blP, List.count_append]
    rw [ih]
    have : (decide (i ≤ (i0 : Int)) && decide ((i0 : Int) < i + 1)) = false := by
      simp only [Bool.and_eq_false_iff, decide_eq_false_iff_not]
      omega
    rw [this]
    simp
/-- An object out of which a column of a row goes. -/
theorem col_out {B : Base} {G : Gh} {h : Heap} {w : World} (s : Sim B G h w) {bs : List Nat} (hh : Held B G h w bs) {id : Nat} {o : Obj} (ho : getO h id = some o) (how : ownd o = true) {root : Bool} {cols : List Nat} {r : RT} {rows : List r.den} {lo hi : Int} {loc0 : Loc} {kids0 : List (List L)}
    (hg : G id = some (.row (.sl loc0 kids0))) (hp : PartR B.fz w root cols r rows lo hi loc0 kids0) (hbl : obl o (.row (.sl loc0 kids0)) = (bif root then loc0.bl else []) ++ Lss.blP cols lo hi 0 kids0)
    (hall : ∀ (cs : List Nat) (i : Int) (go : GO), lo ≤ i → i < hi → (∀ j, memN cs j = false → memN cols j = false) → ∀ b ∈ obl (.part false cs r rows i (i + 1)) go, b ∈ obl o go)
    {i : Int} {j : Nat} (hlo : lo ≤ i) (hhi : i < hi) (h0 : 0 ≤ i) (hm : memN cols j = false) {ls : List L} {k : L} (h1 : kids0[i.toNat]? = some ls) (h2 : ls[j]? = some k) {bk : List Nat} (hk : bk.Sublist k.bl) :
    Held B G (setO h id (.part false (j :: cols) r rows i (i + 1))) w (bs ++ bk) ∧ Sim B G (setO h id (.part false (j :: cols) r rows i (i + 1))) w ∧ HSub (setO h id (.part false (j :: cols) r rows i (i + 1))) h := by
  have hi' : i.toNat < rows.length := by rw [← hp.len]; exact (List.getElem?_eq_some_iff.1 h1).1
  have hcs : ∀ x, memN (j :: cols) x = false → memN cols x = false := fun x hx => by
    rw [memN_cons] at hx
    simp only [Bool.or_eq_false_iff] at hx
    exact hx.2
  have hnd := List.nodup_iff_count.1 (s.nodup id o _ ho how hg)
  have hmine := s.mine id o _ ho how hg
  rw [hbl] at hmine
  have c1 : ∀ b, k.bl.count b + (Lss.blP (j :: cols) i (i + 1) 0 kids0).count b ≤ (Lss.blP cols lo hi 0 kids0).count b := by
    intro b
    rw [Lss.blP_row h0 kids0 0 i.toNat ls b h1 (by omega)]
    have a1 := Ls.blX_cut (cols := cols) ls 0 j k b h2 (by rw [Nat.zero_add]; exact hm)
    rw [Nat.zero_add] at a1
    have a2 := List.Sublist.count_le b (Lss.blP_get (cols := cols) (lo := lo) (hi := hi) kids0 0 i.toNat ls h1 (by omega) (by omega))
    omega
  have hin : ∀ b, b ∈ k.bl → b ∈ (bif root then loc0.bl else []) ++ Lss.blP cols lo hi 0 kids0 := fun b hb => by
    have a1 := c1 b
    have a2 := count_pos hb
    exact List.mem_append_right _ (List.one_le_count_iff.1 (by omega))
  have hsub : ∀ b, b ∈ Lss.blP (j :: cols) i (i + 1) 0 kids0 → b ∈ obl o (.row (.sl loc0 kids0)) := fun b hb => by
    rw [hbl]
    have a1 := c1 b
    have a2 := count_pos hb
    exact List.mem_append_right _ (List.one_le_count_iff.1 (by omega))
  have hnew : obl (.part false (j :: cols) r rows i (i + 1)) (.row (.sl loc0 kids0)) = Lss.blP (j :: cols) i (i + 1) 0 kids0 := rfl
  have hsim : Sim B G (setO h id (.part false (j :: cols) r rows i (i + 1))) w := by
    refine s.upd (o' := .part false (j :: cols) r rows i (i + 1)) (go := .row (.sl loc0 kids0)) (go' := .row (.sl loc0 kids0)) (bs := []) (S := []) ho how hg Held.nil (Turn.refl w) (fun b hb => by cases hb) (fun _ _ => rfl) hg rfl ⟨loc0, kids0, hg, hp.len, fun e => (by cases e), fun n h1 h2 h3 => RowK.more hcs _ _ _ _ (hp.rows n h1 (by omega) (by omega))⟩ ?_ (fun b hb => .inl (hsub b (by rw [← hnew]; exact hb))) fun _ _ _ _ _ _ h => h
    rw [hnew, List.nodup_iff_count]
    intro b
    have a1 := hnd b
    rw [hbl, List.count_append] at a1
    have a2 := c1 b
    omega
  refine ⟨⟨?_, fun b hb => ?_, fun x ob go g1 g2 g3 b hb hmm => ?_⟩, hsim, fun x ob hx => ?_⟩
  · refine List.nodup_append.2 ⟨hh.nodup, ?_, fun a ha b hb e => ?_⟩
    · refine List.Nodup.sublist hk ?_
      rw [List.nodup_iff_count]
      intro b
      have a1 := hnd b
      rw [hbl, List.count_append] at a1
      have a2 := c1 b
      omega
    · subst e
      refine hh.apart id o _ ho how hg a ha ?_
      rw [hbl]; exact hin a (hk.subset hb)
  · rcases List.mem_append.1 hb with hb | hb
    · exact hh.mine b hb
    · exact hmine b (hin b (hk.subset hb))
  · rw [getO_setO] at g1
    by_cases e : id = x
    · subst e
      rw [if_pos rfl] at g1
      cases g1
      rw [hg] at g3
      cases g3
      rw [hnew] at hmm
      rcases List.mem_append.1 hb with hb | hb
      · exact hh.apart id o _ ho how hg b hb (hsub b hmm)
      · have a1 := hnd b
        rw [hbl, List.count_append] at a1
        have a2 := c1 b
        have a3 := count_pos (hk.subset hb)
        have a4 := count_pos hmm
        omega
    · rw [if_neg e] at g1
      rcases List.mem_append.1 hb with hb | hb
      · exact hh.apart x ob go g1 g2 g3 b hb hmm
      · refine s.apart id x o ob _ go e ho g1 how g2 hg g3 b ?_ hmm
        rw [hbl]; exact hin b (hk.subset hb)
  · rw [getO_setO] at hx
    by_cases e : id = x
    · subst e
      rw [if_pos rfl] at hx
      cases hx
      exact ⟨o, ho, .inr ⟨rfl, how, fun go b hb => hall _ i go hlo hhi hcs b hb⟩⟩
    · rw [if_neg e] at hx; exact ⟨ob, hx, .inl rfl⟩
theorem Ls.blX_less {cols cols' : List Nat} (hc : ∀ j, memN cols' j = false → memN cols j = false) : ∀ (ls : List L) (j : Nat) (b : Nat), b ∈ Ls.blX cols' j ls → b ∈ Ls.blX cols j ls
  | [], j, b, h => h
  | l :: ls, j, b, h => by
    simp only [Ls.blX, List.mem_append] at h ⊢
    refine h.imp (fun h => ?_) (Ls.blX_less hc ls (j + 1) b)
    cases hm : memN cols' j with
    | true => rw [hm] at h; cases h
    | false => rw [hm] at h; rw [hc j hm]; exact h
theorem Lss.blP_less {cols cols' : List Nat} (hc : ∀ j, memN cols' j = false → memN cols j = false) {lo hi lo' hi' : Int} (h1 : lo ≤ lo') (h2 : hi' ≤ hi) : ∀ (ks : List (List L)) (i : Nat) (b : Nat), b ∈ Lss.blP cols' lo' hi' i ks → b ∈ Lss.blP cols lo hi i ks
  | [], i, b, h => h
  | k :: ks, i, b, h => by
    simp only [Lss.blP, List.mem_append] at h ⊢
    refine h.imp (fun h => ?_) (Lss.blP_less hc h1 h2 ks (i + 1) b)
    cases e : decide (lo' ≤ (i : Int)) && decide ((i : Int) < hi') with
    | false => rw [e] at h; cases h
    | true =>
      rw [e] at h
      simp only [Bool.and_eq_true, decide_eq_true_eq] at e
      rw [decide_eq_true (show lo ≤ (i : Int) by omega), decide_eq_true (show (i : Int) < hi by omega)]
      exact Ls.blX_less hc k 0 b h
theorem obl_row_part {cs : List Nat} {r : RT} {rows : List r.den} {a b : Int} {q : RT} {xs : List q.den} (go : GO) : ∀ x ∈ obl (.part false cs r rows a b) go, x ∈ obl (.row q xs) go := by
  intro x hx
  cases go with
  | box b => exact hx
  | row l =>
    cases l with
    | leaf => cases hx
    | sl loc kids =>
      show x ∈ loc.bl ++ Lss.bl kids
      exact List.mem_append_right _ ((Lss.blP_sub cs a b kids 0).subset hx)
/-- A cell that becomes part of a tree; a slice may leave an object's row, of which the other columns stay. -/
theorem mvCellP_sound {B : Base} {G : Gh} {h : Heap} {w : World} (s : Sim B G h w) {c : CT} {a : AV} {v : Value} (ha : VRelS B G a v) {bs : List Nat} (hh : Held B G h w bs) {d : c.den} {h' : Heap} (hr : (mvCellP c a).Has h d h') :
    ∃ l, CellV B.fz w true c d l v ∧ Held B G h' w (bs ++ l.bl) ∧ Sim B G h' w ∧ HSub h' h := by
  have plain : (mvCell c a).Has h d h' → ∃ l, CellV B.fz w true c d l v ∧ Held B G h' w (bs ++ l.bl) ∧ Sim B G h' w ∧ HSub h' h := by
    intro hr
    obtain ⟨l, h1, h2, h3, h4⟩ := mvCell_sound s ha hh hr
    exact ⟨l, h1, h2, h3, .of h4⟩
  unfold mvCellP at hr
  split at hr
  · rename_i r id i j vw
    obtain ⟨⟨q, x⟩, h1, hn, hr⟩ := (DH.has_andThen _ _ _ _ _).1 hr
    by_cases e : q.same r = true
    · simp only [dif_pos e] at hr
      rw [has_getD, has_markD] at hr
      obtain ⟨rfl, rfl⟩ := hr
      have nav : ∀ {loc : Loc} {n : Nat}, G.at id [(i, j)] = some (loc, n) → ∃ kids, kids.length = n ∧ CellV B.fz w true (.sl q) x (.sl loc kids) (loc.val n) ∧
          ∀ bk : List Nat, bk.Sublist (L.sl loc kids).bl → Held B G (wrO h1 id (markO false (j :: colsO (getO h1 id)) i (i + 1) (getO h1 id))) w (bs ++ bk) ∧ Sim B G (wrO h1 id (markO false (j :: colsO (getO h1 id)) i (i + 1) (getO h1 id))) w ∧ HSub (wrO h1 id (markO false (j :: colsO (getO h1 id)) i (i + 1) (getO h1 id))) h := by
        intro loc n hG
        obtain ⟨rfl, o, go, kids, ho, how, hg, hk, hc, hlen, _, l0, rfl, hsub⟩ := s.navQ hG hn
        refine ⟨kids, hk, hc, fun bk hbk => ?_⟩
        cases l0 with
        | leaf => simp [L.sub] at hsub
        | sl loc0 kids0 =>
          simp only [L.sub] at hsub
          cases e1 : kids0[i.toNat]? with
          | none => simp [e1] at hsub
          | some ls =>
            simp only [e1] at hsub
            cases e2 : ls[j]? with
            | none => simp [e2] at hsub
            | some k =>
              simp only [e2] at hsub
              by_cases e3 : 0 ≤ i
              · rw [if_pos e3] at hsub
                have hk2 : k = .sl loc kids := Option.some.inj hsub
                subst hk2
                obtain ⟨_, ⟨r0, rows0, ho2, hnav⟩ | ⟨root, cols, r0, rows0, lo, hi, i2, j2, p', ho2, hpe, hm, hlo, hhi, hnav⟩⟩ := navP_has hn
                · rw [ho] at ho2
                  cases ho2
                  rw [ho]
                  obtain ⟨l2, v2, hg2, hcell⟩ := s.obj id _ ho
                  rw [hg] at hg2
                  cases hg2
                  have hp := CellV.toPart hcell
                  have hlt : i.toNat < rows0.length := by rw [← hp.len]; exact (List.getElem?_eq_some_iff.1 e1).1
                  exact col_out s hh ho rfl hg hp (by rw [Lss.blP_all kids0 0 (by omega) (by rw [hp.len]; omega)]; rfl) (fun cs i go _ _ _ b hb => obl_row_part go b hb) e3 (by omega) e3 rfl e1 e2 hbk
                · rw [ho] at ho2
                  cases ho2
                  cases hpe
                  rw [ho]
                  obtain ⟨loc2, kids2, hg2, hp⟩ := s.obj id _ ho
                  rw [hg] at hg2
                  cases hg2
                  have e4 : (root && false) = false := by cases root <;> rfl
                  simp only [markO, e4, colsO, wrO]
                  refine col_out s hh ho rfl hg hp rfl (fun cs i go h1 h2 h3 b hb => ?_) hlo hhi e3 hm e1 e2 hbk
                  cases go with
                  | box x => exact hb
                  | row l =>
                    cases l with
                    | leaf => cases hb
                    | sl loc kids => exact List.mem_append_right _ (Lss.blP_less h3 h1 (by omega) kids 0 b hb)
              · rw [if_neg e3] at hsub; cases hsub
      cases vw with
      | none =>
        obtain ⟨loc, n, hG, rfl⟩ := ha
        obtain ⟨kids, hk, hc, hall⟩ := nav hG
        obtain ⟨k1, k2, k3⟩ := hall _ (List.Sublist.refl _)
        exact ⟨_, castL_rel e hc, k1, k2, k3⟩
      | some ol =>
        obtain ⟨o, n'⟩ := ol
        obtain ⟨loc, n, hG, hv⟩ := ha
        obtain ⟨kids, hk, hc, hall⟩ := nav hG
        subst hk
        obtain ⟨loc', hc', _, hlb⟩ := CellV.view (castL_rel e hc) hv
        obtain ⟨k1, k2, k3⟩ := hall _ (List.Sublist.append hlb (Lss.sublist ((List.take_sublist _ _).trans (List.drop_sublist _ _))))
        exact ⟨_, hc', k1, k2, k3⟩
    · simp only [dif_neg e] at hr; exact hr.elim
  · rename_i r id s0 t0 p vw
    obtain ⟨⟨q, x⟩, h1, hn, hr⟩ := (DH.has_andThen _ _ _ _ _).1 hr
    by_cases e : q.same r = true
    · simp only [dif_pos e] at hr
      rw [has_putD] at hr
      obtain ⟨rfl, rfl⟩ := hr
      cases vw with
      | none =>
        obtain ⟨loc, n, hG, rfl⟩ := ha
        obtain ⟨rfl, o, go, kids, ho, how, hg, hk, hc, hlen, hb⟩ := s.navP hG hn
        exact ⟨_, castL_rel e hc, hh.take s ho how hg hb, s.heap (del_sub h1 id), .of (del_sub h1 id)⟩
      | some ol =>
        obtain ⟨o, n'⟩ := ol
        obtain ⟨loc, n, hG, hv⟩ := ha
        obtain ⟨rfl, ob, go, kids, ho, how, hg, hk, hc, hlen, hb⟩ := s.navP hG hn
        subst hk
        obtain ⟨loc', hc', _, hlb⟩ := CellV.view (castL_rel e hc) hv
        exact ⟨_, hc', hh.take s ho how hg ((List.Sublist.append hlb (Lss.sublist ((List.take_sublist _ _).trans (List.drop_sublist _ _)))).trans hb), s.heap (del_sub h1 id), .of (del_sub h1 id)⟩
    · simp only [dif_neg e] at hr; exact hr.elim
  · exact plain hr
theorem inTup_move {B : Base} {G : Gh} {w : World} : ∀ (cs : List CT) (as : List AV) (vs : List Value) (h : Heap) (bs : List Nat) (x : Tup cs) (h' : Heap), Sim B G h w → VRelL B G as vs → Held B G h w bs → (inTupP cs as).Has h x h' →
    ∃ ls, TupW B.fz w true cs x vs ls ∧ Held B G h' w (bs ++ Ls.bl ls) ∧ Sim B G h' w ∧ HSub h' h
  | [], as, vs, h, bs, x, h', s, hv, hh, hr => by
    match as, hv, hr with
    | [], hv, hr =>
      rw [inTupP_e0] at hr
      have := hv.nil
      subst this
      obtain ⟨_, rfl⟩ := hr
      exact ⟨[], ⟨rfl, rfl⟩, by simpa [Ls.bl] using hh, s, .refl _⟩
    | _ :: _, hv, hr => rw [inTupP_e0s] at hr; exact hr.elim
  | [c], as, vs, h, bs, x, h', s, hv, hh, hr => by
    match as, hv, hr with
    | [], hv, hr => rw [inTupP_e1n] at hr; exact hr.elim
    | [a], hv, hr =>
      obtain ⟨v, rfl, hv1⟩ := hv.one
      have hr : (mvCellP c a).Has h x h' := hr
      obtain ⟨l, h1, h2, h3, h4⟩ := mvCellP_sound s hv1 hh hr
      exact ⟨[l], ⟨v, l, rfl, rfl, h1⟩, by simpa [Ls.bl] using h2, h3, h4⟩
    | _ :: _ :: _, hv, hr => rw [inTupP_e12] at hr; exact hr.elim
  | c :: d :: cs, as, vs, h, bs, x, h', s, hv, hh, hr => by
    match as, hv, hr with
    | [], hv, hr => rw [inTupP_e2n] at hr; exact hr.elim
    | a :: as, hv, hr =>
      obtain ⟨v, vs', rfl, hv1, hv2⟩ := hv.cons
      rw [inTupP_e2] at hr
      obtain ⟨y, h1, hr1, hr2⟩ := (DH.has_andThen _ _ _ _ _).1 hr
      obtain ⟨z, h2, hr3, hr4⟩ := (DH.has_andThen _ _ _ _ _).1 hr2
      have hr1 : (mvCellP c a).Has h y h1 := hr1
      obtain ⟨l, k1, k2, k3, k4⟩ := mvCellP_sound s hv1 hh hr1
      obtain ⟨ls, k5, k6, k7, k8⟩ := inTup_move (d :: cs) as vs' h1 (bs ++ l.bl) z h2 k3 hv2 k2 hr3
      obtain ⟨rfl, rfl⟩ := hr4
      exact ⟨l :: ls, ⟨v, l, vs', ls, rfl, rfl, k1, k5⟩, by simp only [Ls.bl]; rw [← List.append_assoc]; exact k6, k7, k4.trans k8⟩

/-! ### values made of cells -/
def PackV : List (Bool × List CT) → List Value → List Value → Prop
  | [], us, vs => us = [] ∧ vs = []
  | (a, cs) :: r, us, vs => ∃ u us' own rest, us = u :: us' ∧ vs = own ++ rest ∧ own.length = cs.length ∧ u = (if a then .agg own.toArray else own.headD undef) ∧ (a = false → own.length = 1) ∧ PackV r us' rest
/-- What a value with a shape is made of. -/
theorem shape_cells {B : Base} {G : Gh} {a : Bool} {n : Nat} {v : AV} {u : Value} (hs : shapeV a n v = true) (hv : VRel B G v u) : ∃ own, VRelL B G v.flat own ∧ own.length = n ∧ u = (if a then .agg own.toArray else own.headD undef) ∧ (a = false → own.length = 1) := by
  unfold shapeV at hs
  split at hs
  · rename_i xs
    simp only [Bool.and_eq_true, beq_iff] at hs
    obtain ⟨vs, rfl, hr⟩ := hv
    exact ⟨vs, hr, by rw [← hr.length]; exact hs.2, by rw [hs.1]; rfl, fun h => by rw [hs.1] at h; cases h⟩
  · rename_i hne
    simp only [Bool.and_eq_true, Bool.not_eq_true', beq_iff] at hs
    obtain ⟨h1, h2, h3⟩ := hs
    have hf : v.flat = [v] := by
      cases v <;> first | rfl | (exact absurd rfl (hne _))
    rw [VRel_S h3] at hv
    exact ⟨[u], by rw [hf]; exact ⟨hv, trivial⟩, by simpa using h2, by rw [h1]; rfl, fun _ => rfl⟩
theorem shape_mk {B : Base} {G : Gh} {a : Bool} {cs : List AV} {own : List Value} (hv : VRelL B G cs own) (h1 : a = false → own.length = 1) : VRel B G (mkV a cs) (if a then .agg own.toArray else own.headD undef) := by
  cases a with
  | true => exact ⟨own, rfl, hv⟩
  | false =>
    have := h1 rfl
    match own, this with
    | [u], _ =>
      match cs, hv with
      | [c], hv =>
        show VRel B G c u
        cases c with
        | agg xs => exact hv.1.elim
        | tup xs => exact hv.1.elim
        | func f xs => exact hv.1.elim
        | _ => exact hv.1
      | [], hv => exact hv.elim
      | _ :: _ :: _, hv => exact hv.2.elim
theorem shapes_cells {B : Base} {G : Gh} : ∀ {res : List (Bool × List CT)} {rs : List AV} {us : List Value}, shapesV res rs = true → VRelAs B G rs us → ∃ vs, VRelL B G (rs.flatMap AV.flat) vs ∧ PackV res us vs
  | [], [], us, _, hv => by
    cases us with
    | nil => exact ⟨[], trivial, rfl, rfl⟩
    | cons u us => exact hv.elim
  | [], _ :: _, us, hs, _ => by cases hs
  | _ :: _, [], us, hs, _ => by cases hs
  | (a, cs) :: res, v :: rs, us, hs, hv => by
    cases us with
    | nil => exact hv.elim
    | cons u us =>
      simp only [shapesV, Bool.and_eq_true] at hs
      have hvu : VRel B G v u := by
        have := hv.1
        cases v with
        | tup xs => exact this.elim
        | _ => rw [VRel_A rfl]; exact this
      obtain ⟨own, h1, h2, h3, h4⟩ := shape_cells hs.1 hvu
      obtain ⟨vs, h5, h6⟩ := shapes_cells hs.2 hv.2
      exact ⟨own ++ vs, by rw [List.flatMap_cons]; exact h1.append h5, u, us, own, vs, rfl, rfl, h2, h3, h4, h6⟩
end Go.Abs

namespace Go.Abs
set_option linter.unusedSimpArgs false
set_option linter.unusedVariables false
open Go.RowKit

/-! ### contracts whose parameters are read alone -/
structure OutB (w : World) (k : Con) (y : Tup k.outs) (u : Value) (w' : World) : Prop where
  out : ∃ us ovs ols, u = (if h : us.toArray.size = 1 then us.toArray[0] else .tuple us.toArray) ∧ PackV k.res us ovs ∧ TupW F0 w' true k.outs y ovs ols ∧ (Ls.bl ols).Nodup ∧ ∀ b ∈ Ls.bl ols, w.heap.size ≤ b ∧ b < w'.heap.size
  turn : Turn w w' []
structure ConB (P : Program) (f : Nat) (k : Con) : Prop where
  enters : Enters P f
  run : ∀ (w : World) (us cvs : List Value) (ls : List L) (x : Tup k.ins) (y : Tup k.outs), PackV (k.modes.map (·.2)) us cvs → TupW F0 w false k.ins x cvs ls → (∀ b ∈ Ls.bl ls, b < w.heap.size) → k.fn x = some y → Calls P f us.toArray w (Ret fun u w' => OutB w k y u w')

/-- All that a function's proofs need. -/
structure Base0 (P : Program) (fs : Nat → Option Func) (c : Nat → Ctx) : Prop where
  fsS : FsS P fs
  ctx : ∀ g, CtxB P (c g)
  loops : ∀ f fn b d, d < 6 → fs f = some fn → fn.body = some b → LoopsS { c f with dep := d, inl := true } (inlRun fs (fun g => { c g with inl := true }) d) b

theorem outs_B : ∀ (ms : Modes) (j : Nat) (bs os : List AV) (h : Heap) (ys : List AV) (h' : Heap), (ms.all fun m => m.1.isB) = true → (outsD ms j bs os).Has h ys h' → ys = [] ∧ h' = h
  | [], j, bs, os, h, ys, h', _, hr => ⟨hr.1.symm, hr.2.symm⟩
  | (m, a, cs) :: ms, j, bs, os, h, ys, h', hb, hr => by
    simp only [List.all_cons, Bool.and_eq_true] at hb
    simp only [outsD] at hr
    obtain ⟨r, h1, hr1, hr2⟩ := (DH.has_andThen _ _ _ _ _).1 hr
    obtain ⟨rfl, rfl⟩ := outs_B ms (j + 1) _ _ h r h1 hb.2 hr1
    cases m with
    | B => exact ⟨hr2.1.symm, hr2.2.symm⟩
    | _ => cases hb.1

def baseOf (P : Program) (w : World) (tok : Nat → Value) : Base := ⟨P, w, [], tok⟩
theorem base_sim {P : Program} {w : World} {tok : Nat → Value} : Sim (baseOf P w tok) (fun _ => none) [] w :=
  ⟨fun id o h => (by cases h), fun id o go h => (by cases h), fun id o go h => (by cases h), fun i j o o' go go' _ h => (by cases h), rfl, rfl, rfl, Nat.le_refl _, fun _ _ => rfl⟩

theorem loadC_heap {n : Nat} {a : AV} {h h' : Heap} {cs : List AV} (hl : (loadC n a).Has h cs h') : h' = h := by
  cases a with
  | ptr id off =>
    simp only [loadC] at hl
    rw [has_getD] at hl
    split at hl
    · rename_i xs _
      cases hb : Nat.ble (off + n) xs.length with
      | false => rw [hb] at hl; exact hl.elim
      | true => rw [hb] at hl; exact hl.2.symm
    · rename_i xs _
      cases hb : Nat.ble (off + n) xs.length with
      | false => rw [hb] at hl; exact hl.elim
      | true => rw [hb] at hl; exact hl.2.symm
    · exact hl.elim
  | eptr id p i c =>
    simp only [loadC] at hl
    obtain ⟨y, h1, h2, h3⟩ := (DH.has_andThen _ _ _ _ _).1 hl
    obtain ⟨rfl, _⟩ := navD_has h2
    exact h3.2.symm
  | bptr r row c => exact hl.2.symm
  | _ => exact hl.elim
theorem body_sound {P : Program} {fs : Nat → Option Func} {c : Nat → Ctx} (hb : Base0 P fs c) {d f : Nat} (hd : d ≤ 6) (hl : ∀ fn b, fs f = some fn → fn.body = some b → LoopsS { c f with dep := d } (inlRun fs (fun g => { c g with inl := true }) d) b) {k : Con} (hB : k.allB = true)
    {bs os avs : List AV} {y : Tup k.outs} (hr : bodyRun fs c d f k bs os avs [] = some y) {w : World} {us : List Value} {tok : Nat → Value} (hv : VRelF (baseOf P w tok) (fun _ => none) avs us) :
    Calls P f us.toArray w (Ret fun u w' => OutB w k y u w') := by
  unfold bodyRun at hr
  split at hr
  · cases hr
  · rename_i fn hfn
    split at hr
    · cases hr
    · rename_i b hbd
      have hf := hb.fsS f fn hfn
      have hbody := hf.body b hbd
      obtain ⟨⟨x, s1⟩, h1, h2⟩ := (D.has_andThen _ _ _).1 (D.has_of_run _ _ hr)
      have fin : ((((getRes (c f).tb s1.env fn.results.toList).andThen fun rs => (outsD k.modes 0 bs os).andThen fun ys =>
            bif shapesV k.res rs && k.outs.all CT.noVs then inTupP k.outs (rs.flatMap AV.flat ++ ys) else .fail).go s1.heap log0).andThen fun (y, _, _) => .ret y : D (Tup k.outs)).Has y →
          ∃ rs, (getRes (c f).tb s1.env fn.results.toList).Has s1.heap rs s1.heap ∧ (shapesV k.res rs && k.outs.all CT.noVs) = true ∧ ∃ h', (inTupP k.outs (rs.flatMap AV.flat)).Has s1.heap y h' := by
        intro h3
        obtain ⟨⟨y', h4, l⟩, h5, h6⟩ := (D.has_andThen _ _ _).1 h3
        have h6 : y' = y := h6
        subst h6
        have h7 := DH.has_of_go _ _ _ _ _ _ h5
        obtain ⟨rs, g1, g2, g3⟩ := (DH.has_andThen _ _ _ _ _).1 h7
        obtain ⟨ys, g4', g5, g6⟩ := (DH.has_andThen _ _ _ _ _).1 g3
        obtain ⟨rfl, rfl⟩ := outs_B _ _ _ _ _ _ _ hB g5
        have g0 : g4' = s1.heap := by
          have : ∀ (rs : List ResultVar) (vs : List AV) (h h' : Heap), (getRes (c f).tb s1.env rs).Has h vs h' → h' = h := by
            intro rs
            induction rs with
            | nil => intro vs h h' hg; exact hg.2.symm
            | cons r rs ih =>
              intro vs h h' hg
              cases r with
              | tmp t =>
                simp only [getRes] at hg
                obtain ⟨vs1, k1, k2, k3⟩ := (DH.has_andThen _ _ _ _ _).1 hg
                have := ih vs1 h k1 k2
                subst this
                exact k3.2.symm
              | cell a t =>
                simp only [getRes] at hg
                obtain ⟨cs, k1, k2, k3⟩ := (DH.has_andThen _ _ _ _ _).1 hg
                have e1 : k1 = h := loadC_heap k2
                subst e1
                cases hbb : (Nat.beq cs.length (tyOf (c f).tb t).cells.length && Nat.ble 1 cs.length) with
                | false => rw [hbb] at k3; exact k3.elim
                | true =>
                  rw [hbb, cond_true] at k3
                  obtain ⟨vs1, k4, k5, k6⟩ := (DH.has_andThen _ _ _ _ _).1 k3
                  have := ih vs1 k1 k4 k5
                  subst this
                  exact k6.2.symm
          exact this _ _ _ _ g2
        subst g0
        cases hsh : (shapesV k.res rs && k.outs.all CT.noVs) with
        | false => rw [hsh] at g6; exact g6.elim
        | true =>
          rw [hsh, cond_true, List.append_nil] at g6
          exact ⟨rs, g2, hsh, _, g6⟩
      have hx : (x = .normal ∨ x = .ret) ∧ ∃ rs, (getRes (c f).tb s1.env fn.results.toList).Has s1.heap rs s1.heap ∧ (shapesV k.res rs && k.outs.all CT.noVs) = true ∧ ∃ h', (inTupP k.outs (rs.flatMap AV.flat)).Has s1.heap y h' := by
        cases x with
        | exit i => exact h2.elim
        | normal => exact ⟨.inl rfl, fin h2⟩
        | ret => exact ⟨.inr rfl, fin h2⟩
      obtain ⟨hx, rs, h3, h40, hh', h5⟩ := hx
      obtain ⟨h4, hno⟩ := (Bool.and_eq_true _ _).mp h40
      refine calls_of_wp hf.here hbd ?_
      have hinl := inl_soundP (fs := fs) (c := fun g => { c g with inl := true }) hb.fsS (fun g => (hb.ctx g).dep _ true) (fun g => rfl) (fun f fn b d hd h1 h2 => hb.loops f fn b d hd h1 h2) d hd
      have hc' : ∀ B' : Base, B'.P = P → CtxS B' { c f with dep := d } (inlRun fs (fun g => { c g with inl := true }) d) := fun B' hP' => ⟨by rw [hP']; exact (hb.ctx f).mix, by rw [hP']; exact (hb.ctx f).ty, by rw [hP']; exact (hb.ctx f).cons, by rw [hP']; exact (hb.ctx f).ptrs, hinl B' hP'⟩
      have hst : FrS (baseOf P w tok) (fun _ => none) (fun id => 1000 + k.ins.length ≤ id) ⟨argsEnv 0 avs, [], 1000 + k.ins.length⟩ { tmps := us.toArray ++ Array.replicate (fn.ntmps - us.toArray.size) undef, defers := [] } w (us.toArray ++ Array.replicate (fn.ntmps - us.toArray.size) undef).size :=
        ⟨base_sim, args_env hv _ _, rfl, rfl, fun _ _ => rfl⟩
      refine wp_mono (code_sound hc' (hl fn b hfn hbd) b (dstOk_mono (nt := fn.ntmps) (by rw [Array.size_append, Array.size_replicate]; omega) b hbody.1) hbody.2.1 hbody.2.2 (baseOf P w tok) rfl 1000 ⟨argsEnv 0 avs, [], 1000 + k.ins.length⟩ _ w (fun _ => none) hst (Nat.le_add_right _ _) x s1 h1) fun e a' w' hfin => ?_
      obtain ⟨G', k1, k2, k3⟩ := hfin.st
      obtain ⟨_, us', hr', hv'⟩ := getRes_sound (hb.ctx f).ty k1.sim k1.env _ _ _ h3
      have hres := results_run (fn := fn) hr'
      obtain ⟨ovs, hcell, hpack⟩ := shapes_cells h4 hv'
      obtain ⟨ols, ht, hheld, _, _⟩ := inTup_move k.outs _ ovs s1.heap [] y hh' k1.sim hcell .nil h5
      have hgoal : a'.defers = [] ∧ ∃ v, (results fn a'.tmps).run P w' = .ok v w' ∧ Ret (fun u w' => OutB w k y u w') (.returned v) w' := by
        refine ⟨k1.defers, _, hres, ⟨us', ovs, ols, rfl, hpack, ht.noVs hno, hheld.nodup, fun b hb => ?_⟩, ⟨k1.sim.os, k1.sim.tape, k1.sim.output, k1.sim.size, fun b hb _ => k1.sim.safe b ⟨hb, by simp [baseOf]⟩⟩⟩
        have := hheld.mine b (by simpa using hb)
        refine ⟨?_, this.1⟩
        rcases Nat.lt_or_ge b w.heap.size with h | h
        · exact absurd ⟨h, by simp [baseOf]⟩ this.2
        · exact h
      rw [hfin.ex]
      rcases hx with rfl | rfl
      · exact hgoal
      · exact hgoal

/-! ### the parameters -/
theorem borTup_1 (t : Nat) (c : CT) (x : Tup [c]) : borTup t [c] x = [borCell t c x] := rfl
theorem borTup_2 (t : Nat) (c d : CT) (cs : List CT) (x : Tup (c :: d :: cs)) : borTup t (c :: d :: cs) x = borCell t c x.1 :: borTup (t + 1) (d :: cs) x.2 := rfl
theorem bor_one {B : Base} {G : Gh} {c : CT} {x : c.den} {l : L} {v : Value} (h : CellV F0 B.w0 false c x l v) (hs : ∀ b ∈ l.bl, B.safe b) {t : Nat} (ht : B.tok t = v) (hlt : t < 1000) : VRelS B G (borCell t c x) v := by
  cases c with
  | int k => exact h.2
  | bool => exact h.2
  | str => exact h.2
  | nl q0 => exact h.2
  | vs q0 => exact h.2.1.elim
  | sl r => exact ⟨⟨l, h, hs⟩, fun i hi => by cases hi; exact ⟨ht.symm, fun hge => by omega⟩⟩
theorem bor_rel {B : Base} {G : Gh} : ∀ (cs : List CT) (x : Tup cs) (vs : List Value) (ls : List L) (t : Nat), TupW F0 B.w0 false cs x vs ls → (∀ b ∈ Ls.bl ls, B.safe b) → (∀ j v, vs[j]? = some v → B.tok (t + j) = v) → t + cs.length ≤ 1000 → VRelL B G (borTup t cs x) vs
  | [], x, vs, ls, t, h, _, _, _ => by rw [h.1]; trivial
  | [c], x, vs, ls, t, h, hs, ht, hl => by
    obtain ⟨v, l, rfl, rfl, h⟩ := h
    rw [borTup_1]
    exact ⟨bor_one h (fun b hb => hs b (by simpa [Ls.bl] using hb)) (ht 0 v (by simp)) (by simp at hl; omega), trivial⟩
  | c :: d :: cs, x, vs, ls, t, h, hs, ht, hl => by
    obtain ⟨v, l, vs', ls', rfl, rfl, h, hr⟩ := h
    rw [borTup_2]
    refine ⟨bor_one h (fun b hb => hs b (by simp only [Ls.bl, List.mem_append]; exact .inl hb)) (ht 0 v (by simp)) (by simp at hl; omega), bor_rel (d :: cs) x.2 vs' ls' (t + 1) hr (fun b hb => hs b (by simp only [Ls.bl, List.mem_append]; exact .inr hb)) (fun j u hu => ?_) (by simp at hl ⊢; omega)⟩
    rw [show t + 1 + j = t + (j + 1) by omega]
    exact ht (j + 1) u (by simpa using hu)
theorem entry_B {B : Base} {G : Gh} : ∀ (ms : Modes) (j : Nat) (bs os us : List AV) (oh uh : Heap) (vs cvs : List Value), (ms.all fun m => m.1.isB) = true → VRelL B G bs cvs → PackV (ms.map (·.2)) vs cvs →
    (entry ms j bs os us oh uh).2 = [] ∧ VRelF B G (entry ms j bs os us oh uh).1 vs
  | [], j, bs, os, us, oh, uh, vs, cvs, _, _, hp => by
    rw [hp.1]
    exact ⟨rfl, trivial⟩
  | (m, a, cs) :: ms, j, bs, os, us, oh, uh, vs, cvs, hb, hv, hp => by
    simp only [List.all_cons, Bool.and_eq_true] at hb
    obtain ⟨u, us', own, rest, rfl, rfl, h1, rfl, h2, h3⟩ := hp
    cases m with
    | B =>
      have hd := VRelL.drop cs.length hv
      have hr : (own ++ rest).drop cs.length = rest := by rw [← h1]; simp
      rw [hr] at hd
      have ih := entry_B ms (j + 1) (bs.drop cs.length) (os.drop cs.length) (us.drop cs.length) oh uh us' rest hb.2 hd h3
      have ht := VRelL.take cs.length hv
      have ht2 : (own ++ rest).take cs.length = own := by rw [← h1]; simp
      rw [ht2] at ht
      exact ⟨ih.1, shape_mk ht h2, ih.2⟩
    | _ => cases hb.1
theorem ConB.of {P : Program} {fs : Nat → Option Func} {c : Nat → Ctx} (hb : Base0 P fs c) {d f : Nat} (hd : d ≤ 6) {fn : Func} (hf : fs f = some fn) (hl : ∀ b, fn.body = some b → LoopsS { c f with dep := d } (inlRun fs (fun g => { c g with inl := true }) d) b) {k : Con} (hB : (k.allB && Nat.ble k.ins.length 1000) = true)
    (E : ∀ x, funRun fs c d f k x = k.fn x) : ConB P f k := by
  simp only [Bool.and_eq_true] at hB
  refine ⟨(hb.fsS f fn hf).enters, fun w us cvs ls x y hp ht hs hy => ?_⟩
  have hr := (E x).trans hy
  unfold funRun at hr
  simp only at hr
  have hbor := bor_rel (B := baseOf P w fun i => cvs.getD i undef) (G := fun _ => none) k.ins x cvs ls 0 ht (fun b hb => ⟨hs b hb, by simp [baseOf]⟩) (fun j v hv => by
    show cvs.getD (0 + j) undef = v
    rw [Nat.zero_add, List.getD_eq_getElem?_getD, hv]; rfl) (by rw [Nat.zero_add]; exact Nat.le_of_ble_eq_true hB.2)
  have hen := entry_B k.modes 0 _ (newTup 0 k.ins x).1 (newTup 1000 k.ins x).1 (newTup 0 k.ins x).2 (newTup 1000 k.ins x).2 us cvs hB.1 hbor hp
  rw [hen.1] at hr
  exact body_sound hb hd (fun fn' b h1 h2 => by rw [hf] at h1; cases h1; exact hl b h2) hB.1 hr hen.2
end Go.Abs

namespace Go.Abs
set_option linter.unusedSimpArgs false
set_option linter.unusedVariables false
open Go.RowKit

/-! ### what a call hands back becomes objects -/
theorem Held.add {B : Base} {G : Gh} {h : Heap} {w : World} {go : GO} {bs : List Nat} {o : Obj} (x : Held B G h w (obl o go ++ bs)) {id : Nat} (hn : G id = none) : Held B (G.set id go) (setO h id o) w bs := by
  have hd := List.nodup_append.1 x.nodup
  refine ⟨hd.2.1, fun b hb => x.mine b (List.mem_append_right _ hb), fun j o' go' h1 h2 h3 b hb hm => ?_⟩
  rw [getO_setO] at h1
  by_cases e : id = j
  · subst e
    rw [set_self] at h3
    cases h3
    rw [if_pos rfl] at h1
    cases h1
    exact hd.2.2 b hm b hb rfl
  · rw [if_neg e] at h1
    have : (G.set id go) j = G j := by unfold Gh.set; rw [if_neg e]
    rw [this] at h3
    exact x.apart j o' go' h1 h2 h3 b (List.mem_append_right _ hb) hm
theorem putNew_append (nh : Heap) : ∀ (a b : List Nat) {h h' : Heap} {u : Unit}, (backs.putNew nh (a ++ b)).Has h u h' → ∃ h1, (backs.putNew nh a).Has h () h1 ∧ (backs.putNew nh b).Has h1 u h'
  | [], b, h, h', u, hp => ⟨h, ⟨rfl, rfl⟩, hp⟩
  | i :: a, b, h, h', u, hp => by
    simp only [List.cons_append, backs.putNew] at hp ⊢
    cases ho : getO nh i with
    | none => rw [ho] at hp; exact putNew_append nh a b hp
    | some o =>
      rw [ho] at hp
      have hp : (backs.putNew nh (a ++ b)).Has (wrO h i (some o)) u h' := hp
      obtain ⟨h1, h2, h3⟩ := putNew_append nh a b hp
      exact ⟨h1, h2, h3⟩
structure Added (B : Base) (G G' : Gh) (h' : Heap) (w : World) (id n : Nat) : Prop where
  sim : Sim B G' h' w
  low : ∀ j, (j < id ∨ id + n ≤ j) → G' j = G j
  le : ∀ j go, G j = some go → G' j = some go
theorem addOne {B : Base} {G : Gh} {h : Heap} {w : World} (s : Sim B G h w) {id : Nat} {c : CT} {x : c.den} {l : L} {v : Value} {bs : List Nat} (hh : Held B G h w (l.bl ++ bs)) (hc : CellV B.fz w true c x l v) (hn : G id = none) {nh h' : Heap}
    (hnh : ∀ j o, getO (newCell id c x).2 j = some o → getO nh j = some o) (hp : (backs.putNew nh (newCell id c x).1.idsS).Has h () h') : ∃ G', Added B G G' h' w id 1 ∧ VRelS B G' (newCell id c x).1 v ∧ Held B G' h' w bs := by
  have plain : h' = h → VRelS B G (newCell id c x).1 v → ∃ G', Added B G G' h' w id 1 ∧ VRelS B G' (newCell id c x).1 v ∧ Held B G' h' w bs := by
    intro e hv
    subst e
    exact ⟨G, ⟨s, fun _ _ => rfl, fun _ _ h => h⟩, hv, hh.sub (List.sublist_append_right _ _)⟩
  cases c with
  | int k => exact plain hp.2.symm hc.2
  | bool => exact plain hp.2.symm hc.2
  | str => exact plain hp.2.symm hc.2
  | nl q0 => exact plain hp.2.symm hc.2
  | vs q0 => exact plain hp.2.symm ⟨hc.2.1, fun i e => by cases e⟩
  | sl r =>
    obtain ⟨loc, kids, rfl⟩ := hc.isSl
    have ho := hnh id (.row r x) (by simp [newCell, getO])
    have hp : h' = setO h id (.row r x) := by
      simp only [newCell, AV.idsS, backs.putNew, ho] at hp
      exact hp.2.symm
    subst hp
    have hadd := s.add (o := .row r x) (go := .row (.sl loc kids)) hn ⟨_, v, set_self .., hc⟩ rfl (hh.sub (List.sublist_append_left _ _))
    refine ⟨_, ⟨hadd, fun j hj => by unfold Gh.set; rw [if_neg (by omega)], fun j go hg => ?_⟩, ?_, Held.add (o := .row r x) hh hn⟩
    · unfold Gh.set
      by_cases e : id = j
      · subst e; rw [hn] at hg; cases hg
      · rw [if_neg e]; exact hg
    · obtain ⟨loc', kids', e1, hv, hk, _⟩ := hc
      cases e1
      refine ⟨loc, kids.length, ?_, by rw [hk]; exact hv⟩
      unfold Gh.at
      rw [set_self]
      rfl
theorem newTup_1 (id : Nat) (c : CT) (x : Tup [c]) : newTup id [c] x = ([(newCell id c x).1], (newCell id c x).2) := rfl
theorem newTup_2 (id : Nat) (c d : CT) (cs : List CT) (x : Tup (c :: d :: cs)) : newTup id (c :: d :: cs) x = ((newCell id c x.1).1 :: (newTup (id + 1) (d :: cs) x.2).1, (newCell id c x.1).2 ++ (newTup (id + 1) (d :: cs) x.2).2) := rfl
theorem newCell_key {id : Nat} {c : CT} {x : c.den} {j : Nat} {o : Obj} (h : getO (newCell id c x).2 j = some o) : j = id := by
  cases c with
  | sl r =>
    simp only [newCell, getO] at h
    by_cases e : id = j
    · exact e.symm
    · rw [beq_false e] at h; cases h
  | _ => cases h
theorem newTup_key : ∀ (cs : List CT) (id : Nat) (x : Tup cs) {j : Nat} {o : Obj}, getO (newTup id cs x).2 j = some o → id ≤ j
  | [], id, x, j, o, h => by cases h
  | [c], id, x, j, o, h => by rw [newTup_1] at h; rw [newCell_key h]; exact Nat.le_refl _
  | c :: d :: cs, id, x, j, o, h => by
    rw [newTup_2] at h
    simp only at h
    rw [getO_append] at h
    cases h1 : getO (newCell id c x.1).2 j with
    | some o1 => rw [newCell_key h1]; exact Nat.le_refl _
    | none => rw [h1] at h; simp only [Option.none_or] at h; exact Nat.le_trans (Nat.le_succ _) (newTup_key (d :: cs) (id + 1) x.2 h)
theorem addNew {B : Base} {w : World} : ∀ (cs : List CT) (id : Nat) (y : Tup cs) (vs : List Value) (ls : List L) (h : Heap) (G : Gh) (nh h' : Heap), Sim B G h w → Held B G h w (Ls.bl ls) → TupW B.fz w true cs y vs ls →
    (∀ j, id ≤ j → j < id + cs.length → G j = none) → (∀ j o, getO (newTup id cs y).2 j = some o → getO nh j = some o) → (backs.putNew nh ((newTup id cs y).1.flatMap AV.idsS)).Has h () h' →
    ∃ G', Added B G G' h' w id cs.length ∧ VRelL B G' (newTup id cs y).1 vs
  | [], id, y, vs, ls, h, G, nh, h', s, hh, ht, hf, hnh, hp => by
    have e : h' = h := hp.2.symm
    subst e
    rw [ht.1]
    exact ⟨G, ⟨s, fun _ _ => rfl, fun _ _ h => h⟩, trivial⟩
  | [c], id, y, vs, ls, h, G, nh, h', s, hh, ht, hf, hnh, hp => by
    obtain ⟨v, l, rfl, rfl, hc⟩ := ht
    rw [newTup_1] at hp hnh ⊢
    obtain ⟨G', h1, h2, _⟩ := addOne s (bs := []) hh hc (hf id (Nat.le_refl _) (by simp)) hnh (by simpa using hp)
    exact ⟨G', h1, h2, trivial⟩
  | c :: d :: cs, id, y, vs, ls, h, G, nh, h', s, hh, ht, hf, hnh, hp => by
    obtain ⟨v, l, vs', ls', rfl, rfl, hc, ht'⟩ := ht
    rw [newTup_2] at hp hnh ⊢
    simp only [List.flatMap_cons] at hp
    obtain ⟨h1, hp1, hp2⟩ := putNew_append nh _ _ hp
    obtain ⟨G1, a1, v1, held1⟩ := addOne s (bs := Ls.bl ls') hh hc (hf id (Nat.le_refl _) (by simp)) (fun j o hj => hnh j o (by simp only; rw [getO_append, hj]; rfl)) hp1
    obtain ⟨G2, a2, v2⟩ := addNew (d :: cs) (id + 1) y.2 vs' ls' h1 G1 nh h' a1.sim held1 ht' (fun j h2 h3 => by
        rw [a1.low j (by omega)]
        exact hf j (by omega) (by simp at h3 ⊢; omega)) (fun j o hj => hnh j o (by
        simp only
        rw [getO_append]
        have hk := newTup_key _ _ _ hj
        cases h4 : getO (newCell id c y.1).2 j with
        | some o1 => have := newCell_key h4; omega
        | none => simpa using hj)) hp2
    refine ⟨G2, ⟨a2.sim, fun j hj => ?_, fun j go hg => a2.le j go (a1.le j go hg)⟩, VRelS.mono (Gh.le_of_same a2.le) v1, v2⟩
    rw [a2.low j (by simp at hj ⊢; omega), a1.low j (by simp at hj; omega)]
theorem newCell_S (id : Nat) (c : CT) (x : c.den) : (newCell id c x).1.isS = true := by cases c <;> rfl
theorem newTup_S : ∀ (cs : List CT) (id : Nat) (x : Tup cs), ∀ a ∈ (newTup id cs x).1, a.isS = true
  | [], id, x, a, h => by cases h
  | [c], id, x, a, h => by
    rw [newTup_1] at h
    simp only [List.mem_singleton] at h
    subst h; exact newCell_S _ _ _
  | c :: d :: cs, id, x, a, h => by
    rw [newTup_2] at h
    rcases List.mem_cons.1 h with rfl | h
    · exact newCell_S _ _ _
    · exact newTup_S (d :: cs) (id + 1) x.2 a h
theorem newTup_length : ∀ (cs : List CT) (id : Nat) (x : Tup cs), (newTup id cs x).1.length = cs.length
  | [], id, x => rfl
  | [c], id, x => rfl
  | c :: d :: cs, id, x => by rw [newTup_2]; simp [newTup_length (d :: cs) (id + 1) x.2]
theorem ids_S {a : AV} (h : a.isS = true) : a.ids = a.idsS := by cases a <;> first | rfl | cases h

theorem pack_ids : ∀ (res : List (Bool × List CT)) (cells : List AV) (us vs : List Value), (∀ c ∈ cells, c.isS = true) → cells.length = vs.length → PackV res us vs → (packRes res cells).1.flatMap AV.ids = cells.flatMap AV.idsS
  | [], cells, us, vs, _, hl, hp => by
    rw [hp.2] at hl
    have : cells = [] := List.eq_nil_of_length_eq_zero hl
    subst this
    rfl
  | (a, cs) :: res, cells, us, vs, hS, hl, hp => by
    obtain ⟨u, us', own, rest, rfl, rfl, h1, h2, h3, h4⟩ := hp
    simp only [packRes, List.flatMap_cons]
    rw [pack_ids res (cells.drop cs.length) us' rest (fun c hc => hS c (List.mem_of_mem_drop hc)) (by simp at hl ⊢; omega) h4]
    have hx : (mkV a (cells.take cs.length)).ids = (cells.take cs.length).flatMap AV.idsS := by
      cases a with
      | true => rfl
      | false =>
        have h5 := h3 rfl
        have h6 : (cells.take cs.length).length = 1 := by simp at hl ⊢; omega
        match hc : cells.take cs.length, h6 with
        | [c], _ =>
          have : c ∈ cells := List.mem_of_mem_take (by rw [hc]; exact .head _)
          show c.ids = [c].flatMap AV.idsS
          rw [ids_S (hS c this)]
          simp
    rw [hx, ← List.flatMap_append, List.take_append_drop]
theorem pack_rel {B : Base} {G : Gh} : ∀ (res : List (Bool × List CT)) (cells : List AV) (us vs : List Value), VRelL B G cells vs → PackV res us vs → VRelAs B G (packRes res cells).1 us
  | [], cells, us, vs, hv, hp => by rw [hp.1]; exact trivial
  | (a, cs) :: res, cells, us, vs, hv, hp => by
    obtain ⟨u, us', own, rest, rfl, rfl, h1, rfl, h3, h4⟩ := hp
    have hd := VRelL.drop cs.length hv
    have hr : (own ++ rest).drop cs.length = rest := by rw [← h1]; simp
    rw [hr] at hd
    have ht := VRelL.take cs.length hv
    have ht2 : (own ++ rest).take cs.length = own := by rw [← h1]; simp
    rw [ht2] at ht
    refine ⟨mkV_A (shape_mk ht h3) ?_ (VRelL_noT ht), pack_rel res _ us' rest hd h4⟩
    cases a with
    | true => exact .inr rfl
    | false => exact .inl (by rw [ht.length]; exact h3 rfl)

/-! ### the arguments -/
theorem shapes_cellsF {B : Base} {G : Gh} : ∀ {res : List (Bool × List CT)} {rs : List AV} {us : List Value}, shapesV res rs = true → VRelF B G rs us → ∃ vs, VRelL B G (rs.flatMap AV.flat) vs ∧ PackV res us vs
  | [], [], us, _, hv => by
    cases us with
    | nil => exact ⟨[], trivial, rfl, rfl⟩
    | cons u us => exact hv.elim
  | [], _ :: _, us, hs, _ => by cases hs
  | _ :: _, [], us, hs, _ => by cases hs
  | (a, cs) :: res, v :: rs, us, hs, hv => by
    cases us with
    | nil => exact hv.elim
    | cons u us =>
      simp only [shapesV, Bool.and_eq_true] at hs
      obtain ⟨own, h1, h2, h3, h4⟩ := shape_cells hs.1 hv.1
      obtain ⟨vs, h5, h6⟩ := shapes_cellsF hs.2 hv.2
      exact ⟨own ++ vs, by rw [List.flatMap_cons]; exact h1.append h5, u, us, own, vs, rfl, rfl, h2, h3, h4, h6⟩
theorem argIds_B : ∀ (ms : Modes) (vs : List AV) (h : Heap) (r : List Nat × List Nat) (h' : Heap), (ms.all fun m => m.1.isB) = true → (argIds ms vs).Has h r h' → r.2 = [] ∧ h' = h
  | [], vs, h, r, h', _, hr => by
    have : argIds [] vs = .ret ([], []) := by cases vs <;> rfl
    rw [this] at hr
    obtain ⟨rfl, rfl⟩ := hr
    exact ⟨rfl, rfl⟩
  | (m, a, cs) :: ms, [], h, r, h', _, hr => by
    obtain ⟨rfl, rfl⟩ := hr
    exact ⟨rfl, rfl⟩
  | (m, a, cs) :: ms, v :: vs, h, r, h', hb, hr => by
    simp only [List.all_cons, Bool.and_eq_true] at hb
    simp only [argIds] at hr
    obtain ⟨q, h1, hr1, hr2⟩ := (DH.has_andThen _ _ _ _ _).1 hr
    obtain ⟨h2, rfl⟩ := argIds_B ms vs h q h1 hb.2 hr1
    cases m with
    | B =>
      obtain ⟨rfl, rfl⟩ := hr2
      exact ⟨h2, rfl⟩
    | _ => cases hb.1
theorem argCells_B : ∀ (ms : Modes) (vs : List AV) (h : Heap) (xs : List (Bool × AV)) (h' : Heap), (ms.all fun m => m.1.isB) = true → (argCells ms vs).Has h xs h' → h' = h ∧ shapesV (ms.map (·.2)) vs = true ∧ xs = (vs.flatMap AV.flat).map fun x => (false, x)
  | [], [], h, xs, h', _, hr => by
    obtain ⟨rfl, rfl⟩ := hr
    exact ⟨rfl, rfl, rfl⟩
  | [], _ :: _, h, xs, h', _, hr => hr.elim
  | _ :: _, [], h, xs, h', _, hr => hr.elim
  | (m, a, cs) :: ms, v :: vs, h, xs, h', hb, hr => by
    simp only [List.all_cons, Bool.and_eq_true] at hb
    simp only [argCells] at hr
    obtain ⟨q, h1, hr1, hr2⟩ := (DH.has_andThen _ _ _ _ _).1 hr
    obtain ⟨rfl, h2, rfl⟩ := argCells_B ms vs h q h1 hb.2 hr1
    cases m with
    | B =>
      simp only at hr2
      cases hs : shapeV a cs.length v with
      | false => rw [hs] at hr2; exact hr2.elim
      | true =>
        rw [hs, cond_true] at hr2
        obtain ⟨rfl, rfl⟩ := hr2
        exact ⟨rfl, by simp only [List.map_cons, shapesV, hs, h2, Bool.and_self], by simp⟩
    | _ => cases hb.1
theorem backs_B (nh : Heap) : ∀ (ms : Modes) (vs os : List AV) (h : Heap) (z : List Nat) (h' : Heap), (ms.all fun m => m.1.isB) = true → (backs nh ms vs os).Has h z h' → z = [] ∧ h' = h
  | [], [], [], h, z, h', _, hr => ⟨hr.1.symm, hr.2.symm⟩
  | [], [], _ :: _, h, z, h', _, hr => hr.elim
  | [], _ :: _, os, h, z, h', _, hr => by cases os <;> exact hr.elim
  | (m, a, cs) :: ms, [], os, h, z, h', _, hr => by cases os <;> exact hr.elim
  | (m, a, cs) :: ms, v :: vs, os, h, z, h', hb, hr => by
    simp only [List.all_cons, Bool.and_eq_true] at hb
    cases m with
    | B => exact backs_B nh ms vs os h z h' hb.2 hr
    | _ => cases hb.1

theorem callCon_not {nb : Nat} {k : Con} {vs : List AV} (h : (delK k).isNone = true) : callCon nb k vs = bif k.allB then callB nb k vs else callD nb k vs := by
  unfold callCon
  rw [Option.isNone_iff_eq_none.1 h]
theorem ConB.call {P : Program} {f : Nat} {k : Con} (hB0 : (k.allB && (delK k).isNone) = true) (hk : ConB P f k) : ConS P f k := by
  simp only [Bool.and_eq_true] at hB0
  have hB := hB0.1
  refine ⟨hk.enters, fun B G h w nb vs us av z h' hP s hv hf hr => ?_⟩
  rw [callCon_not hB0.2, hB, cond_true] at hr
  unfold callB at hr
  obtain ⟨ids, h1, r1, q1⟩ := (DH.has_andThen _ _ _ _ _).1 hr
  clear hr
  obtain ⟨_, rfl⟩ := argIds_B _ _ _ _ _ hB r1
  cases hc : (dup ids.2 || meets ids.1 ids.2 || Nat.blt 16 k.outs.length || !k.ins.all CT.noVs) with
  | true => simp only [hc, cond_true] at q1; exact q1.elim
  | false =>
    simp only [hc, cond_false] at q1
    simp only [Bool.or_eq_false_iff] at hc
    have hno : k.ins.all CT.noVs = true := by simpa using hc.2
    have hlen : k.outs.length ≤ 16 := by
      rcases Nat.lt_or_ge 16 k.outs.length with h | h
      · rw [(blt_iff _ _).2 h] at hc; cases hc.1.2
      · exact h
    obtain ⟨xs, h2, r2, q2⟩ := (DH.has_andThen _ _ _ _ _).1 q1
    obtain ⟨rfl, hsh, rfl⟩ := argCells_B _ _ _ _ _ hB r2
    obtain ⟨x, h3, r3, q3⟩ := (DH.has_andThen _ _ _ _ _).1 q2
    obtain ⟨y, hy, q4⟩ := q3
    obtain ⟨cvs, hcv, hpack⟩ := shapes_cellsF hsh hv
    obtain ⟨rfl, ls, ht, hls⟩ := inTup_read s k.ins _ cvs x h3 hcv r3
    obtain ⟨u0, h4, r4, q5⟩ := (DH.has_andThen _ _ _ _ _).1 q4
    obtain ⟨z0, h5, r5, q6⟩ := (DH.has_andThen _ _ _ _ _).1 q5
    obtain ⟨rfl, rfl⟩ := backs_B _ _ _ _ _ _ _ hB r5
    have hr : ((oneOrTup (packRes k.res (newTup nb k.outs y).1).1, ([] : List Pl)) : AV × List Pl) = (av, z) ∧ h5 = h' := q6
    obtain ⟨e1, rfl⟩ := hr
    cases e1
    refine (hk.run w us cvs ls x y hpack (ht.noVs hno) hls hy).mono fun e w' he => ?_
    cases e with
    | panicked ch => exact he.elim
    | outgrown => exact he.elim
    | returned u =>
      obtain ⟨⟨us', ovs, ols, rfl, hp, hto, hnd, hfresh⟩, hturn⟩ := he
      have s2 := s.grow hturn
      have hheld : Held B G h3 w' (Ls.bl ols) := ⟨hnd, fun b hb => ⟨(hfresh b hb).2, fun hsafe => by have := s.size; have := (hfresh b hb).1; have := hsafe.1; omega⟩, fun id o go ho hw hg b hb hm => by
        have := (s.mine id o go ho hw hg b hm).1
        have := (hfresh b hb).1
        omega⟩
      rw [pack_ids k.res _ us' ovs (newTup_S _ _ _) (by rw [newTup_length, hto.length]) hp] at r4
      obtain ⟨G', ha, hvl⟩ := addNew k.outs nb y ovs ols h3 G _ _ s2 hheld hto.of0 (fun j h1 h2 => hf j h1 (by omega)) (fun j o h => h) r4
      refine ⟨⟨G', ha.sim, oneOrTup_rel (pack_rel k.res _ us' ovs hvl hp), fun x u _ hx => hx.mono (Gh.le_of_same ha.le), fun id hid hne => ?_, fun _ => ha.le⟩⟩
      rw [ha.low id (by omega)]; exact hid
end Go.Abs

namespace Go.Abs
set_option linter.unusedSimpArgs false
set_option linter.unusedVariables false
open Go.RowKit

/-! ### what a row's arguments are -/
mutual
def WfC : (c : CT) → c.den → Prop
  | .int k, n => (Lit.int k n).wf = true
  | .bool, _ => True
  | .str, s => ByteArray.size s ≤ maxLen
  | .nl _, _ => True
  | .vs _, _ => False
  | .sl r, rows => List.length rows ≤ maxLen ∧ ∀ i, i < List.length rows → WfR r (List.getD rows i r.dflt)
def WfR : (r : RT) → r.den → Prop
  | .one c, d => WfC c d
  | .cons c r, d => WfC c d.1 ∧ WfR r d.2
end
def WfT : (cs : List CT) → Tup cs → Prop
  | [], _ => True
  | [c], x => WfC c x
  | c :: d :: cs, x => WfC c x.1 ∧ WfT (d :: cs) x.2

theorem row_of_tup {w : World} {own : Bool} : ∀ (cs : List CT) (q : RT) (x : Tup cs) (vs : List Value) (ls : List L), rtOf cs = some q → TupW F0 w own cs x vs ls → WfT cs x → ∃ d : q.den, RowC F0 w own q d ls vs ∧ WfR q d
  | [], q, x, vs, ls, h, _, _ => by cases h
  | [c], q, x, vs, ls, h, ht, hw => by
    simp only [rtOf, Option.some.injEq] at h
    subst h
    obtain ⟨v, l, rfl, rfl, hc⟩ := ht
    exact ⟨x, ⟨l, v, rfl, rfl, hc⟩, hw⟩
  | c :: d :: cs, q, x, vs, ls, h, ht, hw => by
    simp only [rtOf] at h
    obtain ⟨q', h1, rfl⟩ := Option.map_eq_some_iff.1 h
    obtain ⟨v, l, vs', ls', rfl, rfl, hc, ht'⟩ := ht
    obtain ⟨d', h2, h3⟩ := row_of_tup (d :: cs) q' x.2 vs' ls' h1 ht' hw.2
    exact ⟨(x.1, d'), ⟨l, ls', v, vs', rfl, rfl, hc, h2⟩, hw.1, h3⟩
theorem rt_size : ∀ (cs : List CT) (q : RT), rtOf cs = some q → q.size = cs.length
  | [], q, h => by cases h
  | [c], q, h => by simp only [rtOf, Option.some.injEq] at h; subst h; rfl
  | c :: d :: cs, q, h => by
    simp only [rtOf] at h
    obtain ⟨q', h1, rfl⟩ := Option.map_eq_some_iff.1 h
    simp only [RT.size, rt_size (d :: cs) q' h1, List.length_cons]
theorem tup_cons {w : World} {own : Bool} {c : CT} {cs : List CT} {x : c.den} {y : Tup cs} {v : Value} {l : L} {vs : List Value} {ls : List L} (h1 : CellV F0 w own c x l v) (h2 : WfC c x) (h3 : TupW F0 w own cs y vs ls) (h4 : WfT cs y) :
    ∃ z : Tup (c :: cs), TupW F0 w own (c :: cs) z (v :: vs) (l :: ls) ∧ WfT (c :: cs) z := by
  cases cs with
  | nil =>
    obtain ⟨rfl, rfl⟩ := h3
    exact ⟨x, ⟨v, l, rfl, rfl, h1⟩, h2⟩
  | cons d cs => exact ⟨(x, y), ⟨v, l, vs, ls, rfl, rfl, h1, h3⟩, h2, h4⟩
theorem tup_append {w : World} {own : Bool} : ∀ {cs ds : List CT} {x : Tup cs} {y : Tup ds} {vs us : List Value} {ls ks : List L}, TupW F0 w own cs x vs ls → WfT cs x → TupW F0 w own ds y us ks → WfT ds y →
    ∃ z : Tup (cs ++ ds), TupW F0 w own (cs ++ ds) z (vs ++ us) (ls ++ ks) ∧ WfT (cs ++ ds) z
  | [], ds, x, y, vs, us, ls, ks, h1, _, h3, h4 => by
    obtain ⟨rfl, rfl⟩ := h1
    exact ⟨y, h3, h4⟩
  | [c], ds, x, y, vs, us, ls, ks, h1, h2, h3, h4 => by
    obtain ⟨v, l, rfl, rfl, h1⟩ := h1
    exact tup_cons h1 h2 h3 h4
  | c :: d :: cs, ds, x, y, vs, us, ls, ks, h1, h2, h3, h4 => by
    obtain ⟨v, l, vs', ls', rfl, rfl, h5, h6⟩ := h1
    obtain ⟨z, h7, h8⟩ := tup_append h6 h2.2 h3 h4
    exact tup_cons h5 h2.1 h7 h8

/-! the table again: structs are their parts, one behind another -/
def sameCs : List CT → List CT → Bool
  | [], [] => true
  | c :: cs, d :: ds => c.same d && sameCs cs ds
  | _, _ => false
theorem sameCs_eq : ∀ {cs ds : List CT}, sameCs cs ds = true → cs = ds
  | [], [], _ => rfl
  | c :: cs, d :: ds, h => by
    simp only [sameCs, Bool.and_eq_true] at h
    rw [CT.eq_of_same h.1, sameCs_eq h.2]
  | [], _ :: _, h => by cases h
  | _ :: _, [], h => by cases h
def catOk (tb : Tb) : Nat → List (Nat × Nat) → List CT → Bool
  | _, [], [] => true
  | k, (off, t) :: ps, cs => Nat.beq off k && (sameCs (cs.take (tyOf tb t).cells.length) (tyOf tb t).cells && catOk tb (k + (tyOf tb t).cells.length) ps (cs.drop (tyOf tb t).cells.length))
  | _, _, _ => false
def CT.noNl : CT → Bool
  | .nl _ => false
  | _ => true
def catCheck (tb : Tb) : Bool := tb.all fun x => x.2.cells.all CT.noNl && (x.2.cells.isEmpty || !x.2.agg || catOk tb 0 x.2.fields x.2.cells)

section
variable {H : Type} {enc : TypeId × Value → H} {P : Program} {tb : Tb} {w : World} {base : Nat} {spare : Nat → Bool} {held : Bool}

theorem cellsOf_eq (hty : tyCheck P tb = true) {t : Nat} (hc : (tyOf tb t).cells ≠ []) : P.cellsOf t = (tyOf tb t).cells.length := by
  obtain ⟨i, d, z, hi, hd, hs, _⟩ := (TyOk.of hty hc).out
  unfold Program.cellsOf
  rw [hi]
  exact hs
/-- What a type's reader gives. -/
def Reads (w : World) (cs : List CT) (vs : List Value) : Prop := ∃ (x : Tup cs) (ls : List L), TupW F0 w false cs x vs ls ∧ WfT cs x ∧ ∀ b ∈ Ls.bl ls, b < w.heap.size
theorem Reads.append {cs ds : List CT} {vs us : List Value} (h1 : Reads w cs vs) (h2 : Reads w ds us) : Reads w (cs ++ ds) (vs ++ us) := by
  obtain ⟨x, ls, a1, a2, a3⟩ := h1
  obtain ⟨y, ks, b1, b2, b3⟩ := h2
  obtain ⟨z, c1, c2⟩ := tup_append a1 a2 b1 b2
  refine ⟨z, _, c1, c2, fun b hb => ?_⟩
  have : ∀ (l k : List L), Ls.bl (l ++ k) = Ls.bl l ++ Ls.bl k := by
    intro l k
    induction l with
    | nil => rfl
    | cons a l ih => simp only [List.cons_append, Ls.bl, ih, List.append_assoc]
  rw [this, List.mem_append] at hb
  rcases hb with hb | hb
  · exact a3 b hb
  · exact b3 b hb
theorem choose_rows {r : RT} {Pr : Nat → r.den → List L → Prop} : ∀ n : Nat, (∀ i, i < n → ∃ d k, Pr i d k) → ∃ (ds : List r.den) (ks : List (List L)), ds.length = n ∧ ks.length = n ∧ ∀ i, i < n → Pr i (ds.getD i r.dflt) (ks.getD i [])
  | 0, _ => ⟨[], [], rfl, rfl, fun i hi => by omega⟩
  | n + 1, h => by
    obtain ⟨ds, ks, h1, h2, h3⟩ := choose_rows n fun i hi => h i (by omega)
    obtain ⟨d, k, h4⟩ := h n (by omega)
    refine ⟨ds ++ [d], ks ++ [k], by simp [h1], by simp [h2], fun i hi => ?_⟩
    rcases Nat.lt_or_ge i n with hlt | hge
    · have := h3 i hlt
      have e1 : (ds ++ [d]).getD i r.dflt = ds.getD i r.dflt := by rw [List.getD_eq_getElem?_getD, List.getD_eq_getElem?_getD, List.getElem?_append_left (by omega)]
      have e2 : (ks ++ [k]).getD i [] = ks.getD i [] := by rw [List.getD_eq_getElem?_getD, List.getD_eq_getElem?_getD, List.getElem?_append_left (by omega)]
      rw [e1, e2]
      exact this
    · have e : i = n := by omega
      subst e
      have e1 : (ds ++ [d]).getD i r.dflt = d := by rw [List.getD_eq_getElem?_getD, List.getElem?_append_right (by omega), h1, Nat.sub_self]; rfl
      have e2 : (ks ++ [k]).getD i [] = k := by rw [List.getD_eq_getElem?_getD, List.getElem?_append_right (by omega), h2, Nat.sub_self]; rfl
      rw [e1, e2]
      exact h4
theorem spot_none {a : Addr} {v : Value} (h : w.cell? a = some v) : a.spot = none ∧ w.cell? ⟨a.block, a.off, none⟩ = some v ∧ a.block < w.heap.size := by
  unfold World.cell? at h
  split at h
  · rename_i c _ _ hb
    obtain ⟨b, o, sp⟩ := a
    cases sp with
    | none =>
      refine ⟨rfl, ?_, (Array.getElem?_eq_some_iff.1 hb).1⟩
      unfold World.cell?
      simp only at hb h ⊢
      rw [hb]
      exact h
    | some s => simp at h
  · cases h

theorem reads_fields (hty : tyCheck P tb = true) (hcat : catCheck tb = true) {n : Nat} (ih : ∀ (t : TypeId) (cs : List Value) (x : DataW H × List MemPlace), (tyOf tb t).cells ≠ [] → DataW.trod enc P w base spare held n t cs = some x → Reads w (tyOf tb t).cells cs)
    {cs : List Value} : ∀ (fs : List Field) (ps : List (Nat × Nat)) (k : Nat) (cts : List CT), sameKey fs ps = true → (ps.all fun p => !(tyOf tb p.2).cells.isEmpty) = true → catOk tb k ps cts = true → (cs.drop k).length = cts.length →
      (∀ (i : Nat) (f : Field), fs[i]? = some f → ∃ x, DataW.trod enc P w base spare held n f.type ((cs.drop f.offset).take (P.cellsOf f.type)) = some x) → Reads w cts (cs.drop k)
  | [], [], k, cts, _, _, hc, hl, _ => by
    cases cts with
    | nil => 
      have : cs.drop k = [] := List.eq_nil_of_length_eq_zero hl
      rw [this]
      exact ⟨(), [], ⟨rfl, rfl⟩, trivial, fun b hb => by cases hb⟩
    | cons c cts => cases hc
  | [], _ :: _, k, cts, h, _, _, _, _ => by cases h
  | _ :: _, [], k, cts, h, _, _, _, _ => by cases h
  | f :: fs, (o, t) :: ps, k, cts, hk, hne, hc, hl, hr => by
    simp only [sameKey, Bool.and_eq_true, beq_iff] at hk
    obtain ⟨h1, h2, h3⟩ := hk
    simp only [List.all_cons, Bool.and_eq_true] at hne
    simp only [catOk, Bool.and_eq_true, beq_iff] at hc
    obtain ⟨h4, h5, h6⟩ := hc
    have hcs := sameCs_eq h5
    have hne1 : (tyOf tb t).cells ≠ [] := by
      intro e
      rw [e] at hne
      simp at hne
    have hsz : P.cellsOf t = (tyOf tb t).cells.length := cellsOf_eq hty hne1
    subst h4
    obtain ⟨x, hx⟩ := hr 0 f (by simp)
    rw [h1, h2, hsz] at hx
    have r1 := ih t _ x hne1 hx
    have hlen : (tyOf tb t).cells.length ≤ cts.length := by
      rw [← hcs, List.length_take]
      exact Nat.min_le_right _ _
    have r2 := reads_fields hty hcat ih fs ps (o + (tyOf tb t).cells.length) (cts.drop (tyOf tb t).cells.length) h3 hne.2 h6 (by simp at hl ⊢; omega) (fun i f' hf' => hr (i + 1) f' (by simpa using hf'))
    have r3 := r1.append r2
    have e1 : (tyOf tb t).cells ++ cts.drop (tyOf tb t).cells.length = cts := by
      conv => lhs; arg 1; rw [← hcs]
      exact List.take_append_drop _ _
    have e2 : (cs.drop o).take (tyOf tb t).cells.length ++ cs.drop (o + (tyOf tb t).cells.length) = cs.drop o := by
      rw [← List.drop_drop]
      exact List.take_append_drop _ _
    rw [e1, e2] at r3
    exact r3

theorem reads_one {c : CT} {v : Value} {x : c.den} {l : L} (h : CellV F0 w false c x l v) (hw : WfC c x) (hb : ∀ b ∈ l.bl, b < w.heap.size) : Reads w [c] [v] :=
  ⟨x, [l], ⟨v, l, rfl, rfl, h⟩, hw, fun b hm => hb b (by simpa [Ls.bl] using hm)⟩

theorem reads_sound (hty : tyCheck P tb = true) (hcat : catCheck tb = true) : ∀ (n : Nat) (t : TypeId) (cs : List Value) (x : DataW H × List MemPlace), (tyOf tb t).cells ≠ [] → DataW.trod enc P w base spare held n t cs = some x → Reads w (tyOf tb t).cells cs
  | 0, t, cs, x, _, h => by simp [DataW.trod] at h
  | n + 1, t, cs, x, hne, h => by
    have ih := reads_sound hty hcat n
    obtain ⟨i, d, z, hi, hd, hs, hbb, hz, hzc, hok⟩ := (TyOk.of hty hne).out
    cases d with
    | bool =>
      simp only [descOk, Bool.and_eq_true] at hok
      obtain ⟨b, rfl, _⟩ := DataW.trod_bool hd h
      cases hc : (tyOf tb t).cells with
      | nil => exact absurd hc hne
      | cons c r =>
        rw [hc] at hok
        cases r with
        | nil =>
          cases c with
          | bool => exact reads_one (x := b) ⟨rfl, rfl⟩ trivial fun b hb => by cases hb
          | _ => cases hok.2
        | cons _ _ => cases c <;> cases hok.2
    | int k =>
      simp only [descOk, Bool.and_eq_true] at hok
      obtain ⟨m, rfl, _, hwf⟩ := DataW.trod_int hd h
      cases hc : (tyOf tb t).cells with
      | nil => exact absurd hc hne
      | cons c r =>
        rw [hc] at hok
        cases r with
        | nil =>
          cases c with
          | int k' =>
            have e := IntKind.eq_of_same hok.2
            subst e
            exact reads_one (c := .int k) (x := m) ⟨rfl, rfl⟩ hwf fun b hb => by cases hb
          | _ => cases hok.2
        | cons _ _ => cases c <;> cases hok.2
    | string =>
      simp only [descOk, Bool.and_eq_true] at hok
      obtain ⟨s, rfl, _, hsz⟩ := DataW.trod_string hd h
      cases hc : (tyOf tb t).cells with
      | nil => exact absurd hc hne
      | cons c r =>
        rw [hc] at hok
        cases r with
        | nil =>
          cases c with
          | str => exact reads_one (c := .str) (x := s) ⟨rfl, rfl⟩ hsz fun b hb => by cases hb
          | _ => cases hok.2
        | cons _ _ => cases c <;> cases hok.2
    | slice e =>
      simp only [descOk, Bool.and_eq_true, beq_iff] at hok
      obtain ⟨_, hel, hok⟩ := hok
      cases hc : (tyOf tb t).cells with
      | nil => exact absurd hc hne
      | cons c r =>
        rw [hc] at hok
        cases r with
        | cons _ _ => cases c <;> cases hok
        | nil =>
          cases c with
          | sl r =>
            simp only at hok
            cases hq : rtOf (tyOf tb e).cells with
            | none => rw [hq] at hok; cases hok
            | some q =>
              rw [hq] at hok
              have hqr := RT.eq_of_same hok
              subst hqr
              have hene : (tyOf tb e).cells ≠ [] := fun e1 => by rw [e1] at hq; cases hq
              have hcel : P.cellsOf e = q.size := by rw [cellsOf_eq hty hene, rt_size _ _ hq]
              rcases DataW.trod_slice hd h with ⟨rfl, _⟩ | ⟨a, len, cap, elems, rest, n', hn, rfl, _, hbase, hlc, hcm, hel2, hrows, _⟩
              · exact reads_one (c := .sl q) (x := ([] : List q.den)) (l := .sl .nil []) ⟨.nil, [], rfl, rfl, rfl, rfl, fun b off cap sz e => by cases e⟩ ⟨by simp [maxLen], fun i hi => by simp at hi⟩ fun b hb => by cases hb
              · cases hn
                have hrow : ∀ i, i < len → ∃ (d : q.den) (ls : List L), RowV F0 w false q d ls a.block (a.off + i * q.size) ∧ WfR q d ∧ (∀ b ∈ Ls.bl ls, b < w.heap.size) ∧ (i = 0 → a.spot = none) ∧ a.block < w.heap.size := by
                  intro i hi
                  have h1 := hrows i hi
                  rw [List.getElem?_eq_getElem (by omega)] at h1
                  obtain ⟨vs, h2, h3⟩ := Option.bind_eq_some_iff.1 h1
                  obtain ⟨y, ls, t1, t2, t3⟩ := ih e vs _ hene h3
                  obtain ⟨d, k1, k2⟩ := row_of_tup _ q y vs ls hq t1 t2
                  have hvl := RowC.length k1
                  obtain ⟨_, hcl, hcell⟩ := World.cells?_some h2
                  have hpos : 0 < q.size := RT.size_pos q
                  have hc0 : ∀ j v, vs[j]? = some v → w.cell? ((a.add (i * q.size)).add j) = some v := by
                    intro j v hv
                    have hj : j < P.cellsOf e := by
                      have := (List.getElem?_eq_some_iff.1 hv).1
                      rw [hvl] at this; rw [hcel]; exact this
                    have h4 := hcell j hj
                    rw [hv, hcel] at h4
                    exact h4
                  have hadd : ∀ j, ((a.add (i * q.size)).add j).block = a.block ∧ ((a.add (i * q.size)).add j).off = a.off + i * q.size + j := by
                    intro j
                    unfold Addr.add
                    split <;> split <;> simp_all
                  obtain ⟨v0, hv0⟩ : ∃ v, vs[0]? = some v := ⟨vs[0]'(by omega), List.getElem?_eq_getElem (by omega)⟩
                  have hsp := spot_none (hc0 0 v0 hv0)
                  refine ⟨d, ls, k1.mem fun j v hv => ?_, k2, t3, fun hi0 => ?_, by rw [← (hadd 0).1]; exact hsp.2.2⟩
                  · have := (spot_none (hc0 j v hv)).2.1
                    rw [(hadd j).1, (hadd j).2] at this
                    exact this
                  · subst hi0
                    have := hsp.1
                    simpa [Addr.add] using this
                obtain ⟨ds, ks, l1, l2, l3⟩ := choose_rows len hrow
                have hwf : WfC (.sl q) ds := by
                  exact ⟨by rw [l1]; omega, fun i hi => (l3 i (by rw [← l1]; exact hi)).2.1⟩
                cases len with
                | zero =>
                  have e0 : ds = [] := List.eq_nil_of_length_eq_zero l1
                  subst e0
                  exact reads_one (c := .sl q) (x := ([] : List q.den)) (l := .sl (.emp (some a) cap) []) ⟨.emp (some a) cap, [], rfl, rfl, rfl, ⟨rfl, fun h => (by cases h), fun h => (by cases h)⟩, fun b off cap sz e => by cases e⟩ hwf fun b hb => by cases hb
                | succ len =>
                  have h0 := l3 0 (Nat.succ_pos _)
                  have ha : (⟨a.block, a.off, none⟩ : Addr) = a := by
                    rw [← h0.2.2.2.1 rfl]
                  refine reads_one (c := .sl q) (x := ds) (l := .sl (.at a.block a.off cap q.size) ks) ⟨.at a.block a.off cap q.size, ks, rfl, ?_, by rw [l1, l2], ⟨rfl, by rw [l1]; exact hlc, fun h => by cases h⟩, fun b off cap' sz e i hi => ?_⟩ hwf fun b hb => ?_
                  · simp only [Loc.val, l1, ha]
                  · cases e
                    exact (l3 i (by omega)).1
                  · simp only [L.bl, Loc.bl, List.singleton_append, List.mem_cons] at hb
                    rcases hb with rfl | hb
                    · exact h0.2.2.2.2
                    · have : ∀ (ks : List (List L)) (b : Nat), b ∈ Lss.bl ks → ∃ i, i < ks.length ∧ b ∈ Ls.bl (ks.getD i []) := by
                        intro ks
                        induction ks with
                        | nil => intro b hb; cases hb
                        | cons k ks ih =>
                          intro b hb
                          simp only [Lss.bl, List.mem_append] at hb
                          rcases hb with hb | hb
                          · exact ⟨0, by simp, by simpa using hb⟩
                          · obtain ⟨i, h1, h2⟩ := ih b hb
                            exact ⟨i + 1, by simp; omega, by simpa using h2⟩
                      obtain ⟨i, h1, h2⟩ := this ks b hb
                      exact (l3 i (by omega)).2.2.1 b h2
          | nl q0 =>
            have hcat1 := List.all_eq_true.1 hcat _ (tyOf_mem tb t hne)
            simp only [Bool.and_eq_true] at hcat1
            rw [hc] at hcat1
            exact absurd hcat1.1 (by simp [CT.noNl])
          | _ => cases hok
    | struct fs =>
      simp only [descOk, Bool.and_eq_true] at hok
      obtain ⟨hag, hkey, hne2⟩ := hok
      obtain ⟨xs, n', hn, _, hl, hxl, hf⟩ := DataW.trod_struct hd h
      cases hn
      have hcat1 := List.all_eq_true.1 hcat _ (tyOf_mem tb t hne)
      simp only [Bool.and_eq_true] at hcat1
      replace hcat1 := hcat1.2
      simp only [Bool.or_eq_true, List.isEmpty_iff, Bool.not_eq_true'] at hcat1
      have hcat2 : catOk tb 0 (tyOf tb t).fields (tyOf tb t).cells = true := by
        rcases hcat1 with (h1 | h1) | h1
        · exact absurd h1 hne
        · rw [hag] at h1; cases h1
        · exact h1
      have := reads_fields (cs := cs) hty hcat ih fs.toList (tyOf tb t).fields 0 (tyOf tb t).cells hkey hne2 hcat2 (by rw [List.drop_zero, hl, cellsOf_eq hty hne]) (fun i f hfi => by
        have hfi' : fs[i]? = some f := by simpa using hfi
        have h1 := hf i f hfi'
        have hlt : i < xs.length := by rw [hxl]; exact (Array.getElem?_eq_some_iff.1 hfi').1
        rw [List.getElem?_eq_getElem hlt] at h1
        exact ⟨_, h1⟩)
      rwa [List.drop_zero] at this
    | _ => simp [descOk] at hok
end
end Go.Abs

namespace Go.Abs
set_option linter.unusedSimpArgs false
set_option linter.unusedVariables false
open Go.RowKit Go.WideShapes

/-! ### a law's row -/
section
variable {H : Type} {enc : TypeId × Value → H} {P : Program} {tb : Tb} {W : World} {base : Nat} {spare : Nat → Bool} {held : Bool}

theorem arg_read (hty : tyCheck P tb = true) (hcat : catCheck tb = true) {t : TypeId} {v : Value} {d : DataW H} {p : List MemPlace} (hne : (tyOf tb t).cells ≠ []) {w0 : World} {r0 : Reach} {b0 : Nat} (hval : Value.okWide P w0 r0 b0 t v) (hd : DataW.Trod enc P W base spare held t v d p) :
    ∃ own, own.length = (tyOf tb t).cells.length ∧ v = (if (tyOf tb t).agg then .agg own.toArray else own.headD undef) ∧ ((tyOf tb t).agg = false → own.length = 1) ∧ Reads W (tyOf tb t).cells own := by
  obtain ⟨n, hn⟩ := hd
  have hr := reads_sound hty hcat n t _ _ hne hn
  have hlen : v.cells.toList.length = (tyOf tb t).cells.length := by
    obtain ⟨x, ls, h, _⟩ := hr
    exact h.length
  obtain ⟨i, ds, z, hi, hu, hs, hbb, hz, hzc, hok⟩ := (TyOk.of hty hne).out
  have one : (∀ cs, v ≠ .agg cs) → v.cells = #[v] → (tyOf tb t).agg = false → ∃ own, own.length = (tyOf tb t).cells.length ∧ v = (if (tyOf tb t).agg then .agg own.toArray else own.headD undef) ∧ ((tyOf tb t).agg = false → own.length = 1) ∧ Reads W (tyOf tb t).cells own := by
    intro _ hc ha
    rw [hc] at hr hlen
    exact ⟨[v], hlen, by rw [ha]; rfl, fun _ => rfl, hr⟩
  cases ds with
  | bool =>
    simp only [descOk, Bool.and_eq_true, Bool.not_eq_true'] at hok
    obtain ⟨b, rfl⟩ := okWide_bool hu hval
    exact one (fun cs h => by cases h) rfl hok.1
  | int k =>
    simp only [descOk, Bool.and_eq_true, Bool.not_eq_true'] at hok
    obtain ⟨b, rfl⟩ := okWide_int hu hval
    exact one (fun cs h => by cases h) rfl hok.1
  | string =>
    simp only [descOk, Bool.and_eq_true, Bool.not_eq_true'] at hok
    obtain ⟨b, rfl⟩ := okWide_string hu hval
    exact one (fun cs h => by cases h) rfl hok.1
  | slice e =>
    simp only [descOk, Bool.and_eq_true, Bool.not_eq_true'] at hok
    obtain ⟨a, l, c, rfl⟩ := okWide_slice hu hval
    exact one (fun cs h => by cases h) rfl hok.1
  | struct fs =>
    simp only [descOk, Bool.and_eq_true] at hok
    unfold Value.okWide at hval
    rw [hu] at hval
    obtain ⟨cs, rfl, _⟩ := hval
    exact ⟨cs.toList, hlen, by rw [hok.1]; simp, fun h => (by rw [hok.1] at h; cases h), hr⟩
  | _ => simp [descOk] at hok

def shapeOf (tb : Tb) (t : Nat) : Bool × List CT := ((tyOf tb t).agg, (tyOf tb t).cells)
theorem args_read (hty : tyCheck P tb = true) (hcat : catCheck tb = true) {w0 : World} {r0 : Reach} {b0 : Nat} : ∀ (ts : List TypeId) (vs : List Value) (ds : List (DataW H)) (p : List MemPlace), (ts.all fun t => !(tyOf tb t).cells.isEmpty) = true →
    (∀ (j : Nat) (t : TypeId) (v : Value), ts[j]? = some t → vs[j]? = some v → Value.okWide P w0 r0 b0 t v) → DataW.TrodAll enc P W base spare held ts vs ds p →
    ∃ cvs, PackV (ts.map (shapeOf tb)) vs cvs ∧ Reads W (ts.flatMap fun t => (tyOf tb t).cells) cvs
  | [], vs, ds, p, _, _, h => by
    cases vs with
    | nil => exact ⟨[], ⟨rfl, rfl⟩, (), [], ⟨rfl, rfl⟩, trivial, fun b hb => by cases hb⟩
    | cons v vs => exact h.elim
  | t :: ts, vs, ds, p, hne, hval, h => by
    match vs, ds, h with
    | v :: vs, d :: ds, h =>
      obtain ⟨p1, p2, h1, h2, _⟩ := h
      simp only [List.all_cons, Bool.and_eq_true] at hne
      have hne1 : (tyOf tb t).cells ≠ [] := by
        intro e
        rw [e] at hne
        simp at hne
      obtain ⟨own, a1, a2, a3, a4⟩ := arg_read hty hcat hne1 (hval 0 t v (by simp) (by simp)) h1
      obtain ⟨cvs, b1, b2⟩ := args_read hty hcat ts vs ds p2 hne.2 (fun j t v hj hv => hval (j + 1) t v (by simpa using hj) (by simpa using hv)) h2
      exact ⟨own ++ cvs, ⟨v, vs, own, cvs, rfl, rfl, a1, a2, a3, b1⟩, by rw [List.flatMap_cons]; exact a4.append b2⟩
    | [], _, h => cases h
    | _ :: _, [], h => cases h
theorem law_row {modes : Modes} {ins : List CT} {fn : Tup ins → Option (Tup [.bool])} {f : Nat} (hk : ConB P f ⟨modes, [(false, [.bool])], ins, [.bool], fn⟩) (hty : tyCheck P tb = true) (hcat : catCheck tb = true) {ts : List TypeId}
    (hne : (ts.all fun t => !(tyOf tb t).cells.isEmpty) = true) (hm : modes.map (·.2) = ts.map (shapeOf tb)) (hi : (ts.flatMap fun t => (tyOf tb t).cells) = ins) (pure : ∀ x : Tup ins, WfT ins x → fn x = some (true : Bool))
    {w0 : World} {r0 : Reach} {b0 : Nat} {vs : List Value} {ds : List (DataW H)} {p : List MemPlace} (hval : ∀ (j : Nat) (t : TypeId) (v : Value), ts[j]? = some t → vs[j]? = some v → Value.okWide P w0 r0 b0 t v)
    (hA : DataW.TrodAll enc P W base spare held ts vs ds p) : Calls P f vs.toArray W fun e W' => e = .returned (.bool true) ∧ Below W.heap.size W W' := by
  subst hi
  obtain ⟨cvs, h1, x, ls, h2, h3, h4⟩ := args_read hty hcat ts vs ds p hne hval hA
  refine (hk.run W vs cvs ls x (true : Bool) (by rw [← hm] at h1; exact h1) h2 h4 (pure x h3)).mono fun e W' he => ?_
  cases e with
  | panicked ch => exact he.elim
  | outgrown => exact he.elim
  | returned u =>
    obtain ⟨⟨us, ovs, ols, hu, hp, ht, _, _⟩, hturn⟩ := he
    obtain ⟨v, l, rfl, rfl, hc⟩ := ht
    obtain ⟨u1, us', own, rest, rfl, h5, h6, rfl, h7, h8⟩ := hp
    obtain ⟨rfl, rfl⟩ := h8
    have h9 : own = [v] := by simpa using h5.symm
    subst h9
    have hv : v = .bool true := hc.2
    subst hv
    exact ⟨by rw [hu]; rfl, ⟨hturn.os, hturn.tape, hturn.output, hturn.size, fun b hb => hturn.block b hb List.not_mem_nil⟩⟩
theorem back_all (hl : laidOutB P = true) {W W' : World} (hb : Below W.heap.size W W') : ∀ (ts : List TypeId) (vs : List Value) (ds : List (DataW H)) (p : List MemPlace), (ts.all fun t => P.readableRec t && Nat.blt t P.types.size) = true →
    DataW.TrodAll enc P W 0 (fun _ => true) true ts vs ds p → DataW.TrodAll enc P W' 0 (fun b => decide (b < W.heap.size)) true ts vs ds p
  | [], vs, ds, p, _, h => by
    match vs, ds, h with
    | [], [], h => exact h
    | [], _ :: _, h => cases h
    | _ :: _, _, h => cases h
  | t :: ts, vs, ds, p, hr, h => by
    match vs, ds, h with
    | v :: vs, d :: ds, h =>
      obtain ⟨p1, p2, h1, h2, h3⟩ := h
      simp only [List.all_cons, Bool.and_eq_true] at hr
      have hlt : ∀ x ∈ p1, x.block < W.heap.size := by
        obtain ⟨m, hm⟩ := h1
        exact DataW.trod_lt m _ _ _ hm
      exact ⟨p1, p2, Below.trod hl hr.1.1 ((blt_iff _ _).1 hr.1.2) h1 hb hlt, back_all hl hb ts vs ds p2 hr.2 h2, h3⟩
    | [], _, h => cases h
    | _ :: _, [], h => cases h
end
end Go.Abs

namespace Go.Abs
set_option linter.unusedSimpArgs false
set_option linter.unusedVariables false
open Go.RowKit

/-! ### what is looked up, is proved once -/
def loopIds : Code → List Nat
  | .seq a b => loopIds a ++ loopIds b
  | .cond _ a b => loopIds a ++ loopIds b
  | .block _ a => loopIds a
  | .loop a => (firstReg a).getD 0 :: loopIds a
  | .scope a => loopIds a
  | _ => []
def allReg : Code → Bool
  | .seq a b => allReg a && allReg b
  | .cond _ a b => allReg a && allReg b
  | .block _ a => allReg a
  | .loop a => (firstReg a).isSome && allReg a
  | .scope a => allReg a
  | _ => true
theorem loopCode_none : ∀ (c : Code) (id : Nat), id ∉ loopIds c → allReg c = true → loopCode id c = none
  | .seq a b, id, h, hr => by
    simp only [loopIds, List.mem_append, not_or] at h
    simp only [allReg, Bool.and_eq_true] at hr
    simp only [loopCode, loopCode_none a id h.1 hr.1, loopCode_none b id h.2 hr.2]; rfl
  | .cond _ a b, id, h, hr => by
    simp only [loopIds, List.mem_append, not_or] at h
    simp only [allReg, Bool.and_eq_true] at hr
    simp only [loopCode, loopCode_none a id h.1 hr.1, loopCode_none b id h.2 hr.2]; rfl
  | .block _ a, id, h, hr => loopCode_none a id h hr
  | .scope a, id, h, hr => loopCode_none a id h hr
  | .loop a, id, h, hr => by
    simp only [loopIds, List.mem_cons, not_or] at h
    simp only [allReg, Bool.and_eq_true] at hr
    simp only [loopCode]
    cases hf : firstReg a with
    | none => rw [hf] at hr; cases hr.1
    | some j =>
      rw [hf] at h
      simp only [Option.getD_some] at h
      simp only
      rw [beq_false (fun e => h.1 e.symm)]
      exact loopCode_none a id h.2 hr.2
  | .skip, _, _, _ => rfl
  | .region _ _ _, _, _, _ => rfl
  | .label _, _, _, _ => rfl
  | .exit _, _, _, _ => rfl
  | .ret, _, _, _ => rfl
  | .goto _, _, _, _ => rfl
  | .rangeFunc _ _ _ _, _, _, _ => rfl
  | .refuse _, _, _, _ => rfl
theorem allLoops_mono {Pr Pr' : Code → Prop} : ∀ c : Code, (∀ a, (firstReg a).getD 0 ∈ loopIds c → Pr a → Pr' a) → allLoops Pr c → allLoops Pr' c
  | .seq a b, h, hp => ⟨allLoops_mono a (fun x hx => h x (List.mem_append_left _ hx)) hp.1, allLoops_mono b (fun x hx => h x (List.mem_append_right _ hx)) hp.2⟩
  | .cond _ a b, h, hp => ⟨allLoops_mono a (fun x hx => h x (List.mem_append_left _ hx)) hp.1, allLoops_mono b (fun x hx => h x (List.mem_append_right _ hx)) hp.2⟩
  | .block _ a, h, hp => allLoops_mono a h hp
  | .scope a, h, hp => allLoops_mono a h hp
  | .loop a, h, hp => ⟨h a (.head _) hp.1, allLoops_mono a (fun x hx => h x (.tail _ hx)) hp.2⟩
  | .skip, _, _ => trivial
  | .region _ _ _, _, _ => trivial
  | .label _, _, _ => trivial
  | .exit _, _, _ => trivial
  | .ret, _, _ => trivial
  | .goto _, _, _ => trivial
  | .rangeFunc _ _ _ _, _, _ => trivial
  | .refuse _, _, _ => trivial
theorem loops_found : ∀ c : Code, (loopIds c).Nodup → allReg c = true → allLoops (fun a => loopCode ((firstReg a).getD 0) c = some a) c
  | .seq a b, hn, hr => by
    have hd := List.nodup_append.1 hn
    simp only [allReg, Bool.and_eq_true] at hr
    refine ⟨allLoops_mono a (fun x _ hx => ?_) (loops_found a hd.1 hr.1), allLoops_mono b (fun x hm hx => ?_) (loops_found b hd.2.1 hr.2)⟩
    · simp only [loopCode, hx]; rfl
    · have : loopCode ((firstReg x).getD 0) a = none := loopCode_none a _ (fun h => hd.2.2 _ h _ hm rfl) hr.1
      simp only [loopCode, this, hx]; rfl
  | .cond _ a b, hn, hr => by
    have hd := List.nodup_append.1 hn
    simp only [allReg, Bool.and_eq_true] at hr
    refine ⟨allLoops_mono a (fun x _ hx => ?_) (loops_found a hd.1 hr.1), allLoops_mono b (fun x hm hx => ?_) (loops_found b hd.2.1 hr.2)⟩
    · simp only [loopCode, hx]; rfl
    · have : loopCode ((firstReg x).getD 0) a = none := loopCode_none a _ (fun h => hd.2.2 _ h _ hm rfl) hr.1
      simp only [loopCode, this, hx]; rfl
  | .block _ a, hn, hr => loops_found a hn hr
  | .scope a, hn, hr => loops_found a hn hr
  | .loop a, hn, hr => by
    have hd := List.nodup_cons.1 hn
    simp only [allReg, Bool.and_eq_true] at hr
    cases hf : firstReg a with
    | none => rw [hf] at hr; cases hr.1
    | some j =>
      refine ⟨?_, allLoops_mono a (fun x hm hx => ?_) (loops_found a hd.2 hr.2)⟩
      · simp only [loopCode, hf, Option.getD_some, Nat.beq_refl, cond_true]
      · have hne : j ≠ (firstReg x).getD 0 := fun e => hd.1 (by rw [hf, Option.getD_some, e]; exact hm)
        simp only [loopCode, hf, beq_false hne, cond_false]
        exact hx
  | .skip, _, _ => trivial
  | .region _ _ _, _, _ => trivial
  | .label _, _, _ => trivial
  | .exit _, _, _ => trivial
  | .ret, _, _ => trivial
  | .goto _, _, _ => trivial
  | .rangeFunc _ _ _ _, _, _ => trivial
  | .refuse _, _, _ => trivial
/-! joins -/
def joinIds : Code → List Nat
  | .seq a b => (match joinId a b with | some j => [j] | none => []) ++ (joinIds a ++ joinIds b)
  | .cond _ a b => joinIds a ++ joinIds b
  | .block _ a => joinIds a
  | .loop a => joinIds a
  | .scope a => joinIds a
  | _ => []
theorem isJ_false {a b : Code} {id : Nat} (h : ∀ j, joinId a b = some j → j ≠ id) : isJ id a b = false := by
  unfold isJ
  cases hj : joinId a b with
  | none => rfl
  | some j => exact beq_false (h j hj)
theorem joinCode_none : ∀ (c : Code) (id : Nat), id ∉ joinIds c → joinCode id c = none
  | .seq a b, id, h => by
    simp only [joinIds, List.mem_append, not_or] at h
    have : isJ id a b = false := isJ_false fun j hj e => h.1 (by rw [hj, e]; exact .head _)
    simp only [joinCode, this, cond_false, joinCode_none a id h.2.1, joinCode_none b id h.2.2]; rfl
  | .cond _ a b, id, h => by
    simp only [joinIds, List.mem_append, not_or] at h
    simp only [joinCode, joinCode_none a id h.1, joinCode_none b id h.2]; rfl
  | .block _ a, id, h => joinCode_none a id h
  | .scope a, id, h => joinCode_none a id h
  | .loop a, id, h => joinCode_none a id h
  | .skip, _, _ => rfl
  | .region _ _ _, _, _ => rfl
  | .label _, _, _ => rfl
  | .exit _, _, _ => rfl
  | .ret, _, _ => rfl
  | .goto _, _, _ => rfl
  | .rangeFunc _ _ _ _, _, _ => rfl
  | .refuse _, _, _ => rfl
theorem allJoins_mono {Pr Pr' : Nat → Code → Prop} : ∀ c : Code, (∀ j a, j ∈ joinIds c → Pr j a → Pr' j a) → allJoins Pr c → allJoins Pr' c
  | .seq a b, h, hp => ⟨fun j hj => h j b (by simp only [joinIds, List.mem_append]; exact .inl (by rw [hj]; exact .head _)) (hp.1 j hj),
      allJoins_mono a (fun j x hx => h j x (by simp only [joinIds, List.mem_append]; exact .inr (.inl hx))) hp.2.1, allJoins_mono b (fun j x hx => h j x (by simp only [joinIds, List.mem_append]; exact .inr (.inr hx))) hp.2.2⟩
  | .cond _ a b, h, hp => ⟨allJoins_mono a (fun j x hx => h j x (List.mem_append_left _ hx)) hp.1, allJoins_mono b (fun j x hx => h j x (List.mem_append_right _ hx)) hp.2⟩
  | .block _ a, h, hp => allJoins_mono a h hp
  | .scope a, h, hp => allJoins_mono a h hp
  | .loop a, h, hp => allJoins_mono a h hp
  | .skip, _, _ => trivial
  | .region _ _ _, _, _ => trivial
  | .label _, _, _ => trivial
  | .exit _, _, _ => trivial
  | .ret, _, _ => trivial
  | .goto _, _, _ => trivial
  | .rangeFunc _ _ _ _, _, _ => trivial
  | .refuse _, _, _ => trivial
theorem joins_found : ∀ c : Code, (joinIds c).Nodup → allJoins (fun j a => joinCode j c = some a) c
  | .seq a b, hn => by
    simp only [joinIds] at hn
    have hd := List.nodup_append.1 hn
    have he := List.nodup_append.1 hd.2.1
    refine ⟨fun j hj => ?_, allJoins_mono a (fun j x hm hx => ?_) (joins_found a he.1), allJoins_mono b (fun j x hm hx => ?_) (joins_found b he.2.1)⟩
    · simp only [joinCode, isJ, hj, Nat.beq_refl, cond_true]
    · have h1 : isJ j a b = false := isJ_false fun i hi e => hd.2.2 i (by rw [hi]; exact .head _) i (List.mem_append_left _ (e ▸ hm)) rfl
      simp only [joinCode, h1, cond_false, hx]; rfl
    · have h1 : isJ j a b = false := isJ_false fun i hi e => hd.2.2 i (by rw [hi]; exact .head _) i (List.mem_append_right _ (e ▸ hm)) rfl
      have h2 : joinCode j a = none := joinCode_none a _ (fun h => he.2.2 _ h _ hm rfl)
      simp only [joinCode, h1, cond_false, h2, hx]; rfl
  | .cond _ a b, hn => by
    simp only [joinIds] at hn
    have he := List.nodup_append.1 hn
    refine ⟨allJoins_mono a (fun j x hm hx => ?_) (joins_found a he.1), allJoins_mono b (fun j x hm hx => ?_) (joins_found b he.2.1)⟩
    · simp only [joinCode, hx]; rfl
    · have h2 : joinCode j a = none := joinCode_none a _ (fun h => he.2.2 _ h _ hm rfl)
      simp only [joinCode, h2, hx]; rfl
  | .block _ a, hn => joins_found a hn
  | .scope a, hn => joins_found a hn
  | .loop a, hn => joins_found a hn
  | .skip, _ => trivial
  | .region _ _ _, _ => trivial
  | .label _, _ => trivial
  | .exit _, _ => trivial
  | .ret, _ => trivial
  | .goto _, _ => trivial
  | .rangeFunc _ _ _ _, _ => trivial
  | .refuse _, _ => trivial
theorem nodup_of_dup : ∀ {l : List Nat}, dup l = false → l.Nodup
  | [], _ => .nil
  | x :: xs, h => by
    simp only [dup, Bool.or_eq_false_iff] at h
    exact List.nodup_cons.2 ⟨fun hm => (by rw [(memN_iff xs x).2 hm] at h; cases h.1), nodup_of_dup h.2⟩
def fnChk (fn : Func) : Bool := !(fn.name == "runtime.NumGoroutine") && match fn.body with
  | some b => dstOk fn.ntmps b && (!dup (loopIds b) && (allReg b && !dup (joinIds b)))
  | none => false
theorem FnS.of {P : Program} {f : Nat} {fn : Func} (h : P.funcs[f]? = some fn) (hc : fnChk fn = true) : FnS P f fn := by
  simp only [fnChk, Bool.and_eq_true, Bool.not_eq_true'] at hc
  cases hb : fn.body with
  | none => rw [hb] at hc; cases hc.2
  | some b =>
    rw [hb] at hc
    simp only [Bool.and_eq_true, Bool.not_eq_true'] at hc
    refine ⟨h, Enters.of h hc.1 (by rw [hb]; rfl), fun b' hb' => ?_⟩
    rw [hb] at hb'
    cases hb'
    exact ⟨hc.2.1, loops_found b (nodup_of_dup hc.2.2.1) hc.2.2.2.1, joins_found b (nodup_of_dup hc.2.2.2.2)⟩
def getF : List (Nat × Func) → Nat → Option Func
  | [], _ => none
  | (s, f) :: r, n => bif Nat.beq s n then some f else getF r n
def FsP (P : Program) : List (Nat × Func) → Prop
  | [] => True
  | (f, fn) :: r => P.funcs[f]? = some fn ∧ FsP P r
theorem FsS.of {P : Program} : ∀ {l : List (Nat × Func)}, FsP P l → (l.all fun p => fnChk p.2) = true → FsS P (getF l)
  | [], _, _, f, fn, h => by cases h
  | (s, g) :: r, h1, h2, f, fn, h => by
    simp only [List.all_cons, Bool.and_eq_true] at h2
    simp only [getF] at h
    by_cases e : s = f
    · subst e
      simp only [Nat.beq_refl, cond_true, Option.some.injEq] at h
      subst h
      exact .of h1.1 h2.1
    · rw [beq_false e] at h
      exact FsS.of h1.2 h2.2 f fn h

/-! ### contexts -/
def ConsP (P : Program) : Cons → Prop
  | [] => True
  | (f, k) :: r => ConS P f k ∧ ConsP P r
theorem ConsP.get {P : Program} : ∀ {cs : Cons}, ConsP P cs → ∀ f k, conOf cs f = some k → ConS P f k
  | [], _, f, k, h => by cases h
  | (s, c) :: r, hp, f, k, h => by
    simp only [conOf] at h
    by_cases e : s = f
    · subst e
      simp only [Nat.beq_refl, cond_true, Option.some.injEq] at h
      subst h
      exact hp.1
    · rw [beq_false e] at h
      exact hp.2.get f k h
def PtrsP (P : Program) : List (Nat × List (Int × Nat) × Nat) → Prop
  | [] => True
  | (f, tab, z) :: r => PtrS P f tab z ∧ PtrsP P r
theorem PtrsP.get {P : Program} : ∀ {cs : List (Nat × List (Int × Nat) × Nat)}, PtrsP P cs → ∀ f tab z, ptrOf cs f = some (tab, z) → PtrS P f tab z
  | [], _, f, tab, z, h => by cases h
  | (s, c1, c2) :: r, hp, f, tab, z, h => by
    simp only [ptrOf] at h
    by_cases e : s = f
    · subst e
      simp only [Nat.beq_refl, cond_true, Option.some.injEq, Prod.mk.injEq] at h
      obtain ⟨rfl, rfl⟩ := h
      exact hp.1
    · rw [beq_false e] at h
      exact hp.2.get f tab z h
def loopsOf : List (Nat × Loops) → Nat → Loops
  | [], _ => []
  | (f, ls) :: r, g => bif Nat.beq f g then ls else loopsOf r g
/-- A function's context. -/

def fzAll : List (Nat × List Nat × List (Nat × Nat × List Nat)) := [(4, [50], [(17, 5, [0])])]
def fzsOf : List (Nat × List Nat × List (Nat × Nat × List Nat)) → Nat → List Nat × List (Nat × Nat × List Nat)
  | [], _ => ([], [])
  | (k, x) :: r, g => bif Nat.beq k g then x else fzsOf r g
def lendTb (ts : List Nat) : Tb → Tb
  | [] => []
  | (t, I) :: r => (t, ⟨I.agg, I.cells, I.fields, I.elem, I.bytes, memN ts t⟩) :: lendTb ts r
theorem lend_of (ts : List Nat) : ∀ (tb : Tb) (t : Nat), (tyOf (lendTb ts tb) t).agg = (tyOf tb t).agg ∧ (tyOf (lendTb ts tb) t).cells = (tyOf tb t).cells
  | [], t => ⟨rfl, rfl⟩
  | (s, I) :: r, t => by
    simp only [lendTb, tyOf]
    cases Nat.beq s t with
    | true => exact ⟨rfl, rfl⟩
    | false => exact lend_of ts r t
theorem lend_desc (ts : List Nat) (tb : Tb) (I : TyI) (b : Bool) (d : TypeDesc) : descOk (lendTb ts tb) ⟨I.agg, I.cells, I.fields, I.elem, I.bytes, b⟩ d = descOk tb I d := by
  unfold descOk
  simp only [(lend_of ts tb _).2]
theorem lend_chk (P : Program) (ts : List Nat) (tb : Tb) (t : Nat) (I : TyI) (b : Bool) : tyChk P (lendTb ts tb) (t, ⟨I.agg, I.cells, I.fields, I.elem, I.bytes, b⟩) = tyChk P tb (t, I) := by
  unfold tyChk
  simp only [lend_desc]
  rfl
theorem lend_ty {P : Program} {tb : Tb} (ts : List Nat) (h : tyCheck P tb = true) : tyCheck P (lendTb ts tb) = true := by
  have : ∀ l : Tb, (∀ x ∈ l, tyChk P tb x = true) → ∀ x ∈ lendTb ts l, tyChk P (lendTb ts tb) x = true := by
    intro l
    induction l with
    | nil => intro _ x hx; cases hx
    | cons y l ih =>
      intro hl x hx
      rcases List.mem_cons.1 hx with rfl | hx
      · rw [lend_chk]; exact hl _ (.head _)
      · exact ih (fun x hx => hl x (.tail _ hx)) x hx
  exact List.all_eq_true.2 (this tb (List.all_eq_true.1 h))
def ctxOf (tb : Tb) (cons : Cons) (L : List (Nat × Loops)) (ptrs : List (Nat × List (Int × Nat) × Nat)) : Nat → Ctx := fun g => ⟨lendTb (fzsOf fzAll g).1 tb, cons, loopsOf L g, false, 0, ptrs, (fzsOf fzAll g).2⟩
def LoopR (fs : Nat → Option Func) (X : Nat → Ctx) (f id : Nat) (l : LoopCon) : Prop := ∃ N, ∀ p, l.fn p = iterD (roundOf fs X l.d f id (Nat.blt l.d 6) l) N p
def LoopRs (fs : Nat → Option Func) (X : Nat → Ctx) (f : Nat) : Loops → Prop
  | [] => True
  | (k, l) :: r => LoopR fs X f k l ∧ LoopRs fs X f r
def LoopsP (fs : Nat → Option Func) (X : Nat → Ctx) : List (Nat × Loops) → Prop
  | [] => True
  | (f, ls) :: r => LoopRs fs X f ls ∧ LoopsP fs X r
theorem LoopRs.get {fs : Nat → Option Func} {X : Nat → Ctx} {f : Nat} : ∀ {ls : Loops}, LoopRs fs X f ls → ∀ k l, (k, l) ∈ ls → LoopR fs X f k l
  | [], _, k, l, h => by cases h
  | (k1, l1) :: r, hp, k, l, h => by
    rcases List.mem_cons.1 h with e | h
    · cases e; exact hp.1
    · exact hp.2.get k l h
theorem LoopsP.get {fs : Nat → Option Func} {X : Nat → Ctx} : ∀ {L : List (Nat × Loops)}, LoopsP fs X L → ∀ f k l, (k, l) ∈ loopsOf L f → LoopR fs X f k l
  | [], _, f, k, l, h => by cases h
  | (g, ls) :: r, hp, f, k, l, h => by
    simp only [loopsOf] at h
    by_cases e : g = f
    · subst e
      simp only [Nat.beq_refl, cond_true] at h
      exact hp.1.get k l h
    · rw [beq_false e] at h
      exact hp.2.get f k l h
theorem round_eq {fs : Nat → Option Func} {X : Nat → Ctx} {d f id : Nat} {il : Bool} {l : LoopCon} {fn : Func} {b a : Code} (h1 : fs f = some fn) (h2 : fn.body = some b) (hk : Nat.blt id JB = true) (h3 : loopCode id b = some a) :
    roundOf fs X d f id il l = stepD l.c0 l fun s => codeRun { (bif il then { X f with inl := true } else X f) with dep := d } (inlRun fs (fun g => { X g with inl := true }) d) l.c0 a s := by
  funext p
  unfold roundOf
  simp only [h1, Option.bind_some, h2, h3, Option.getD_some, hk, cond_true]
theorem join_eq {fs : Nat → Option Func} {X : Nat → Ctx} {d f id : Nat} {il : Bool} {l : LoopCon} {fn : Func} {b a : Code} (h1 : fs f = some fn) (h2 : fn.body = some b) (hk : Nat.blt id JB = false) (h3 : joinCode id b = some a) :
    roundOf fs X d f id il l = stepJ l.c0 l fun s => codeRun { (bif il then { X f with inl := true } else X f) with dep := d } (inlRun fs (fun g => { X g with inl := true }) d) l.c0 a s := by
  funext p
  unfold roundOf
  simp only [h1, Option.bind_some, h2, h3, Option.getD_some, hk, cond_false]
theorem loopsIn {fs : Nat → Option Func} {tb : Tb} {cons : Cons} {L : List (Nat × Loops)} {ptrs : List (Nat × List (Int × Nat) × Nat)} (hL : LoopsP fs (ctxOf tb cons L ptrs) L) {f d : Nat} (hd : d < 6) {fn : Func} {b : Code} (h1 : fs f = some fn) (h2 : fn.body = some b) :
    LoopsS { ctxOf tb cons L ptrs f with dep := d, inl := true } (inlRun fs (fun g => { ctxOf tb cons L ptrs g with inl := true }) d) b := by
  refine ⟨fun k l hm hk hdl a ha p r hr => ?_, fun k l hm hk hdl a ha p r hr => ?_⟩
  · obtain ⟨N, hN⟩ := hL.get f k l hm
    have hdl : l.d = d := hdl
    rw [hN p, round_eq h1 h2 hk ha, hdl, (blt_iff d 6).2 hd] at hr
    exact ⟨N, hr⟩
  · obtain ⟨N, hN⟩ := hL.get f k l hm
    have hdl : l.d = d := hdl
    rw [hN p, join_eq h1 h2 hk ha, hdl, (blt_iff d 6).2 hd] at hr
    exact ⟨N, hr⟩
theorem loopsTop {fs : Nat → Option Func} {tb : Tb} {cons : Cons} {L : List (Nat × Loops)} {ptrs : List (Nat × List (Int × Nat) × Nat)} (hL : LoopsP fs (ctxOf tb cons L ptrs) L) {f : Nat} {fn : Func} {b : Code} (h1 : fs f = some fn) (h2 : fn.body = some b) :
    LoopsS { ctxOf tb cons L ptrs f with dep := 6 } (inlRun fs (fun g => { ctxOf tb cons L ptrs g with inl := true }) 6) b := by
  refine ⟨fun k l hm hk hdl a ha p r hr => ?_, fun k l hm hk hdl a ha p r hr => ?_⟩
  · obtain ⟨N, hN⟩ := hL.get f k l hm
    have hdl : l.d = 6 := hdl
    rw [hN p, round_eq h1 h2 hk ha, hdl] at hr
    exact ⟨N, hr⟩
  · obtain ⟨N, hN⟩ := hL.get f k l hm
    have hdl : l.d = 6 := hdl
    rw [hN p, join_eq h1 h2 hk ha, hdl] at hr
    exact ⟨N, hr⟩
end Go.Abs

