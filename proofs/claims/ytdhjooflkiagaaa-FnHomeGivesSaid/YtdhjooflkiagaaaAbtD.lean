import Derived.Test.YtdhjooflkiagaaaAbtC
namespace Go.Abs
set_option linter.unusedSimpArgs false
set_option linter.unusedVariables false
open Go.RowKit

section
variable {P : Program} {fs : Nat → Option Func} {tb : Tb} {cons : Cons} {L : List (Nat × Loops)} {ptrs : List (Nat × List (Int × Nat) × Nat)}

theorem Base0.make (hfs : FsS P fs) (hmix : P.follows .mixedOrders = true) (hty : tyCheck P tb = true) (hc : ConsP P cons) (hp : PtrsP P ptrs) (hL : LoopsP fs (ctxOf tb cons L ptrs) L) : Base0 P fs (ctxOf tb cons L ptrs) :=
  ⟨hfs, fun g => ⟨hmix, lend_ty _ hty, fun f k h => hc.get f k h, fun f tab z h => hp.get f tab z h⟩, fun f fn b d hd h1 h2 => loopsIn hL hd h1 h2⟩
/-- A contract, out of its check. -/
theorem ConB.make (hfs : FsS P fs) (hmix : P.follows .mixedOrders = true) (hty : tyCheck P tb = true) (hc : ConsP P cons) (hp : PtrsP P ptrs) (hL : LoopsP fs (ctxOf tb cons L ptrs) L) {f : Nat} {fn : Func} (hf : fs f = some fn) {k : Con}
    (hB : (k.allB && Nat.ble k.ins.length 1000) = true) (E : ∀ x, funRun fs (ctxOf tb cons L ptrs) 6 f k x = k.fn x) : ConB P f k :=
  ConB.of (Base0.make hfs hmix hty hc hp hL) (Nat.le_refl 6) hf (fun b hb => loopsTop hL hf hb) hB E

/-! ### a field's place -/
theorem D.run_of_has {α : Type} : ∀ (d : D α) (a : α), d.Has a → d.run = some a
  | .ret b, a, h => by rw [show b = a from h]; rfl
  | .fail, a, h => h.elim
  | .cond c l r, a, h => by
    rcases h with ⟨rfl, h⟩ | ⟨rfl, h⟩
    · exact D.run_of_has l a h
    · exact D.run_of_has r a h
  | .bind β o f, a, h => by
    obtain ⟨y, rfl, h⟩ := h
    exact D.run_of_has (f y) a h
  | .cases β γ s f g, a, h => by
    rcases h with ⟨y, rfl, h⟩ | ⟨y, rfl, h⟩
    · exact D.run_of_has (f y) a h
    · exact D.run_of_has (g y) a h
theorem pick_has {id : Nat} {l : Int} : ∀ (tab : List (Int × Nat)) (z : Nat) (v : AV), (pickP id l tab z).Has v → ∃ off, v = .ptr id off ∧ (pickP 500 l tab z).Has (.ptr 500 off)
  | [], z, v, h => ⟨z, h.symm, rfl⟩
  | (n, o) :: r, z, v, h => by
    rcases h with ⟨h1, h⟩ | ⟨h1, h⟩
    · exact ⟨o, h.symm, .inl ⟨h1, rfl⟩⟩
    · obtain ⟨off, h2, h3⟩ := pick_has r z v h
      exact ⟨off, h2, .inr ⟨h1, h3⟩⟩
/-- The body from a place and a letter on. -/
def ptrRun (fs : Nat → Option Func) (c : Nat → Ctx) (f : Nat) (l : Int) : Option (List AV) :=
  match fs f with
  | none => none
  | some fn => match fn.body with
    | none => none
    | some b => ((codeRun { c f with dep := 6 } (inlRun fs (fun g => { c g with inl := true }) 6) 1000 b ⟨argsEnv 0 [.ptr 500 0, .int .u8 l], [], 1000⟩).andThen fun (x, s') => match x with
        | .exit _ => D.fail
        | _ => ((getRes (c f).tb s'.env fn.results.toList).go s'.heap log0).andThen fun (rs, _, _) => .ret rs).run
theorem PtrS.make (hfs : FsS P fs) (hmix : P.follows .mixedOrders = true) (hty : tyCheck P tb = true) (hc : ConsP P cons) (hp : PtrsP P ptrs) (hL : LoopsP fs (ctxOf tb cons L ptrs) L) {f : Nat} {fn : Func} (hf : fs f = some fn) {tab : List (Int × Nat)} {z : Nat}
    (E : ∀ l, ptrRun fs (ctxOf tb cons L ptrs) f l = ((pickP 500 l tab z).andThen fun v => .ret [v] : D (List AV)).run) : PtrS P f tab z := by
  have hb := Base0.make hfs hmix hty hc hp hL
  have hfn := hfs f fn hf
  refine ⟨hfn.enters, fun id l v hv => ?_⟩
  obtain ⟨off, rfl, hv2⟩ := pick_has tab z v hv
  refine ⟨off, rfl, fun b w => ?_⟩
  have hr := E l
  have hv3 : ((pickP 500 l tab z).andThen fun v => .ret [v] : D (List AV)).Has [.ptr 500 off] := (D.has_andThen _ _ _).2 ⟨_, hv2, rfl⟩
  rw [D.run_of_has _ _ hv3] at hr
  unfold ptrRun at hr
  rw [hf] at hr
  simp only at hr
  split at hr
  · cases hr
  · rename_i code hbd
    have hbody := hfn.body code hbd
    obtain ⟨⟨x, s1⟩, h1, h2⟩ := (D.has_andThen _ _ _).1 (D.has_of_run _ _ hr)
    have fin : (((getRes ((ctxOf tb cons L ptrs) f).tb s1.env fn.results.toList).go s1.heap log0).andThen fun (rs, _, _) => .ret rs : D (List AV)).Has [.ptr 500 off] → ∃ h', (getRes (ctxOf tb cons L ptrs f).tb s1.env fn.results.toList).Has s1.heap [.ptr 500 off] h' := by
      intro h3
      obtain ⟨⟨rs, h4, lg⟩, h5, h6⟩ := (D.has_andThen _ _ _).1 h3
      have h6 : rs = [.ptr 500 off] := h6
      subst h6
      exact ⟨h4, DH.has_of_go _ _ _ _ _ _ h5⟩
    have hx : (x = .normal ∨ x = .ret) ∧ ∃ h', (getRes (ctxOf tb cons L ptrs f).tb s1.env fn.results.toList).Has s1.heap [.ptr 500 off] h' := by
      cases x with
      | exit i => exact h2.elim
      | normal => exact ⟨.inl rfl, fin h2⟩
      | ret => exact ⟨.inr rfl, fin h2⟩
    obtain ⟨hx, h', h3⟩ := hx
    let B := baseOf P w fun _ => undef
    let G : Gh := fun id => if id = 500 then some (.box b) else none
    have hsim : Sim B G [] w := ⟨fun id o h => (by cases h), fun id o go h => (by cases h), fun id o go h => (by cases h), fun i j o o' go go' _ h => (by cases h), rfl, rfl, rfl, Nat.le_refl _, fun _ _ => rfl⟩
    have hargs : VRelF B G [.ptr 500 0, .int .u8 l] [.pointer (some ⟨b, 0, none⟩), .int .u8 l] := ⟨⟨b, if_pos rfl, rfl⟩, rfl, trivial⟩
    refine calls_of_wp hfn.here hbd ?_
    have hinl := inl_soundP (fs := fs) (c := fun g => { ctxOf tb cons L ptrs g with inl := true }) hb.fsS (fun g => (hb.ctx g).dep _ true) (fun g => rfl) (fun f fn b d hd h1 h2 => hb.loops f fn b d hd h1 h2) 6 (Nat.le_refl 6)
    have hc' : ∀ B' : Base, B'.P = B.P → CtxS B' { ctxOf tb cons L ptrs f with dep := 6 } (inlRun fs (fun g => { ctxOf tb cons L ptrs g with inl := true }) 6) := fun B' hP' => ⟨by rw [hP']; exact (hb.ctx f).mix, by rw [hP']; exact (hb.ctx f).ty, by rw [hP']; exact (hb.ctx f).cons, by rw [hP']; exact (hb.ctx f).ptrs, hinl B' hP'⟩
    have hst : FrS B G (fun id => 1000 ≤ id) ⟨argsEnv 0 [.ptr 500 0, .int .u8 l], [], 1000⟩ { tmps := #[Value.pointer (some ⟨b, 0, none⟩), Value.int .u8 l] ++ Array.replicate (fn.ntmps - (#[Value.pointer (some ⟨b, 0, none⟩), Value.int .u8 l] : Array Value).size) undef, defers := [] } w (#[Value.pointer (some ⟨b, 0, none⟩), Value.int .u8 l] ++ Array.replicate (fn.ntmps - (#[Value.pointer (some ⟨b, 0, none⟩), Value.int .u8 l] : Array Value).size) undef).size :=
      ⟨hsim, args_env hargs _ _, rfl, rfl, fun id hid => if_neg (by omega)⟩
    refine wp_mono (code_sound hc' (loopsTop hL hf hbd) code (dstOk_mono (nt := fn.ntmps) (by rw [Array.size_append, Array.size_replicate]; omega) code hbody.1) hbody.2.1 hbody.2.2 B rfl 1000 ⟨argsEnv 0 [.ptr 500 0, .int .u8 l], [], 1000⟩ _ w G hst (Nat.le_refl _) x s1 h1) fun e a' w' hfin => ?_
    obtain ⟨G', k1, k2, k3⟩ := hfin.st
    obtain ⟨_, us', hr', hv'⟩ := getRes_sound (hb.ctx f).ty k1.sim k1.env _ _ _ h3
    have hres := results_run (fn := fn) hr'
    have hp0 := k2.vis (.ptr 500 0) (.pointer (some ⟨b, 0, none⟩)) rfl (fun i hi => by simp [AV.idsS] at hi; omega) ⟨b, if_pos rfl, rfl⟩
    have hgoal : a'.defers = [] ∧ ∃ v, (results fn a'.tmps).run P w' = .ok v w' ∧ Ret (fun u w' => u = .pointer (some ⟨b, off, none⟩) ∧ Turn w w' []) (.returned v) w' := by
      refine ⟨k1.defers, _, hres, ?_, ⟨k1.sim.os, k1.sim.tape, k1.sim.output, k1.sim.size, fun c hc _ => k1.sim.safe c ⟨hc, by simp [B, baseOf]⟩⟩⟩
      match us', hv' with
      | [u], hv' =>
        obtain ⟨⟨b1, g1, rfl⟩, _⟩ := hv'
        obtain ⟨b2, g2, e2⟩ := hp0
        rw [g1] at g2
        cases g2
        cases e2
        rfl
      | [], hv' => exact hv'.elim
      | _ :: _ :: _, hv' => exact hv'.2.elim
    rw [hfin.ex]
    rcases hx with rfl | rfl
    · exact hgoal
    · exact hgoal

/-! ### a copy -/
theorem ConB.copy (hfs : FsS P fs) (hmix : P.follows .mixedOrders = true) (hty : tyCheck P tb = true) (hc : ConsP P cons) (hp : PtrsP P ptrs) (hL : LoopsP fs (ctxOf tb cons L ptrs) L) {f : Nat} {fn : Func} (hf : fs f = some fn) {r : RT} {g : List r.den → Option (List r.den)}
    (E1 : ∀ x : List r.den, bodyRun fs (ctxOf tb cons L ptrs) 6 f ⟨[(.B, false, [.sl r])], [(false, [.sl r])], [.sl r], [.sl r], g⟩ [] [] [.bor (some 1000) r x] [] = g x)
    (E0 : bodyRun fs (ctxOf tb cons L ptrs) 6 f ⟨[(.B, false, [.sl r])], [(false, [.sl r])], [.sl r], [.sl r], g⟩ [] [] [.nil (some r)] [] = g ([] : List r.den)) : ConB P f ⟨[(.B, false, [.sl r])], [(false, [.sl r])], [.sl r], [.sl r], g⟩ := by
  have hb := Base0.make hfs hmix hty hc hp hL
  refine ⟨(hfs f fn hf).enters, fun w us cvs ls x y hpk ht hs hy => ?_⟩
  obtain ⟨v, l, rfl, rfl, hcell⟩ := ht
  obtain ⟨u, us', own, rest, rfl, h5, h6, rfl, h7, h8⟩ := hpk
  obtain ⟨rfl, rfl⟩ := h8
  have h9 : own = [v] := by simpa using h5.symm
  subst h9
  have hloops := fun fn' b (h1 : fs f = some fn') h2 => loopsTop (f := f) hL h1 h2 (b := b)
  have full : (∃ a n c, v = .slice (some a) n c) → Calls P f [v].toArray w (Ret fun u w' => OutB w ⟨[(.B, false, [.sl r])], [(false, [.sl r])], [.sl r], [.sl r], g⟩ y u w') := by
    intro hne
    refine body_sound (avs := [.bor (some 1000) r x]) (tok := fun _ => v) hb (Nat.le_refl 6) hloops rfl ((E1 x).trans hy) ⟨⟨⟨l, hcell, fun b hb => ⟨hs b (by simpa [Ls.bl] using hb), by simp [baseOf]⟩⟩, fun i hi => ?_⟩, trivial⟩
    cases hi
    exact ⟨rfl, fun _ => hne⟩
  have empty : v = .slice none 0 0 → List.length (x : List r.den) = 0 → Calls P f [v].toArray w (Ret fun u w' => OutB w ⟨[(.B, false, [.sl r])], [(false, [.sl r])], [.sl r], [.sl r], g⟩ y u w') := by
    intro hv hx
    have hx0 : (x : List r.den) = [] := List.eq_nil_of_length_eq_zero hx
    have hy0 : g ([] : List r.den) = some y := by rw [← hx0]; exact hy
    exact body_sound (avs := [.nil (some r)]) (tok := fun _ => v) hb (Nat.le_refl 6) hloops rfl (E0.trans hy0) ⟨hv, trivial⟩
  obtain ⟨loc, kids, rfl, hv, hk, hloc, hrow⟩ := hcell
  show Calls P f [v].toArray w _
  cases loc with
  | nil =>
    simp only [LocOk] at hloc
    exact empty hv hloc
  | emp a cap =>
    obtain ⟨h1, _, h3⟩ := hloc
    cases a with
    | none =>
      have := h3 rfl
      subst this
      exact empty hv h1
    | some a => exact full ⟨a, _, _, hv⟩
  | «at» b off cap sz => exact full ⟨_, _, _, hv⟩
/-- A copy of a slice of none. -/
theorem ConB.copyN (hfs : FsS P fs) (hmix : P.follows .mixedOrders = true) (hty : tyCheck P tb = true) (hc : ConsP P cons) (hp : PtrsP P ptrs) (hL : LoopsP fs (ctxOf tb cons L ptrs) L) {f : Nat} {fn : Func} (hf : fs f = some fn) {r : RT}
    (E1 : bodyRun fs (ctxOf tb cons L ptrs) 6 f ⟨[(.B, false, [.nl r])], [(false, [.nl r])], [.nl r], [.nl r], fun _ => some ()⟩ [] [] [.bor (some 1000) r []] [] = some ())
    (E0 : bodyRun fs (ctxOf tb cons L ptrs) 6 f ⟨[(.B, false, [.nl r])], [(false, [.nl r])], [.nl r], [.nl r], fun _ => some ()⟩ [] [] [.nil (some r)] [] = some ()) : ConB P f ⟨[(.B, false, [.nl r])], [(false, [.nl r])], [.nl r], [.nl r], fun _ => some ()⟩ := by
  have hb := Base0.make hfs hmix hty hc hp hL
  refine ⟨(hfs f fn hf).enters, fun w us cvs ls x y hpk ht hs hy => ?_⟩
  obtain ⟨v, l, rfl, rfl, hl0, a, hv⟩ := ht
  obtain ⟨u, us', own, rest, rfl, h5, h6, rfl, h7, h8⟩ := hpk
  obtain ⟨rfl, rfl⟩ := h8
  have h9 : own = [v] := by simpa using h5.symm
  subst h9
  have hloops := fun fn' b (h1 : fs f = some fn') h2 => loopsTop (f := f) hL h1 h2 (b := b)
  show Calls P f [v].toArray w _
  cases a with
  | none => exact body_sound (avs := [.nil (some r)]) (tok := fun _ => v) hb (Nat.le_refl 6) hloops rfl E0 ⟨hv, trivial⟩
  | some a =>
    refine body_sound (avs := [.bor (some 1000) r []]) (tok := fun _ => v) hb (Nat.le_refl 6) hloops rfl E1 ⟨⟨⟨.sl (.emp (some a) 0) [], ⟨_, _, rfl, by rw [hv]; rfl, rfl, ⟨rfl, fun h => (by cases h), fun h => (by cases h)⟩, fun b off cap sz e => (by cases e)⟩, fun b hb => by simp [Go.Abs.L.bl, Loc.bl, Lss.bl] at hb⟩, fun i hi => ?_⟩, trivial⟩
    cases hi
    exact ⟨rfl, fun _ => ⟨a, 0, 0, hv⟩⟩
end
end Go.Abs

namespace Go.Abs
set_option linter.unusedSimpArgs false
set_option linter.unusedVariables false
open Go.RowKit

/-! ### many rows turned at once -/
def purgeVs : List Pl → AV → AV
  | [], a => a
  | i :: is, a => purgeVs is (purgeV i a)
theorem purgeVs_spec : ∀ (z : List Pl) (a : AV), purgeVs z a = .undef ∨ (purgeVs z a = a ∧ ∀ i ∈ z, a.deep i = false)
  | [], a => .inr ⟨rfl, fun i hi => by cases hi⟩
  | i :: is, a => by
    simp only [purgeVs]
    unfold purgeV
    cases hd : a.deep i with
    | true =>
      left
      simp only [cond_true]
      have : ∀ is : List Pl, purgeVs is .undef = .undef := by
        intro is
        induction is with
        | nil => rfl
        | cons j js ih => simp only [purgeVs]; exact ih
      exact this is
    | false =>
      simp only [cond_false]
      rcases purgeVs_spec is a with h | ⟨h1, h2⟩
      · exact .inl h
      · exact .inr ⟨h1, fun j hj => by rcases List.mem_cons.1 hj with rfl | hj <;> first | exact hd | exact h2 j hj⟩
def purgeOs (z : List Pl) : Obj → Obj
  | .box cs => .box (cs.map (purgeVs z))
  | .robox cs => .robox (cs.map (purgeVs z))
  | o => o
theorem getO_purgeHs : ∀ (z : List Pl) (h : Heap) (j : Nat), getO (purgeHs z h) j = (getO h j).map (purgeOs z)
  | [], h, j => by
    simp only [purgeHs]
    cases getO h j with
    | none => rfl
    | some o => cases o <;> simp [purgeOs, purgeVs] <;> (try (rw [List.map_congr_left (g := fun x => x) (fun x _ => rfl), List.map_id'']; intro x; rfl))
  | i :: is, h, j => by
    simp only [purgeHs]
    rw [getO_purgeHs is, getO_purgeH]
    cases getO h j with
    | none => rfl
    | some o => cases o <;> simp [purgeO, purgeOs, purgeVs, Function.comp_def]
theorem purgeVs_rel {B : Base} {G G' : Gh} {z : List Pl} (hv : ∀ x u, (∀ i ∈ z, AV.deepS i x = false) → VRelS B G x u → VRelS B G' x u) {a : AV} {u : Value} (h : VRelS B G a u) : VRelS B G' (purgeVs z a) u := by
  rcases purgeVs_spec z a with h1 | ⟨h1, h2⟩
  · rw [h1]; trivial
  · rw [h1]
    refine hv a u (fun i hi => ?_) h
    have := h2 i hi
    cases a with
    | agg cs => exact h.elim
    | tup cs => exact h.elim
    | func f cs => exact h.elim
    | _ => exact this
theorem purgeVsL_rel {B : Base} {G G' : Gh} {z : List Pl} (hv : ∀ x u, (∀ i ∈ z, AV.deepS i x = false) → VRelS B G x u → VRelS B G' x u) : ∀ {cs : List AV} {vs : List Value}, VRelL B G cs vs → VRelL B G' (cs.map (purgeVs z)) vs
  | [], [], _ => trivial
  | _ :: _, _ :: _, h => ⟨purgeVs_rel hv h.1, purgeVsL_rel hv h.2⟩
  | [], _ :: _, h => h.elim
  | _ :: _, [], h => h.elim

end Go.Abs

namespace Go.Abs
set_option linter.unusedSimpArgs false
set_option linter.unusedVariables false
open Go.RowKit

/-! ### arguments of all modes -/
def ArgU (w : World) (m : Mode) (a : Bool) (own : List Value) (u : Value) (ob : Option Nat) : Prop :=
  match m with
  | .Q => ∃ b, ob = some b ∧ u = .pointer (some ⟨b, 0, none⟩) ∧ ∀ j v, own[j]? = some v → w.cell? ⟨b, j, none⟩ = some v
  | .P _ => ∃ b e, ob = some b ∧ u = .pointer (some ⟨b, 0, none⟩) ∧ w.heap[b]? = some (.cells own.toArray e (0, 0))
  | _ => ob = none ∧ u = (if a then .agg own.toArray else own.headD undef) ∧ (a = false → own.length = 1)
def ArgV (w : World) : Modes → List Value → List Value → List (Option Nat) → Prop
  | [], us, cvs, bx => us = [] ∧ cvs = [] ∧ bx = []
  | (m, a, cs) :: ms, us, cvs, bx => ∃ u us' own rest ob bx', us = u :: us' ∧ cvs = own ++ rest ∧ own.length = cs.length ∧ bx = ob :: bx' ∧ ArgU w m a own u ob ∧ ArgV w ms us' rest bx'
def ownBl : List CK → List L → List Nat
  | k :: ks, l :: ls => (bif k.own then l.bl else []) ++ ownBl ks ls
  | _, _ => []
def borBl : List CK → List L → List Nat
  | k :: ks, l :: ls => (bif k.own then [] else l.bl) ++ borBl ks ls
  | _, _ => []
def Mode.isP : Mode → Bool
  | .P _ => true
  | _ => false
def mineB : Modes → List (Option Nat) → List Nat
  | (m, _, _) :: ms, ob :: bx => (bif m.isP then ob.toList else []) ++ mineB ms bx
  | _, _ => []
def qB : Modes → List (Option Nat) → List Nat
  | (m, _, _) :: ms, ob :: bx => (bif m.isP then [] else ob.toList) ++ qB ms bx
  | _, _ => []

/-! ### what stays of a layout for those who hold its top -/
def L.refR (l : L) (view : Option (Int × Int)) (v : Value) : Prop :=
  match view with
  | none => ∃ loc n, l.at [] = some (loc, n) ∧ v = loc.val n
  | some (o, m) => ∃ loc n, l.at [] = some (loc, n) ∧ viewVal loc n o m v
def L.eptrR (l : L) (i : Int) (c : Nat) (v : Value) : Prop := ∃ b off cap sz n, l.at [] = some (.at b off cap sz, n) ∧ 0 ≤ i ∧ i < n ∧ v = .pointer (some ⟨b, off + i.toNat * sz + c, none⟩)
structure TopS (l l' : L) : Prop where
  ref : ∀ view v, l.refR view v → l'.refR view v
  eptr : ∀ i c v, l.eptrR i c v → l'.eptrR i c v
theorem ref_iff {B : Base} {G : Gh} {id : Nat} {view : Option (Int × Int)} {v : Value} : VRelS B G (.ref id [] view) v ↔ ∃ l, G id = some (.row l) ∧ l.refR view v := by
  cases view with
  | none =>
    simp only [VRelS, Gh.at, L.refR]
    constructor
    · rintro ⟨loc, n, h, rfl⟩
      split at h
      · rename_i l hl; exact ⟨l, hl, loc, n, h, rfl⟩
      · cases h
    · rintro ⟨l, hl, loc, n, h, rfl⟩
      exact ⟨loc, n, by rw [hl]; exact h, rfl⟩
  | some om =>
    obtain ⟨o, m⟩ := om
    simp only [VRelS, Gh.at, L.refR]
    constructor
    · rintro ⟨loc, n, h, hv⟩
      split at h
      · rename_i l hl; exact ⟨l, hl, loc, n, h, hv⟩
      · cases h
    · rintro ⟨l, hl, loc, n, h, hv⟩
      exact ⟨loc, n, by rw [hl]; exact h, hv⟩
theorem eptr_iff {B : Base} {G : Gh} {id : Nat} {i : Int} {c : Nat} {v : Value} : VRelS B G (.eptr id [] i c) v ↔ ∃ l, G id = some (.row l) ∧ l.eptrR i c v := by
  simp only [VRelS, Gh.at, L.eptrR]
  constructor
  · rintro ⟨b, off, cap, sz, n, h, hv⟩
    split at h
    · rename_i l hl; exact ⟨l, hl, b, off, cap, sz, n, h, hv⟩
    · cases h
  · rintro ⟨l, hl, b, off, cap, sz, n, h, hv⟩
    exact ⟨b, off, cap, sz, n, by rw [hl]; exact h, hv⟩
theorem TopS.of {B B' : Base} {G G' : Gh} {id id' : Nat} {l l' : L} (h : G id = some (.row l)) (h' : G' id' = some (.row l')) (hr : ∀ view v, VRelS B G (.ref id [] view) v → VRelS B' G' (.ref id' [] view) v) (he : ∀ i c v, VRelS B G (.eptr id [] i c) v → VRelS B' G' (.eptr id' [] i c) v) : TopS l l' := by
  refine ⟨fun view v hv => ?_, fun i c v hv => ?_⟩
  · obtain ⟨l1, h1, h2⟩ := ref_iff.1 (hr view v (ref_iff.2 ⟨l, h, hv⟩))
    rw [h'] at h1; cases h1; exact h2
  · obtain ⟨l1, h1, h2⟩ := eptr_iff.1 (he i c v (eptr_iff.2 ⟨l, h, hv⟩))
    rw [h'] at h1; cases h1; exact h2
def TopL : List L → List L → Prop
  | [], [] => True
  | a :: as, b :: bs => TopS a b ∧ TopL as bs
  | _, _ => False

/-! ### what a call hands back -/
def KeptM (w' : World) : Modes → List (Option Nat) → List Value → List L → List Value → List L → Prop
  | [], _, _, _, kvs, kls => kvs = [] ∧ kls = []
  | (m, _, cs) :: ms, bx, vs, ls, kvs, kls => match m with
    | .I => ∃ l1 kvs' kls', kvs = slOf cs (vs.take cs.length) ++ kvs' ∧ kls = l1 ++ kls' ∧ TopL (slOf cs (ls.take cs.length)) l1 ∧ KeptM w' ms bx.tail (vs.drop cs.length) (ls.drop cs.length) kvs' kls'
    | .P ws => ∃ b e k1 l1 kvs' kls', bx.head? = some (some b) ∧ kvs = k1 ++ kvs' ∧ kls = l1 ++ kls' ∧ k1.length = cnt ws ∧ l1.length = cnt ws ∧ w'.heap[b]? = some (.cells (mrg ws (vs.take cs.length) k1).toArray e (0, 0)) ∧
        KeptM w' ms bx.tail (vs.drop cs.length) (ls.drop cs.length) kvs' kls'
    | _ => KeptM w' ms bx.tail (vs.drop cs.length) (ls.drop cs.length) kvs kls
structure OutG (w : World) (k : Con) (bx : List (Option Nat)) (cvs : List Value) (ls : List L) (y : Tup k.outs) (u : Value) (w' : World) : Prop where
  out : ∃ us ovs ols kvs kls, u = (if h : us.toArray.size = 1 then us.toArray[0] else .tuple us.toArray) ∧ PackV k.res us ovs ∧ TupW F0 w' true k.outs y (ovs ++ kvs) (ols ++ kls) ∧ ols.length = ovs.length ∧ KeptM w' k.modes bx cvs ls kvs kls ∧
    (Ls.bl (ols ++ kls) ++ mineB k.modes bx).Nodup ∧ ∀ b ∈ Ls.bl (ols ++ kls), (w.heap.size ≤ b ∨ b ∈ ownBl (ksOf k.modes) ls ++ mineB k.modes bx) ∧ b < w'.heap.size
  turn : Turn w w' (ownBl (ksOf k.modes) ls ++ mineB k.modes bx)
structure ArgsG (w : World) (k : Con) (us cvs : List Value) (bx : List (Option Nat)) (ls : List L) (x : Tup k.ins) : Prop where
  args : ArgV w k.modes us cvs bx
  cells : TupV F0 w k.ins x ((ksOf k.modes).map CK.own) ls cvs
  read : ∀ b ∈ borBl (ksOf k.modes) ls ++ qB k.modes bx, b < w.heap.size ∧ b ∉ ownBl (ksOf k.modes) ls ++ mineB k.modes bx
  nodup : (ownBl (ksOf k.modes) ls ++ mineB k.modes bx).Nodup
  own : ∀ b ∈ ownBl (ksOf k.modes) ls ++ mineB k.modes bx, b < w.heap.size
structure ConG (P : Program) (f : Nat) (k : Con) : Prop where
  enters : Enters P f
  run : ∀ (w : World) (us cvs : List Value) (bx : List (Option Nat)) (ls : List L) (x : Tup k.ins) (y : Tup k.outs), ArgsG w k us cvs bx ls x → k.fn x = some y → Calls P f us.toArray w (Ret fun u w' => OutG w k bx cvs ls y u w')
def okMode : Mode × Bool × List CT → Bool
  | (.P ws, _, cs) => Nat.beq ws.length cs.length
  | _ => true
def Con.ok (k : Con) : Bool := !k.allB && (k.modes.all okMode && (sameCs (ctsOf k.modes) k.ins && (Nat.ble k.ins.length 500 && Nat.ble k.modes.length 500)))

/-! ### objects that are put -/
theorem Sim.put {B : Base} {G : Gh} {h : Heap} {w : World} (s : Sim B G h w) {id : Nat} {o : Obj} {go : GO} {bs : List Nat} (hg : G id = some go) (ho : ORel B G w id o) (hw : ownd o = true) (hh : Held B G h w (obl o go ++ bs)) :
    Sim B G (setO h id o) w ∧ Held B G (setO h id o) w bs := by
  have hd := List.nodup_append.1 hh.nodup
  have get : ∀ j x, getO (setO h id o) j = some x → (j = id ∧ x = o) ∨ (j ≠ id ∧ getO h j = some x) := by
    intro j x hx
    rw [getO_setO] at hx
    by_cases e : id = j
    · rw [if_pos e] at hx; exact .inl ⟨e.symm, by cases hx; rfl⟩
    · rw [if_neg e] at hx; exact .inr ⟨fun x => e x.symm, hx⟩
  refine ⟨⟨fun j x hx => ?_, fun j x g hx hx' hg' => ?_, fun j x g hx hx' hg' b hm => ?_, fun i j x y g g' hij hx hy hx' hy' hgi hgj b hm hm' => ?_, s.os, s.tape, s.output, s.size, s.safe⟩, ⟨hd.2.1, fun b hb => hh.mine b (List.mem_append_right _ hb), fun j x g hx hx' hgj b hb hm => ?_⟩⟩
  · rcases get j x hx with ⟨rfl, rfl⟩ | ⟨hj, hx⟩
    · exact ho
    · exact s.obj j x hx
  · rcases get j x hx with ⟨rfl, rfl⟩ | ⟨hj, hx⟩
    · rw [hg] at hg'; cases hg'; exact hd.1
    · exact s.nodup j x g hx hx' hg'
  · rcases get j x hx with ⟨rfl, rfl⟩ | ⟨hj, hx⟩
    · rw [hg] at hg'; cases hg'; exact hh.mine b (List.mem_append_left _ hm)
    · exact s.mine j x g hx hx' hg' b hm
  · rcases get i x hx with ⟨rfl, rfl⟩ | ⟨hi, hx⟩
    · rw [hg] at hgi; cases hgi
      rcases get j y hy with ⟨rfl, rfl⟩ | ⟨hj, hy⟩
      · exact hij rfl
      · exact hh.apart j y g' hy hy' hgj b (List.mem_append_left _ hm) hm'
    · have hx2 := hx
      clear hx
      rcases get j y hy with ⟨rfl, rfl⟩ | ⟨hj, hy⟩
      · rw [hg] at hgj; cases hgj; exact hh.apart i x g hx2 hx' hgi b (List.mem_append_left _ hm') hm
      · exact s.apart i j x y g g' hij hx2 hy hx' hy' hgi hgj b hm hm'
  · rcases get j x hx with ⟨rfl, rfl⟩ | ⟨hj, hx⟩
    · rw [hg] at hgj; cases hgj; exact hd.2.2 b hm b hb rfl
    · exact hh.apart j x g hx hx' hgj b (List.mem_append_right _ hb) hm
theorem Sim.putRo {B : Base} {G : Gh} {h : Heap} {w : World} (s : Sim B G h w) {id : Nat} {o : Obj} {bs : List Nat} (ho : ORel B G w id o) (hw : ownd o = false) (hh : Held B G h w bs) :
    Sim B G (setO h id o) w ∧ Held B G (setO h id o) w bs := by
  have get : ∀ j x, getO (setO h id o) j = some x → (j = id ∧ x = o) ∨ (j ≠ id ∧ getO h j = some x) := by
    intro j x hx
    rw [getO_setO] at hx
    by_cases e : id = j
    · rw [if_pos e] at hx; exact .inl ⟨e.symm, by cases hx; rfl⟩
    · rw [if_neg e] at hx; exact .inr ⟨fun x => e x.symm, hx⟩
  have no : ∀ {P : Prop} {x : Obj}, x = o → ownd x = true → P := fun e h => by rw [e, hw] at h; cases h
  refine ⟨⟨fun j x hx => ?_, fun j x g hx hx' hg' => ?_, fun j x g hx hx' hg' b hm => ?_, fun i j x y g g' hij hx hy hx' hy' hgi hgj b hm hm' => ?_, s.os, s.tape, s.output, s.size, s.safe⟩, ⟨hh.nodup, hh.mine, fun j x g hx hx' hgj b hb hm => ?_⟩⟩
  · rcases get j x hx with ⟨rfl, rfl⟩ | ⟨hj, hx⟩
    · exact ho
    · exact s.obj j x hx
  · rcases get j x hx with ⟨_, e⟩ | ⟨hj, hx⟩
    · exact no e hx'
    · exact s.nodup j x g hx hx' hg'
  · rcases get j x hx with ⟨_, e⟩ | ⟨hj, hx⟩
    · exact no e hx'
    · exact s.mine j x g hx hx' hg' b hm
  · rcases get i x hx with ⟨_, e⟩ | ⟨hi, hx2⟩
    · exact no e hx'
    · rcases get j y hy with ⟨_, e⟩ | ⟨hj, hy⟩
      · exact no e hy'
      · exact s.apart i j x y g g' hij hx2 hy hx' hy' hgi hgj b hm hm'
  · rcases get j x hx with ⟨_, e⟩ | ⟨hj, hx⟩
    · exact no e hx'
    · exact hh.apart j x g hx hx' hgj b hb hm
structure Piece where
  id : Nat
  o : Obj
  go : GO
def Piece.bl (t : Piece) : List Nat := bif ownd t.o then obl t.o t.go else []
theorem Sim.puts {B : Base} {G : Gh} {w : World} (s : Sim B G [] w) : ∀ (T : List Piece) (bs : List Nat), (∀ t ∈ T, G t.id = some t.go ∧ ORel B G w t.id t.o) → Held B G [] w (T.flatMap Piece.bl ++ bs) →
    Sim B G (sortH (T.map fun t => (t.id, t.o))) w ∧ Held B G (sortH (T.map fun t => (t.id, t.o))) w bs
  | [], bs, _, hh => ⟨s, hh⟩
  | t :: T, bs, ht, hh => by
    obtain ⟨s1, h1⟩ := Sim.puts s T (t.bl ++ bs) (fun u hu => ht u (.tail _ hu)) (hh.perm (by
      simp only [List.flatMap_cons]
      rw [← List.append_assoc]
      exact (List.perm_append_comm).append_right bs))
    simp only [List.map_cons, sortH]
    have h2 := ht t (.head _)
    unfold Piece.bl at h1
    cases hw : ownd t.o with
    | true =>
      rw [hw, cond_true] at h1
      exact s1.put h2.1 h2.2 hw h1
    | false =>
      rw [hw, cond_false, List.nil_append] at h1
      exact s1.putRo h2.2 hw h1
end Go.Abs

namespace Go.Abs
set_option linter.unusedSimpArgs false
set_option linter.unusedVariables false
open Go.RowKit

/-! ### cells that move, with their layouts -/
def RefL (G : Gh) : List AV → List L → Prop
  | [], [] => True
  | a :: as, l :: ls => (∀ id, a = .ref id [] none → G id = some (.row l)) ∧ RefL G as ls
  | _, _ => False
theorem RefL.length {G : Gh} : ∀ {as : List AV} {ls : List L}, RefL G as ls → as.length = ls.length
  | [], [], _ => rfl
  | _ :: _, _ :: _, h => by simp [RefL.length h.2]
  | [], _ :: _, h => h.elim
  | _ :: _, [], h => h.elim
theorem mvCell_soundR {B : Base} {G : Gh} {h : Heap} {w : World} (s : Sim B G h w) {c : CT} {a : AV} {v : Value} (ha : VRelS B G a v) {bs : List Nat} (hh : Held B G h w bs) {d : c.den} {h' : Heap} (hr : (mvCell c a).Has h d h') :
    ∃ l, CellV B.fz w true c d l v ∧ Held B G h' w (bs ++ l.bl) ∧ Sim B G h' w ∧ (∀ i o, getO h' i = some o → getO h i = some o) ∧ ∀ id, a = .ref id [] none → G id = some (.row l) ∧ getO h' id = none := by
  by_cases e : ∃ id, a = .ref id [] none
  · obtain ⟨id, rfl⟩ := e
    cases c with
    | sl r =>
      simp only [mvCell] at hr
      rw [has_getD] at hr
      cases ho : getO h id with
      | none => rw [ho] at hr; exact hr.elim
      | some ob =>
        rw [ho] at hr
        cases ob with
        | box cs => exact hr.elim
        | robox cs => exact hr.elim
        | part rt cols q x lo hi => exact hr.elim
        | row q x =>
          by_cases e : q.same r = true
          · simp only [dif_pos e] at hr
            rw [has_putD] at hr
            obtain ⟨rfl, rfl⟩ := hr
            obtain ⟨loc, n, hG, rfl⟩ := ha
            obtain ⟨l, kids, hg, hk, hc, hlen, hb, hsub⟩ := s.nav hG ho rfl
            simp only [L.sub, Option.some.injEq] at hsub
            subst hsub
            exact ⟨_, castL_rel e hc, hh.take s ho rfl hg (List.Sublist.refl _), s.heap (del_sub h id), del_sub h id, fun id' h => by cases h; exact ⟨hg, by show getO (delO h id) id = none; rw [getO_delO, if_pos rfl]⟩⟩
          · simp only [dif_neg e] at hr; exact hr.elim
    | int k => exact hr.elim
    | bool => exact hr.elim
    | str => exact hr.elim
    | nl q0 => exact hr.elim
    | vs q0 => exact hr.elim
  · obtain ⟨l, h1, h2, h3, h4⟩ := mvCell_sound s ha hh hr
    exact ⟨l, h1, h2, h3, h4, fun id h => absurd ⟨id, h⟩ e⟩
theorem mvCellP_soundR {B : Base} {G : Gh} {h : Heap} {w : World} (s : Sim B G h w) {c : CT} {a : AV} {v : Value} (ha : VRelS B G a v) {bs : List Nat} (hh : Held B G h w bs) {d : c.den} {h' : Heap} (hr : (mvCellP c a).Has h d h') :
    ∃ l, CellV B.fz w true c d l v ∧ Held B G h' w (bs ++ l.bl) ∧ Sim B G h' w ∧ HSub h' h ∧ ∀ id, a = .ref id [] none → G id = some (.row l) ∧ getO h' id = none := by
  by_cases e : ∃ id, a = .ref id [] none
  · obtain ⟨id, rfl⟩ := e
    have hr : (mvCell c (.ref id [] none)).Has h d h' := by cases c <;> exact hr
    obtain ⟨l, h1, h2, h3, h4, h5⟩ := mvCell_soundR s ha hh hr
    exact ⟨l, h1, h2, h3, .of h4, h5⟩
  · obtain ⟨l, h1, h2, h3, h4⟩ := mvCellP_sound s ha hh hr
    exact ⟨l, h1, h2, h3, h4, fun id h => absurd ⟨id, h⟩ e⟩
theorem inTup_moveR {B : Base} {G : Gh} {w : World} : ∀ (cs : List CT) (as : List AV) (vs : List Value) (h : Heap) (bs : List Nat) (x : Tup cs) (h' : Heap), Sim B G h w → VRelL B G as vs → Held B G h w bs → (inTupP cs as).Has h x h' →
    ∃ ls, TupW B.fz w true cs x vs ls ∧ Held B G h' w (bs ++ Ls.bl ls) ∧ Sim B G h' w ∧ HSub h' h ∧ RefL G as ls
  | [], as, vs, h, bs, x, h', s, hv, hh, hr => by
    match as, hv, hr with
    | [], hv, hr =>
      rw [inTupP_e0] at hr
      have := hv.nil
      subst this
      obtain ⟨_, rfl⟩ := hr
      exact ⟨[], ⟨rfl, rfl⟩, by simpa [Ls.bl] using hh, s, .refl _, trivial⟩
    | _ :: _, hv, hr => rw [inTupP_e0s] at hr; exact hr.elim
  | [c], as, vs, h, bs, x, h', s, hv, hh, hr => by
    match as, hv, hr with
    | [], hv, hr => rw [inTupP_e1n] at hr; exact hr.elim
    | [a], hv, hr =>
      obtain ⟨v, rfl, hv1⟩ := hv.one
      have hr : (mvCellP c a).Has h x h' := hr
      obtain ⟨l, h1, h2, h3, h4, h5⟩ := mvCellP_soundR s hv1 hh hr
      exact ⟨[l], ⟨v, l, rfl, rfl, h1⟩, by simpa [Ls.bl] using h2, h3, h4, fun id e => (h5 id e).1, trivial⟩
    | _ :: _ :: _, hv, hr => rw [inTupP_e12] at hr; exact hr.elim
  | c :: d :: cs, as, vs, h, bs, x, h', s, hv, hh, hr => by
    match as, hv, hr with
    | [], hv, hr => rw [inTupP_e2n] at hr; exact hr.elim
    | a :: as, hv, hr =>
      obtain ⟨v, vs', rfl, hv1, hv2⟩ := hv.cons
      rw [inTupP_e2] at hr
      obtain ⟨y, h1, hr1, hr2⟩ := (DH.has_andThen _ _ _ _ _).1 hr
      obtain ⟨z, h2, hr3, hr4⟩ := (DH.has_andThen _ _ _ _ _).1 hr2
      have hr1 : (mvCellP c a).Has h y h1 := hr1
      obtain ⟨l, k1, k2, k3, k4, k0⟩ := mvCellP_soundR s hv1 hh hr1
      obtain ⟨ls, k5, k6, k7, k8, k9⟩ := inTup_moveR (d :: cs) as vs' h1 (bs ++ l.bl) z h2 k3 hv2 k2 hr3
      obtain ⟨rfl, rfl⟩ := hr4
      exact ⟨l :: ls, ⟨v, l, vs', ls, rfl, rfl, k1, k5⟩, by simp only [Ls.bl]; rw [← List.append_assoc]; exact k6, k7, k4.trans k8, fun id e => (k0 id e).1, k9⟩

/-! ### the objects at the entry -/
def tCell (j : Nat) (k : CK) (c : CT) (x : c.den) (l : L) : List Piece :=
  match c, x with
  | .sl r, x => match k with
    | .B => []
    | .O => [⟨j, .row r x, .row l⟩]
    | .U => [⟨1000 + j, .row r x, .row l⟩]
  | _, _ => []
def tTup : Nat → List CK → (cs : List CT) → Tup cs → List L → List Piece
  | j, k :: _, [c], x, l :: _ => tCell j k c x l
  | j, k :: ks, c :: d :: cs, x, l :: ls => tCell j k c x.1 l ++ tTup (j + 1) ks (d :: cs) x.2 ls
  | _, _, _, _, _ => []
def GK (G : Gh) (j : Nat) (ks : List CK) (ls : List L) : Prop := ∀ i k l, ks[i]? = some k → ls[i]? = some l → (k = .O → G (j + i) = some (.row l)) ∧ (k = .U → G (1000 + j + i) = some (.row l))
theorem GK.tail {G : Gh} {j : Nat} {k : CK} {l : L} {ks : List CK} {ls : List L} (h : GK G j (k :: ks) (l :: ls)) : GK G (j + 1) ks ls := fun i k' l' h1 h2 => by
  have := h (i + 1) k' l' (by simpa using h1) (by simpa using h2)
  rw [show j + 1 + i = j + (i + 1) by omega, show 1000 + (j + 1) + i = 1000 + j + (i + 1) by omega]
  exact this
structure MixF (B : Base) (G : Gh) (T : List Piece) (h : Heap) (own : List Nat) (as : List AV) (vs : List Value) : Prop where
  heap : T.map (fun t => (t.id, t.o)) = h
  bl : T.flatMap Piece.bl = own
  ok : ∀ t ∈ T, G t.id = some t.go ∧ ORel B G B.w0 t.id t.o
  rel : VRelL B G as vs
theorem mix_cell {B : Base} {G : Gh} {j : Nat} {k : CK} {c : CT} {x : c.den} {l : L} {v : Value} (h : CellV F0 B.w0 k.own c x l v) (hO : k = .O → G j = some (.row l)) (hU : k = .U → G (1000 + j) = some (.row l)) (hs : k.own = false → ∀ b ∈ l.bl, B.safe b) (ht : B.tok j = v) (hj : j < 500) :
    MixF B G (tCell j k c x l) (mixCell j k c x).2 (bif k.own then l.bl else []) [(mixCell j k c x).1] [v] := by
  cases k with
  | B =>
    refine ⟨?_, ?_, fun t ht => ?_, bor_one h (hs rfl) ht (by omega), trivial⟩
    · cases c <;> rfl
    · cases c <;> rfl
    · cases c <;> cases ht
  | O =>
    cases c with
    | int k => exact ⟨rfl, by rw [h.1]; rfl, fun t ht => (by cases ht), h.2, trivial⟩
    | bool => exact ⟨rfl, by rw [h.1]; rfl, fun t ht => (by cases ht), h.2, trivial⟩
    | str => exact ⟨rfl, by rw [h.1]; rfl, fun t ht => (by cases ht), h.2, trivial⟩
    | nl q0 => exact ⟨rfl, by rw [h.1]; rfl, fun t ht => (by cases ht), h.2, trivial⟩
    | vs q0 => exact h.2.1.elim
    | sl r =>
      refine ⟨rfl, by simp [tCell, Piece.bl, ownd, obl, GO.bl, CK.own], fun t ht => ?_, ?_, trivial⟩
      · simp only [tCell, List.mem_singleton] at ht
        subst ht
        exact ⟨hO rfl, l, v, hO rfl, CellV.of0 h⟩
      · obtain ⟨loc, kids, rfl, hv, hk, _⟩ := h
        refine ref_iff.2 ⟨_, hO rfl, loc, kids.length, rfl, ?_⟩
        rw [hk]; exact hv
  | U =>
    cases c with
    | int k => exact ⟨rfl, by rw [h.1]; rfl, fun t ht => (by cases ht), h.2, trivial⟩
    | bool => exact ⟨rfl, by rw [h.1]; rfl, fun t ht => (by cases ht), h.2, trivial⟩
    | str => exact ⟨rfl, by rw [h.1]; rfl, fun t ht => (by cases ht), h.2, trivial⟩
    | nl q0 => exact ⟨rfl, by rw [h.1]; rfl, fun t ht => (by cases ht), h.2, trivial⟩
    | vs q0 => exact h.2.1.elim
    | sl r =>
      refine ⟨rfl, by simp [tCell, Piece.bl, ownd, obl, GO.bl, CK.own], fun t ht => ?_, ?_, trivial⟩
      · simp only [tCell, List.mem_singleton] at ht
        subst ht
        exact ⟨hU rfl, l, v, hU rfl, CellV.of0 h⟩
      · obtain ⟨loc, kids, rfl, hv, hk, _⟩ := h
        refine ref_iff.2 ⟨_, hU rfl, loc, kids.length, rfl, ?_⟩
        rw [hk]; exact hv
theorem MixF.append {B : Base} {G : Gh} {T T' : List Piece} {h h' : Heap} {o o' : List Nat} {as as' : List AV} {vs vs' : List Value} (x : MixF B G T h o as vs) (y : MixF B G T' h' o' as' vs') : MixF B G (T ++ T') (h ++ h') (o ++ o') (as ++ as') (vs ++ vs') :=
  ⟨by rw [List.map_append, x.heap, y.heap], by rw [List.flatMap_append, x.bl, y.bl], fun t ht => (List.mem_append.1 ht).elim (x.ok t) (y.ok t), x.rel.append y.rel⟩
theorem mix_facts {B : Base} {G : Gh} : ∀ (cs : List CT) (ks : List CK) (j : Nat) (x : Tup cs) (ls : List L) (vs : List Value), TupV F0 B.w0 cs x (ks.map CK.own) ls vs → GK G j ks ls → (∀ b ∈ borBl ks ls, B.safe b) → (∀ i v, vs[i]? = some v → B.tok (j + i) = v) → j + cs.length ≤ 500 →
    MixF B G (tTup j ks cs x ls) (mixTup j ks cs x).2 (ownBl ks ls) (mixTup j ks cs x).1 vs
  | [], ks, j, x, ls, vs, h, hG, hs, ht, hl => by
    obtain ⟨h1, rfl, rfl⟩ := h
    have : ks = [] := by simpa using h1
    subst this
    exact ⟨rfl, rfl, fun t ht => (by cases ht), trivial⟩
  | [c], ks, j, x, ls, vs, h, hG, hs, ht, hl => by
    obtain ⟨m, l, v, h1, rfl, rfl, hc⟩ := h
    match ks, h1 with
    | [k], h1 =>
      simp only [List.map_cons, List.map_nil, List.cons.injEq, and_true] at h1
      subst h1
      have hg := hG 0 k l rfl rfl
      have := mix_cell (j := j) hc (by simpa using hg.1) (by simpa using hg.2) (fun ho b hb => hs b (by simp [borBl, ho]; exact hb)) (ht 0 v rfl) (by simp at hl; omega)
      simp only [tTup, mixTup, ownBl, List.append_nil]
      exact this
    | [], h1 => cases h1
    | _ :: _ :: _, h1 => cases h1
  | c :: d :: cs, ks, j, x, ls, vs, h, hG, hs, ht, hl => by
    obtain ⟨m, ms', l, ls', v, vs', h1, rfl, rfl, hc, hr⟩ := h
    match ks, h1 with
    | k :: ks, h1 =>
      simp only [List.map_cons, List.cons.injEq] at h1
      obtain ⟨rfl, rfl⟩ := h1
      have hg := hG 0 k l rfl rfl
      have a := mix_cell (j := j) hc (by simpa using hg.1) (by simpa using hg.2) (fun ho b hb => hs b (by simp only [borBl, ho, cond_false, List.mem_append]; exact .inl hb)) (ht 0 v rfl) (by simp at hl; omega)
      have b := mix_facts (d :: cs) ks (j + 1) x.2 ls' vs' hr hG.tail (fun b hb => hs b (by simp only [borBl, List.mem_append]; exact .inr hb)) (fun i u hu => by
        rw [show j + 1 + i = j + (i + 1) by omega]; exact ht (i + 1) u (by simpa using hu)) (by simp at hl ⊢; omega)
      simp only [tTup, mixTup, ownBl]
      exact a.append b
    | [], h1 => cases h1

def tBox : Modes → Nat → List AV → List (Option Nat) → List Piece
  | (m, _, cs) :: ms, j, xs, ob :: bx => (match m, ob with
      | .Q, some b => [⟨500 + j, .robox (xs.take cs.length), .box b⟩]
      | .P _, some b => [⟨500 + j, .box (xs.take cs.length), .box b⟩]
      | _, _ => []) ++ tBox ms (j + 1) (xs.drop cs.length) bx
  | _, _, _, _ => []
structure BoxF (B : Base) (G : Gh) (T : List Piece) (h : Heap) (own : List Nat) (as : List AV) (us : List Value) : Prop where
  heap : T.map (fun t => (t.id, t.o)) = h
  bl : T.flatMap Piece.bl = own
  ok : ∀ t ∈ T, G t.id = some t.go ∧ ORel B G B.w0 t.id t.o
  rel : VRelF B G as us
theorem box_facts {B : Base} {G : Gh} : ∀ (ms : Modes) (j : Nat) (us cvs : List Value) (bx : List (Option Nat)) (xs : List AV), ArgV B.w0 ms us cvs bx → VRelL B G xs cvs → (∀ i b, bx[i]? = some (some b) → G (500 + j + i) = some (.box b)) → (∀ b ∈ qB ms bx, B.safe b) →
    BoxF B G (tBox ms j xs bx) (entryG ms j xs).2 (mineB ms bx) (entryG ms j xs).1 us
  | [], j, us, cvs, bx, xs, h, hv, hG, hq => by
    obtain ⟨rfl, rfl, rfl⟩ := h
    exact ⟨rfl, rfl, fun t ht => (by cases ht), trivial⟩
  | (m, a, cs) :: ms, j, us, cvs, bx, xs, h, hv, hG, hq => by
    obtain ⟨u, us', own, rest, ob, bx', rfl, rfl, h1, rfl, hu, hr⟩ := h
    have hd := VRelL.drop cs.length hv
    have e1 : (own ++ rest).drop cs.length = rest := by rw [← h1]; simp
    rw [e1] at hd
    have ht := VRelL.take cs.length hv
    have e2 : (own ++ rest).take cs.length = own := by rw [← h1]; simp
    rw [e2] at ht
    have ih := box_facts ms (j + 1) us' rest bx' (xs.drop cs.length) hr hd (fun i b hb => by
      rw [show 500 + (j + 1) + i = 500 + j + (i + 1) by omega]; exact hG (i + 1) b (by simpa using hb)) (fun b hb => hq b (by simp only [qB, List.mem_append]; exact .inr hb))
    have plain : ob = none → u = (if a then .agg own.toArray else own.headD undef) → (a = false → own.length = 1) → (∀ ob', tBox ((m, a, cs) :: ms) j xs (none :: ob') = tBox ms (j + 1) (xs.drop cs.length) ob') → entryG ((m, a, cs) :: ms) j xs = (mkV a (xs.take cs.length) :: (entryG ms (j + 1) (xs.drop cs.length)).1, (entryG ms (j + 1) (xs.drop cs.length)).2) →
        BoxF B G (tBox ((m, a, cs) :: ms) j xs (ob :: bx')) (entryG ((m, a, cs) :: ms) j xs).2 (mineB ((m, a, cs) :: ms) (ob :: bx')) (entryG ((m, a, cs) :: ms) j xs).1 (u :: us') := by
      intro h2 h3 h4 h5 h6
      subst h2
      rw [h5, h6]
      refine ⟨ih.heap, ?_, ih.ok, ?_, ih.rel⟩
      · rw [ih.bl]; cases m <;> rfl
      · rw [h3]; exact shape_mk ht h4
    cases m with
    | B => exact plain hu.1 hu.2.1 hu.2.2 (fun _ => rfl) rfl
    | I => exact plain hu.1 hu.2.1 hu.2.2 (fun _ => rfl) rfl
    | M => exact plain hu.1 hu.2.1 hu.2.2 (fun _ => rfl) rfl
    | Q =>
      obtain ⟨b, rfl, rfl, hc⟩ := hu
      have hg := hG 0 b rfl
      refine ⟨?_, ?_, ?_, ⟨b, hg, rfl⟩, ih.rel⟩
      · simp only [tBox, entryG, List.map_append, ih.heap]; rfl
      · simp only [tBox, mineB, List.flatMap_append, ih.bl]; rfl
      · intro t ht'
        simp only [tBox, List.singleton_append, List.mem_cons] at ht'
        rcases ht' with rfl | ht'
        · exact ⟨hg, b, own, hg, hq b (by simp [qB, Mode.isP]), hc, ht⟩
        · exact ih.ok t ht'
    | P ws =>
      obtain ⟨b, e, rfl, rfl, hc⟩ := hu
      have hg := hG 0 b rfl
      refine ⟨?_, ?_, ?_, ⟨b, hg, rfl⟩, ih.rel⟩
      · simp only [tBox, entryG, List.map_append, ih.heap]; rfl
      · simp only [tBox, mineB, List.flatMap_append, ih.bl]; rfl
      · intro t ht'
        simp only [tBox, List.singleton_append, List.mem_cons] at ht'
        rcases ht' with rfl | ht'
        · exact ⟨hg, b, own.toArray, e, hg, hc, ht⟩
        · exact ih.ok t ht'
end Go.Abs

namespace Go.Abs
set_option linter.unusedSimpArgs false
set_option linter.unusedVariables false
open Go.RowKit

/-! ### the cells at the end -/
structure CH (B : Base) (G' : Gh) (k : CK) (c : CT) (x : AV) (v : Value) (l : L) : Prop where
  rel : k = .O → c.isS = true → VRelS B G' x v
  top : k = .O → c.isS = true → ∃ id, x = .ref id [] none ∧ ∀ l', G' id = some (.row l') → TopS l l'
  tok : ∀ t r d, x = .bor (some t) r d → v = B.tok t
def CHs (B : Base) (G' : Gh) : List CK → List CT → List AV → List Value → List L → Prop
  | [], [], [], [], [] => True
  | k :: ks, c :: cs, x :: xs, v :: vs, l :: ls => CH B G' k c x v l ∧ CHs B G' ks cs xs vs ls
  | _, _, _, _, _ => False
theorem CHs.cons {B : Base} {G' : Gh} {k : CK} {c : CT} {ks : List CK} {cs : List CT} {xs : List AV} {vs : List Value} {ls : List L} (h : CHs B G' (k :: ks) (c :: cs) xs vs ls) :
    ∃ x xs' v vs' l ls', xs = x :: xs' ∧ vs = v :: vs' ∧ ls = l :: ls' ∧ CH B G' k c x v l ∧ CHs B G' ks cs xs' vs' ls' := by
  match xs, vs, ls, h with
  | x :: xs, v :: vs, l :: ls, h => exact ⟨x, xs, v, vs, l, ls, rfl, rfl, rfl, h.1, h.2⟩
theorem CHs.nil {B : Base} {G' : Gh} {xs : List AV} {vs : List Value} {ls : List L} (h : CHs B G' [] [] xs vs ls) : xs = [] ∧ vs = [] ∧ ls = [] := by
  match xs, vs, ls, h with
  | [], [], [], h => exact ⟨rfl, rfl, rfl⟩
theorem CHs.split {B : Base} {G' : Gh} : ∀ {k1 k2 : List CK} {c1 c2 : List CT} {xs : List AV} {vs : List Value} {ls : List L}, k1.length = c1.length → CHs B G' (k1 ++ k2) (c1 ++ c2) xs vs ls →
    CHs B G' k1 c1 (xs.take c1.length) (vs.take c1.length) (ls.take c1.length) ∧ CHs B G' k2 c2 (xs.drop c1.length) (vs.drop c1.length) (ls.drop c1.length)
  | [], k2, [], c2, xs, vs, ls, _, h => ⟨trivial, h⟩
  | k :: k1, k2, c :: c1, c2, xs, vs, ls, hl, h => by
    obtain ⟨x, xs', v, vs', l, ls', rfl, rfl, rfl, h1, h2⟩ := h.cons
    have ih := CHs.split (k1 := k1) (c1 := c1) (by simpa using hl) h2
    exact ⟨⟨h1, ih.1⟩, ih.2⟩
  | [], _, _ :: _, _, _, _, _, hl, _ => by cases hl
  | _ :: _, _, [], _, _, _, _, hl, _ => by cases hl
theorem mix_CH1 {B : Base} {G G' : Gh} {j : Nat} {k : CK} {c : CT} {x : c.den} {l : L} {v : Value} (h : CellV F0 B.w0 k.own c x l v) (hO : k = .O → G j = some (.row l)) (ht : B.tok j = v) (hj : j < 500)
    (hv : ∀ x u, AV.top x = true → (∀ i ∈ x.idsS, i < 1000) → VRelS B G x u → VRelS B G' x u) : CH B G' k c (mixCell j k c x).1 v l := by
  cases k with
  | B =>
    refine ⟨fun h => (by cases h), fun h => (by cases h), fun t r d e => ?_⟩
    cases c with
    | sl q =>
      simp only [mixCell, borCell] at e
      cases e
      exact ht.symm
    | int k => cases e
    | bool => cases e
    | str => cases e
    | nl q0 => cases e
    | vs q0 => cases e
  | U =>
    refine ⟨fun h => (by cases h), fun h => (by cases h), fun t r d e => ?_⟩
    cases c <;> cases e
  | O =>
    cases c with
    | int k => exact ⟨fun _ h => (by cases h), fun _ h => (by cases h), fun t r d e => (by cases e)⟩
    | bool => exact ⟨fun _ h => (by cases h), fun _ h => (by cases h), fun t r d e => (by cases e)⟩
    | str => exact ⟨fun _ h => (by cases h), fun _ h => (by cases h), fun t r d e => (by cases e)⟩
    | nl q0 => exact ⟨fun _ h => (by cases h), fun _ h => (by cases h), fun t r d e => (by cases e)⟩
    | vs q0 => exact ⟨fun _ h => (by cases h), fun _ h => (by cases h), fun t r d e => (by cases e)⟩
    | sl r =>
      have hg := hO rfl
      refine ⟨fun _ _ => ?_, fun _ _ => ⟨j, rfl, fun l' hl' => TopS.of hg hl' (fun view v => hv _ _ rfl fun i hi => ?_) fun i c v => hv _ _ rfl fun i hi => ?_⟩, fun t r d e => (by cases e)⟩
      · obtain ⟨loc, kids, rfl, hv', hk, _⟩ := h
        refine hv (.ref j [] none) v rfl (fun i hi => ?_) (ref_iff.2 ⟨_, hg, loc, kids.length, rfl, ?_⟩)
        · simp [AV.idsS] at hi; omega
        · rw [hk]; exact hv'
      · simp [AV.idsS] at hi; omega
      · simp [AV.idsS] at hi; omega
theorem mix_CH {B : Base} {G G' : Gh} (hv : ∀ x u, AV.top x = true → (∀ i ∈ x.idsS, i < 1000) → VRelS B G x u → VRelS B G' x u) : ∀ (cs : List CT) (ks : List CK) (j : Nat) (x : Tup cs) (ls : List L) (vs : List Value), TupV F0 B.w0 cs x (ks.map CK.own) ls vs → GK G j ks ls → (∀ i v, vs[i]? = some v → B.tok (j + i) = v) → j + cs.length ≤ 500 →
    CHs B G' ks cs (mixTup j ks cs x).1 vs ls
  | [], ks, j, x, ls, vs, h, hG, ht, hl => by
    obtain ⟨h1, rfl, rfl⟩ := h
    have : ks = [] := by simpa using h1
    subst this
    exact trivial
  | [c], ks, j, x, ls, vs, h, hG, ht, hl => by
    obtain ⟨m, l, v, h1, rfl, rfl, hc⟩ := h
    match ks, h1 with
    | [k], h1 =>
      simp only [List.map_cons, List.map_nil, List.cons.injEq, and_true] at h1
      subst h1
      have hg := hG 0 k l rfl rfl
      exact ⟨mix_CH1 hc (by simpa using hg.1) (ht 0 v rfl) (by simp at hl; omega) hv, trivial⟩
    | [], h1 => cases h1
    | _ :: _ :: _, h1 => cases h1
  | c :: d :: cs, ks, j, x, ls, vs, h, hG, ht, hl => by
    obtain ⟨m, ms', l, ls', v, vs', h1, rfl, rfl, hc, hr⟩ := h
    match ks, h1 with
    | k :: ks, h1 =>
      simp only [List.map_cons, List.cons.injEq] at h1
      obtain ⟨rfl, rfl⟩ := h1
      have hg := hG 0 k l rfl rfl
      exact ⟨mix_CH1 hc (by simpa using hg.1) (ht 0 v rfl) (by simp at hl; omega) hv, mix_CH hv (d :: cs) ks (j + 1) x.2 ls' vs' hr hG.tail (fun i u hu => by
        rw [show j + 1 + i = j + (i + 1) by omega]; exact ht (i + 1) u (by simpa using hu)) (by simp at hl ⊢; omega)⟩
    | [], h1 => cases h1

theorem RefL.split {G : Gh} : ∀ {a b : List AV} {ls : List L}, RefL G (a ++ b) ls → ∃ l1 l2, ls = l1 ++ l2 ∧ RefL G a l1 ∧ RefL G b l2
  | [], b, ls, h => ⟨[], ls, rfl, trivial, h⟩
  | x :: a, b, [], h => h.elim
  | x :: a, b, l :: ls, h => by
    obtain ⟨l1, l2, rfl, h1, h2⟩ := RefL.split (a := a) h.2
    exact ⟨l :: l1, l2, rfl, ⟨h.1, h1⟩, h2⟩
theorem outs_I {B : Base} {G' : Gh} : ∀ (cs : List CT) (xs : List AV) (vs : List Value) (ls : List L), CHs B G' (List.replicate cs.length .O) cs xs vs ls → VRelL B G' (slOf cs xs) (slOf cs vs) ∧ ∀ l1, RefL G' (slOf cs xs) l1 → TopL (slOf cs ls) l1
  | [], xs, vs, ls, h => by
    obtain ⟨rfl, rfl, rfl⟩ := h.nil
    refine ⟨trivial, fun l1 h => ?_⟩
    cases l1 with
    | nil => trivial
    | cons a b => exact h.elim
  | c :: cs, xs, vs, ls, h => by
    obtain ⟨x, xs', v, vs', l, ls', rfl, rfl, rfl, h1, h2⟩ := h.cons
    have ih := outs_I cs xs' vs' ls' h2
    simp only [slOf]
    cases hc : c.isS with
    | false => exact ih
    | true =>
      simp only [cond_true]
      refine ⟨⟨h1.rel rfl hc, ih.1⟩, fun l1 hr => ?_⟩
      match l1, hr with
      | l' :: l1, hr =>
        obtain ⟨id, rfl, ht⟩ := h1.top rfl hc
        exact ⟨ht l' (hr.1 id rfl), ih.2 l1 hr.2⟩
      | [], hr => exact hr.elim
theorem outs_P {B : Base} {G G' : Gh} : ∀ (ws : List Bool) (ys xs : List AV) (zs vs : List Value), keptK ws ys xs = true → VRelL B G' ys zs → (∀ (i t : Nat) (r : RT) (d : List r.den) (v : Value), xs[i]? = some (AV.bor (some t) r d) → vs[i]? = some v → v = B.tok t) → vs.length = ws.length →
    VRelL B G' (selT ws ys) (selT ws zs) ∧ (selT ws zs).length = cnt ws ∧ zs = mrg ws vs (selT ws zs)
  | [], [], [], zs, vs, hk, hv, ht, hl => by
    have := hv.nil
    subst this
    have : vs = [] := List.eq_nil_of_length_eq_zero hl
    subst this
    exact ⟨trivial, rfl, rfl⟩
  | w :: ws, y :: ys, x :: xs, zs, vs, hk, hv, ht, hl => by
    obtain ⟨z, zs', rfl, hv1, hv2⟩ := hv.cons
    simp only [keptK, Bool.and_eq_true] at hk
    match vs, hl with
    | v :: vs, hl =>
      have ih := outs_P (B := B) (G := G) ws ys xs zs' vs hk.2 hv2 (fun i t r d u h1 h2 => ht (i + 1) t r d u (by simpa using h1) (by simpa using h2)) (by simpa using hl)
      cases w with
      | true => exact ⟨⟨hv1, ih.1⟩, by simp [selT, cnt, ih.2.1], by simp only [selT, cond_true, mrg]; rw [← ih.2.2]⟩
      | false =>
        refine ⟨ih.1, ih.2.1, ?_⟩
        simp only [selT, cond_false, mrg]
        rw [← ih.2.2]
        congr 1
        have h1 := hk.1
        simp only [Bool.false_or] at h1
        split at h1
        · rename_i a r d b r' d'
          have e := (beq_iff _ _).1 h1
          subst e
          have hz : z = B.tok a := (hv1.2 a rfl).1
          rw [hz, ht 0 a r' d' v rfl rfl]
        · cases h1
    | [], hl => cases hl
  | [], [], _ :: _, zs, vs, hk, _, _, _ => by cases hk
  | [], _ :: _, _, zs, vs, hk, _, _, _ => by cases hk
  | _ :: _, [], _, zs, vs, hk, _, _, _ => by cases hk
  | _ :: _, _ :: _, [], zs, vs, hk, _, _, _ => by cases hk
theorem CHs.tokAt {B : Base} {G' : Gh} : ∀ {ks : List CK} {cs : List CT} {xs : List AV} {vs : List Value} {ls : List L}, CHs B G' ks cs xs vs ls → ∀ (i t : Nat) (r : RT) (d : List r.den) (v : Value), xs[i]? = some (AV.bor (some t) r d) → vs[i]? = some v → v = B.tok t
  | [], [], xs, vs, ls, h, i, t, r, d, v, h1, h2 => by
    obtain ⟨rfl, rfl, rfl⟩ := h.nil
    cases h1
  | k :: ks, c :: cs, xs, vs, ls, h, i, t, r, d, v, h1, h2 => by
    obtain ⟨x, xs', u, vs', l, ls', rfl, rfl, rfl, h3, h4⟩ := h.cons
    cases i with
    | zero =>
      simp only [List.getElem?_cons_zero, Option.some.injEq] at h1 h2
      subst h2
      exact h3.tok t r d h1
    | succ i => exact CHs.tokAt h4 i t r d v (by simpa using h1) (by simpa using h2)
  | [], _ :: _, xs, vs, ls, h, _, _, _, _, _, _, _ => by cases xs <;> cases vs <;> cases ls <;> exact h.elim
  | _ :: _, [], xs, vs, ls, h, _, _, _, _, _, _, _ => by cases xs <;> cases vs <;> cases ls <;> exact h.elim
theorem ks_length {m : Mode} {a : Bool} {cs : List CT} (h : okMode (m, a, cs) = true) : (m.ks cs.length).length = cs.length := by
  cases m with
  | P ws => simp only [Mode.ks, List.length_map]; exact (beq_iff _ _).1 h
  | _ => simp [Mode.ks]

theorem outs_G {B : Base} {G' : Gh} {h : Heap} {w w' : World} (s : Sim B G' h w') : ∀ (ms : Modes) (j : Nat) (us vs : List Value) (bx : List (Option Nat)) (xs : List AV) (ls : List L) (ys : List AV) (h1 : Heap), ms.all okMode = true → ArgV w ms us vs bx → CHs B G' (ksOf ms) (ctsOf ms) xs vs ls →
    (∀ i b, bx[i]? = some (some b) → G' (500 + j + i) = some (.box b)) → (outsG ms j xs).Has h ys h1 → h1 = h ∧ ∃ kvs, VRelL B G' ys kvs ∧ ∀ kls, RefL G' ys kls → KeptM w' ms bx vs ls kvs kls
  | [], j, us, vs, bx, xs, ls, ys, h1, hok, ha, hc, hG, hr => by
    obtain ⟨rfl, rfl⟩ := hr
    refine ⟨rfl, [], trivial, fun kls hk => ?_⟩
    cases kls with
    | nil => exact ⟨rfl, rfl⟩
    | cons a b => exact hk.elim
  | (m, a, cs) :: ms, j, us, vs, bx, xs, ls, ys, h1, hok, ha, hc, hG, hr => by
    simp only [List.all_cons, Bool.and_eq_true] at hok
    obtain ⟨u, us', own, rest, ob, bx', rfl, rfl, hl, rfl, hu, ha'⟩ := ha
    have hsp := CHs.split (ks_length hok.1) hc
    have e1 : (own ++ rest).drop cs.length = rest := by rw [← hl]; simp
    have e2 : (own ++ rest).take cs.length = own := by rw [← hl]; simp
    simp only [outsG] at hr
    obtain ⟨r, h2, hr1, hr2⟩ := (DH.has_andThen _ _ _ _ _).1 hr
    rw [e1, e2] at hsp
    obtain ⟨rfl, kvs, hv, hk⟩ := outs_G s ms (j + 1) us' rest bx' (xs.drop cs.length) (ls.drop cs.length) r h2 hok.2 ha' hsp.2 (fun i b hb => by
      rw [show 500 + (j + 1) + i = 500 + j + (i + 1) by omega]; exact hG (i + 1) b (by simpa using hb)) hr1
    have plain : r = ys ∧ h2 = h1 → (∀ kls, KeptM w' ((m, a, cs) :: ms) (ob :: bx') (own ++ rest) ls kvs kls = KeptM w' ms bx' ((own ++ rest).drop cs.length) (ls.drop cs.length) kvs kls) →
        h1 = h2 ∧ ∃ kvs, VRelL B G' ys kvs ∧ ∀ kls, RefL G' ys kls → KeptM w' ((m, a, cs) :: ms) (ob :: bx') (own ++ rest) ls kvs kls := by
      rintro ⟨rfl, rfl⟩ he
      exact ⟨rfl, kvs, hv, fun kls hkl => by rw [he, e1]; exact hk kls hkl⟩
    cases m with
    | B => exact plain hr2 (fun _ => rfl)
    | M => exact plain hr2 (fun _ => rfl)
    | Q => exact plain hr2 (fun _ => rfl)
    | I =>
      obtain ⟨rfl, rfl⟩ := hr2
      obtain ⟨i1, i2⟩ := outs_I cs _ _ _ hsp.1
      refine ⟨rfl, slOf cs own ++ kvs, i1.append hv, fun kls hkl => ?_⟩
      obtain ⟨l1, l2, rfl, g1, g2⟩ := hkl.split
      exact ⟨l1, kvs, l2, by rw [e2], rfl, i2 l1 g1, by rw [e1]; exact hk l2 g2⟩
    | P ws =>
      simp only [has_getD] at hr2
      have hws : ws.length = cs.length := (beq_iff _ _).1 hok.1
      cases ho : getO h2 (500 + j) with
      | none => rw [ho] at hr2; exact hr2.elim
      | some o =>
        rw [ho] at hr2
        cases o with
        | robox _ => exact hr2.elim
        | row _ _ => exact hr2.elim
        | part rt cols r rows lo hi => exact hr2.elim
        | box zs =>
          simp only at hr2
          cases hkk : keptK ws zs (xs.take cs.length) with
          | false => rw [hkk] at hr2; exact hr2.elim
          | true =>
            rw [hkk, cond_true] at hr2
            obtain ⟨rfl, rfl⟩ := hr2
            obtain ⟨b, vals, e, g1, g2, g3⟩ := s.obj _ _ ho
            obtain ⟨b', e', rfl, rfl, hcell⟩ := hu
            have hb := hG 0 b' rfl
            rw [Nat.add_zero, g1] at hb
            cases hb
            obtain ⟨p1, p2, p3⟩ := outs_P (G := G') ws zs (xs.take cs.length) vals.toList own hkk g3 hsp.1.tokAt (by rw [hl, hws])
            refine ⟨rfl, selT ws vals.toList ++ kvs, p1.append hv, fun kls hkl => ?_⟩
            obtain ⟨l1, l2, rfl, q1, q2⟩ := hkl.split
            refine ⟨b, e, _, l1, kvs, l2, rfl, rfl, rfl, p2, ?_, ?_, by rw [e1]; exact hk l2 q2⟩
            · rw [← q1.length, ← p2]; exact p1.length
            · rw [e2, ← p3]; exact g2
theorem alive_has : ∀ {ids : List Nat} {h h' : Heap} {u : Unit}, (alive ids).Has h u h' → h' = h ∧ ∀ id ∈ ids, ∃ o, getO h id = some o
  | [], h, h', u, hr => ⟨hr.2.symm, fun id hi => by cases hi⟩
  | i :: is, h, h', u, hr => by
    simp only [alive] at hr
    rw [has_getD] at hr
    cases ho : getO h i with
    | none => rw [ho] at hr; exact hr.elim
    | some o =>
      rw [ho] at hr
      obtain ⟨rfl, h2⟩ := alive_has hr
      exact ⟨rfl, fun id hi => by rcases List.mem_cons.1 hi with rfl | hi <;> first | exact ⟨o, ho⟩ | exact h2 id hi⟩
theorem outs_boxes {h : Heap} : ∀ (ms : Modes) (j : Nat) (xs ys : List AV) (h1 : Heap), (outsG ms j xs).Has h ys h1 → h1 = h ∧ ∀ id ∈ boxesG ms j, ∃ zs, getO h id = some (.box zs)
  | [], j, xs, ys, h1, hr => ⟨hr.2.symm, fun id hi => by cases hi⟩
  | (m, a, cs) :: ms, j, xs, ys, h1, hr => by
    simp only [outsG] at hr
    obtain ⟨r, h2, hr1, hr2⟩ := (DH.has_andThen _ _ _ _ _).1 hr
    obtain ⟨rfl, ih⟩ := outs_boxes ms (j + 1) _ r h2 hr1
    cases m with
    | P ws =>
      simp only [has_getD] at hr2
      cases ho : getO h2 (500 + j) with
      | none => rw [ho] at hr2; exact hr2.elim
      | some o =>
        rw [ho] at hr2
        cases o with
        | robox _ => exact hr2.elim
        | row _ _ => exact hr2.elim
        | part rt cols r rows lo hi => exact hr2.elim
        | box zs =>
          simp only at hr2
          cases hkk : keptK ws zs (xs.take cs.length) with
          | false => rw [hkk] at hr2; exact hr2.elim
          | true =>
            rw [hkk, cond_true] at hr2
            exact ⟨hr2.2.symm, fun id hi => by rcases List.mem_cons.1 hi with rfl | hi <;> first | exact ⟨zs, ho⟩ | exact ih id hi⟩
    | B => exact ⟨hr2.2.symm, ih⟩
    | M => exact ⟨hr2.2.symm, ih⟩
    | Q => exact ⟨hr2.2.symm, ih⟩
    | I => exact ⟨hr2.2.symm, ih⟩
theorem mineB_box {w : World} : ∀ (ms : Modes) (j : Nat) (us vs : List Value) (bx : List (Option Nat)), ArgV w ms us vs bx → ∀ b ∈ mineB ms bx, ∃ i, bx[i]? = some (some b) ∧ 500 + j + i ∈ boxesG ms j
  | [], j, us, vs, bx, h, b, hb => by cases hb
  | (m, a, cs) :: ms, j, us, vs, bx, h, b, hb => by
    obtain ⟨u, us', own, rest, ob, bx', rfl, rfl, hl, rfl, hu, h'⟩ := h
    have next : b ∈ mineB ms bx' → ∃ i, (ob :: bx')[i]? = some (some b) ∧ 500 + j + i ∈ boxesG ((m, a, cs) :: ms) j := by
      intro hb
      obtain ⟨i, h1, h2⟩ := mineB_box ms (j + 1) us' rest bx' h' b hb
      refine ⟨i + 1, by simpa using h1, ?_⟩
      rw [show 500 + j + (i + 1) = 500 + (j + 1) + i by omega]
      cases m with
      | P ws => exact .tail _ h2
      | _ => exact h2
    simp only [mineB, List.mem_append] at hb
    cases m with
    | P ws =>
      rcases hb with hb | hb
      · simp only [Mode.isP, cond_true, Option.mem_toList] at hb
        cases hb
        exact ⟨0, rfl, .head _⟩
      · exact next hb
    | B => exact next (by simpa [Mode.isP] using hb)
    | M => exact next (by simpa [Mode.isP] using hb)
    | I => exact next (by simpa [Mode.isP] using hb)
    | Q => exact next (by simpa [Mode.isP] using hb)
end Go.Abs

namespace Go.Abs
set_option linter.unusedSimpArgs false
set_option linter.unusedVariables false
open Go.RowKit

/-! ### the callee's side -/
def ghost0 (ks : List CK) (ls : List L) (bx : List (Option Nat)) : Gh := fun id =>
  if id < 500 then (match ks[id]?, ls[id]? with
    | some .O, some l => some (.row l)
    | _, _ => none)
  else if id < 1000 then (match bx[id - 500]? with
    | some (some b) => some (.box b)
    | _ => none)
  else match ks[id - 1000]?, ls[id - 1000]? with
    | some .U, some l => some (.row l)
    | _, _ => none
theorem ghost0_GK {ks : List CK} {ls : List L} {bx : List (Option Nat)} (h : ks.length ≤ 500) : GK (ghost0 ks ls bx) 0 ks ls := by
  intro i k l h1 h2
  have hi : i < ks.length := by
    rcases Nat.lt_or_ge i ks.length with h | h
    · exact h
    · rw [List.getElem?_eq_none h] at h1; cases h1
  refine ⟨fun e => ?_, fun e => ?_⟩
  · subst e
    unfold ghost0
    rw [if_pos (by omega), Nat.zero_add, h1, h2]
  · subst e
    unfold ghost0
    rw [if_neg (by omega), if_neg (by omega), show 1000 + 0 + i - 1000 = i by omega, h1, h2]
theorem ghost0_box {ks : List CK} {ls : List L} {bx : List (Option Nat)} (h : bx.length ≤ 500) (i b : Nat) (hb : bx[i]? = some (some b)) : ghost0 ks ls bx (500 + 0 + i) = some (.box b) := by
  have hi : i < bx.length := by
    rcases Nat.lt_or_ge i bx.length with h | h
    · exact h
    · rw [List.getElem?_eq_none h] at hb; cases hb
  unfold ghost0
  rw [if_neg (by omega), if_pos (by omega), show 500 + 0 + i - 500 = i by omega, hb]
theorem ghost0_free {ks : List CK} {ls : List L} {bx : List (Option Nat)} (id : Nat) (h : 1000 + ks.length ≤ id) : ghost0 ks ls bx id = none := by
  unfold ghost0
  rw [if_neg (by omega), if_neg (by omega), List.getElem?_eq_none (by omega)]
theorem ArgV.length {w : World} : ∀ {ms : Modes} {us cvs : List Value} {bx : List (Option Nat)}, ArgV w ms us cvs bx → bx.length = ms.length
  | [], us, cvs, bx, h => by rw [h.2.2]; rfl
  | (m, a, cs) :: ms, us, cvs, bx, h => by
    obtain ⟨u, us', own, rest, ob, bx', rfl, rfl, h1, rfl, hu, hr⟩ := h
    simp [hr.length]
theorem ksOf_length : ∀ {ms : Modes}, ms.all okMode = true → (ksOf ms).length = (ctsOf ms).length
  | [], _ => rfl
  | (m, a, cs) :: ms, h => by
    simp only [List.all_cons, Bool.and_eq_true] at h
    simp only [ksOf, ctsOf, List.length_append, ksOf_length h.2, ks_length h.1]
theorem ConG.of {P : Program} {fs : Nat → Option Func} {c : Nat → Ctx} (hb : Base0 P fs c) {d f : Nat} (hd : d ≤ 6) {fn : Func} (hfn : fs f = some fn) (hl : ∀ b, fn.body = some b → LoopsS { c f with dep := d } (inlRun fs (fun g => { c g with inl := true }) d) b) {k : Con} (hk : k.ok = true)
    (E : ∀ x, funG fs c d f k x = k.fn x) : ConG P f k := by
  simp only [Con.ok, Bool.and_eq_true] at hk
  obtain ⟨_, hok, hcs, hle1, hle2⟩ := hk
  have hcs := sameCs_eq hcs
  have hkl := ksOf_length hok
  rw [hcs] at hkl
  have hle1 := Nat.le_of_ble_eq_true hle1
  have hle2 := Nat.le_of_ble_eq_true hle2
  refine ⟨(hb.fsS f fn hfn).enters, fun w us cvs bx ls x y ha hy => ?_⟩
  have hr := (E x).trans hy
  unfold funG at hr
  simp only at hr
  unfold bodyG at hr
  rw [hfn] at hr
  simp only at hr
  split at hr
  · cases hr
  · rename_i b hbd
    have hf := hb.fsS f fn hfn
    have hbody := hf.body b hbd
    -- what it leans on
    let B : Base := ⟨P, w, ownBl (ksOf k.modes) ls ++ mineB k.modes bx, fun i => cvs.getD i undef⟩
    let G := ghost0 (ksOf k.modes) ls bx
    have hsafe : ∀ b, B.safe b ↔ b < w.heap.size ∧ b ∉ ownBl (ksOf k.modes) ls ++ mineB k.modes bx := fun b => Iff.rfl
    have hGK : GK G 0 (ksOf k.modes) ls := ghost0_GK (by omega)
    have htok : ∀ i v, cvs[i]? = some v → B.tok (0 + i) = v := fun i v hv => by
      show cvs.getD (0 + i) undef = v
      rw [Nat.zero_add, List.getD_eq_getElem?_getD, hv]; rfl
    have mf := mix_facts (B := B) (G := G) k.ins (ksOf k.modes) 0 x ls cvs ha.cells hGK (fun b hb => (hsafe b).2 (ha.read b (List.mem_append_left _ hb))) htok (by omega)
    have hGB : ∀ i b, bx[i]? = some (some b) → G (500 + 0 + i) = some (.box b) := ghost0_box (by rw [ha.args.length]; omega)
    have bf := box_facts (B := B) (G := G) k.modes 0 us cvs bx _ ha.args mf.rel hGB (fun b hb => (hsafe b).2 (ha.read b (List.mem_append_right _ hb)))
    have hsim0 : Sim B G [] w := ⟨fun id o h => (by cases h), fun id o go h => (by cases h), fun id o go h => (by cases h), fun i j o o' go go' _ h => (by cases h), rfl, rfl, rfl, Nat.le_refl _, fun _ _ => rfl⟩
    have hheld0 : Held B G [] w (ownBl (ksOf k.modes) ls ++ mineB k.modes bx) := ⟨ha.nodup, fun b hb => ⟨ha.own b hb, fun hs => ((hsafe b).1 hs).2 hb⟩, fun id o go h => by cases h⟩
    have hputs := hsim0.puts (tBox k.modes 0 (mixTup 0 (ksOf k.modes) k.ins x).1 bx ++ tTup 0 (ksOf k.modes) k.ins x ls) [] (fun t ht => (List.mem_append.1 ht).elim (bf.ok t) (mf.ok t)) (by
      rw [List.flatMap_append, bf.bl, mf.bl, List.append_nil]
      exact hheld0.perm List.perm_append_comm)
    rw [List.map_append, bf.heap, mf.heap] at hputs
    have hsim := hputs.1
    generalize hH : sortH ((entryG k.modes 0 (mixTup 0 (ksOf k.modes) k.ins x).1).2 ++ (mixTup 0 (ksOf k.modes) k.ins x).2) = H at hsim hr
    generalize hA : (entryG k.modes 0 (mixTup 0 (ksOf k.modes) k.ins x).1).1 = avs at hr
    have hargs : VRelF B G avs us := by rw [← hA]; exact bf.rel
    generalize hX : (mixTup 0 (ksOf k.modes) k.ins x).1 = xs at hr
    obtain ⟨⟨ex, s1⟩, h1, h2⟩ := (D.has_andThen _ _ _).1 (D.has_of_run _ _ hr)
    have fin : ((((getRes (c f).tb s1.env fn.results.toList).andThen fun rs => (outsG k.modes 0 xs).andThen fun ys =>
          bif shapesV k.res rs && k.outs.all CT.noVs then (inTupP k.outs (rs.flatMap AV.flat ++ ys)).andThen fun y => (alive (boxesG k.modes 0)).andThen fun _ => .ret y else .fail).go s1.heap log0).andThen fun (y, _, _) => .ret y : D (Tup k.outs)).Has y →
        ∃ rs g1 ys g2 h', (getRes (c f).tb s1.env fn.results.toList).Has s1.heap rs g1 ∧ (outsG k.modes 0 xs).Has g1 ys g2 ∧ (shapesV k.res rs && k.outs.all CT.noVs) = true ∧ (inTupP k.outs (rs.flatMap AV.flat ++ ys)).Has g2 y h' ∧ ∀ id ∈ boxesG k.modes 0, ∃ o, getO h' id = some o := by
      intro h3
      obtain ⟨⟨y', h4, l⟩, h5, h6⟩ := (D.has_andThen _ _ _).1 h3
      have h6 : y' = y := h6
      subst h6
      have h7 := DH.has_of_go _ _ _ _ _ _ h5
      obtain ⟨rs, g1, g2, g3⟩ := (DH.has_andThen _ _ _ _ _).1 h7
      obtain ⟨ys, g4, g5, g6⟩ := (DH.has_andThen _ _ _ _ _).1 g3
      cases hsh : (shapesV k.res rs && k.outs.all CT.noVs) with
      | false => rw [hsh] at g6; exact g6.elim
      | true =>
        rw [hsh, cond_true] at g6
        obtain ⟨y2, g7, g8, g9⟩ := (DH.has_andThen _ _ _ _ _).1 g6
        obtain ⟨u2, g10, g11, g12⟩ := (DH.has_andThen _ _ _ _ _).1 g9
        obtain ⟨rfl, rfl⟩ := g12
        obtain ⟨rfl, g13⟩ := alive_has g11
        exact ⟨rs, g1, ys, g4, g10, g2, g5, hsh, g8, g13⟩
    have hx : (ex = .normal ∨ ex = .ret) ∧ ∃ rs g1 ys g2 h', (getRes (c f).tb s1.env fn.results.toList).Has s1.heap rs g1 ∧ (outsG k.modes 0 xs).Has g1 ys g2 ∧ (shapesV k.res rs && k.outs.all CT.noVs) = true ∧ (inTupP k.outs (rs.flatMap AV.flat ++ ys)).Has g2 y h' ∧ ∀ id ∈ boxesG k.modes 0, ∃ o, getO h' id = some o := by
      cases ex with
      | exit i => exact h2.elim
      | normal => exact ⟨.inl rfl, fin h2⟩
      | ret => exact ⟨.inr rfl, fin h2⟩
    obtain ⟨hx, rs, g1, ys, g2, hh', h3, h5, h40, h6, h7⟩ := hx
    obtain ⟨h4, hno⟩ := (Bool.and_eq_true _ _).mp h40
    refine calls_of_wp hf.here hbd ?_
    have hinl := inl_soundP (fs := fs) (c := fun g => { c g with inl := true }) hb.fsS (fun g => (hb.ctx g).dep _ true) (fun g => rfl) (fun f fn b d hd h1 h2 => hb.loops f fn b d hd h1 h2) d hd
    have hc' : ∀ B' : Base, B'.P = P → CtxS B' { c f with dep := d } (inlRun fs (fun g => { c g with inl := true }) d) := fun B' hP' => ⟨by rw [hP']; exact (hb.ctx f).mix, by rw [hP']; exact (hb.ctx f).ty, by rw [hP']; exact (hb.ctx f).cons, by rw [hP']; exact (hb.ctx f).ptrs, hinl B' hP'⟩
    have hst : FrS B G (fun id => 1000 + k.ins.length ≤ id) ⟨argsEnv 0 avs, H, 1000 + k.ins.length⟩ { tmps := us.toArray ++ Array.replicate (fn.ntmps - us.toArray.size) undef, defers := [] } w (us.toArray ++ Array.replicate (fn.ntmps - us.toArray.size) undef).size :=
      ⟨hsim, args_env hargs _ _, rfl, rfl, fun id h => ghost0_free id (by omega)⟩
    refine wp_mono (code_sound hc' (hl b hbd) b (dstOk_mono (nt := fn.ntmps) (by rw [Array.size_append, Array.size_replicate]; omega) b hbody.1) hbody.2.1 hbody.2.2 B rfl 1000 ⟨argsEnv 0 avs, H, 1000 + k.ins.length⟩ _ w G hst (Nat.le_add_right _ _) ex s1 h1) fun e a' w' hfin => ?_
    obtain ⟨G', k1, k2, k3⟩ := hfin.st
    obtain ⟨e1, us', hr', hv'⟩ := getRes_sound (hb.ctx f).ty k1.sim k1.env _ _ _ h3
    subst e1
    have hres := results_run (fn := fn) hr'
    obtain ⟨ovs, hcell, hpack⟩ := shapes_cells h4 hv'
    have hvis : ∀ x u, AV.top x = true → (∀ i ∈ x.idsS, i < 1000) → VRelS B G x u → VRelS B G' x u := k2.vis
    have hCH := mix_CH (B := B) (G := G) (G' := G') hvis k.ins (ksOf k.modes) 0 x ls cvs ha.cells hGK htok (by omega)
    rw [hX] at hCH
    have hGB' : ∀ i b, bx[i]? = some (some b) → G' (500 + 0 + i) = some (.box b) := fun i b hi => by
      have hlt : i < bx.length := by
        rcases Nat.lt_or_ge i bx.length with h | h
        · exact h
        · rw [List.getElem?_eq_none h] at hi; cases hi
      have hlt2 := ha.args.length
      obtain ⟨b2, g2, e2⟩ := hvis (.ptr (500 + 0 + i) 0) (.pointer (some ⟨b, 0, none⟩)) rfl (fun i hi => by simp [AV.idsS] at hi; omega) ⟨b, hGB i b hi, rfl⟩
      cases e2
      exact g2
    rw [← hcs] at hCH
    obtain ⟨rfl, kvs, hkv, hkept⟩ := outs_G k1.sim k.modes 0 us cvs bx xs ls ys g2 hok ha.args hCH hGB' h5
    obtain ⟨_, hboxes⟩ := outs_boxes k.modes 0 xs ys _ h5
    obtain ⟨ols', ht, hheld, hsim2, hsub, href⟩ := inTup_moveR k.outs _ (ovs ++ kvs) s1.heap [] y hh' k1.sim (hcell.append hkv) .nil h6
    obtain ⟨ols, kls, rfl, href1, href2⟩ := href.split
    have hgoal : a'.defers = [] ∧ ∃ v, (results fn a'.tmps).run P w' = .ok v w' ∧ Ret (fun u w' => OutG w k bx cvs ls y u w') (.returned v) w' := by
      refine ⟨k1.defers, _, hres, ⟨us', ovs, ols, kvs, kls, rfl, hpack, ht.noVs hno, ?_, hkept kls href2, ?_, fun b hb => ?_⟩, ⟨k1.sim.os, k1.sim.tape, k1.sim.output, k1.sim.size, fun b hb hn => k1.sim.safe b ⟨hb, hn⟩⟩⟩
      · rw [← href1.length, hcell.length]
      · refine List.nodup_append.2 ⟨hheld.nodup, (List.nodup_append.1 ha.nodup).2.1, fun b hb b' hb' e => ?_⟩
        subst e
        obtain ⟨i, hi1, hi2⟩ := mineB_box k.modes 0 us cvs bx ha.args b hb'
        obtain ⟨o, ho⟩ := h7 _ hi2
        obtain ⟨zs, hz⟩ := hboxes _ hi2
        obtain ⟨o0, h01, h02, _⟩ := hsub.obj ho
        rw [hz] at h01
        cases h01
        exact hheld.apart _ _ _ ho h02.symm (hGB' i b hi1) b (by simpa using hb) (by cases o <;> simp [obl, GO.bl])
      · have := hheld.mine b (by simpa using hb)
        refine ⟨?_, this.1⟩
        rcases Nat.lt_or_ge b w.heap.size with h | h
        · refine .inr (Classical.byContradiction fun hn => this.2 ⟨h, hn⟩)
        · exact .inl h
    rw [hfin.ex]
    rcases hx with rfl | rfl
    · exact hgoal
    · exact hgoal
end Go.Abs

namespace Go.Abs
set_option linter.unusedSimpArgs false
set_option linter.unusedVariables false
open Go.RowKit

/-! ### the caller's side: the cells -/
def RefK (G : Gh) (h' : Heap) : List CK → List AV → List L → Prop
  | k :: ks, a :: as, l :: ls => (k.own = true → ∀ id, a = .ref id [] none → G id = some (.row l) ∧ getO h' id = none) ∧ RefK G h' ks as ls
  | [], [], [] => True
  | _, _, _ => False
theorem RefK.sub {G : Gh} {h h' : Heap} (hs : ∀ i o, getO h' i = some o → getO h i = some o) : ∀ {ks : List CK} {as : List AV} {ls : List L}, RefK G h ks as ls → RefK G h' ks as ls
  | k :: ks, a :: as, l :: ls, h1 => ⟨fun ho id e => ⟨(h1.1 ho id e).1, by
      cases hg : getO h' id with
      | none => rfl
      | some o => have := hs id o hg; rw [(h1.1 ho id e).2] at this; cases this⟩, RefK.sub hs h1.2⟩
  | [], [], [], _ => trivial
  | [], [], _ :: _, h => h.elim
  | [], _ :: _, _, h => h.elim
  | _ :: _, [], _, h => h.elim
  | _ :: _, _ :: _, [], h => h.elim
theorem Seen.sub {B : Base} {G : Gh} {h h' : Heap} (hs : ∀ i o, getO h' i = some o → getO h i = some o) {ids ids' : List Nat} (hi : ∀ i ∈ ids, i ∈ ids') {b : Nat} (x : Seen B G h' ids b) : Seen B G h ids' b := by
  rcases x with x | ⟨id, o, go, h1, h2, h3, h4, h5⟩
  · exact .inl x
  · exact .inr ⟨id, o, go, hi id h1, hs _ _ h2, h3, h4, h5⟩
structure MixM (B : Base) (G : Gh) (w : World) (cs : List CT) (x : Tup cs) (ks : List CK) (as : List AV) (vs : List Value) (h h' : Heap) (bs : List Nat) (ls : List L) : Prop where
  tup : TupV B.fz w cs x (ks.map CK.own) ls vs
  held : Held B G h' w (bs ++ ownBl ks ls)
  sim : Sim B G h' w
  sub : ∀ i o, getO h' i = some o → getO h i = some o
  ref : RefK G h' ks as ls
  seen : ∀ b ∈ borBl ks ls, Seen B G h (rdIds ks as) b
theorem mix1 {B : Base} {G : Gh} {w : World} {k : CK} {c : CT} {a : AV} {v : Value} {h : Heap} {bs : List Nat} {d : c.den} {h' : Heap} (s : Sim B G h w) (hv : VRelS B G a v) (hh : Held B G h w bs) (hr : (inCell k.own c a).Has h d h') :
    ∃ l, CellV B.fz w k.own c d l v ∧ Held B G h' w (bs ++ (bif k.own then l.bl else [])) ∧ Sim B G h' w ∧ (∀ i o, getO h' i = some o → getO h i = some o) ∧ (k.own = true → ∀ id, a = .ref id [] none → G id = some (.row l) ∧ getO h' id = none) ∧ (k.own = false → ∀ b ∈ l.bl, Seen B G h a.idsS b) := by
  cases ho : k.own with
  | true =>
    rw [ho] at hr
    obtain ⟨l, h1, h2, h3, h4, h5⟩ := mvCell_soundR s hv hh hr
    exact ⟨l, h1, h2, h3, h4, fun _ => h5, fun h => by cases h⟩
  | false =>
    rw [ho] at hr
    obtain ⟨rfl, l, h1, h2⟩ := rdCell_sound s hv hr
    exact ⟨l, h1, by simpa using hh, s, fun _ _ h => h, fun h => (by cases h), fun _ => h2⟩
theorem inTup_mix {B : Base} {G : Gh} {w : World} : ∀ (cs : List CT) (ks : List CK) (as : List AV) (vs : List Value) (h : Heap) (bs : List Nat) (x : Tup cs) (h' : Heap), Sim B G h w → VRelL B G as vs → Held B G h w bs → ks.length = cs.length → as.length = cs.length → (inTup cs (zipK ks as)).Has h x h' →
    ∃ ls, MixM B G w cs x ks as vs h h' bs ls
  | [], ks, as, vs, h, bs, x, h', s, hv, hh, hk, ha, hr => by
    have e1 : ks = [] := List.eq_nil_of_length_eq_zero hk
    have e2 : as = [] := List.eq_nil_of_length_eq_zero ha
    subst e1 e2
    have := hv.nil
    subst this
    obtain ⟨_, rfl⟩ := hr
    exact ⟨[], ⟨rfl, rfl, rfl⟩, by simpa [ownBl] using hh, s, fun _ _ h => h, trivial, fun b hb => by cases hb⟩
  | [c], ks, as, vs, h, bs, x, h', s, hv, hh, hk, ha, hr => by
    match ks, hk, as, ha with
    | [k], _, [a], _ =>
      obtain ⟨v, rfl, hv1⟩ := hv.one
      have hr : (inCell k.own c a).Has h x h' := hr
      obtain ⟨l, h1, h2, h3, h4, h5, h6⟩ := mix1 s hv1 hh hr
      refine ⟨[l], ⟨_, l, v, rfl, rfl, rfl, h1⟩, by simpa [ownBl] using h2, h3, h4, ⟨h5, trivial⟩, fun b hb => ?_⟩
      simp only [borBl, List.append_nil] at hb
      cases ho : k.own with
      | true => rw [ho] at hb; cases hb
      | false =>
        rw [ho, cond_false] at hb
        exact (h6 ho b hb).sub (fun _ _ h => h) fun i hi => by simp [rdIds, ho]; exact hi
  | c :: d :: cs, ks, as, vs, h, bs, x, h', s, hv, hh, hk, ha, hr => by
    match ks, hk, as, ha with
    | k :: ks, hk, a :: as, ha =>
      obtain ⟨v, vs', rfl, hv1, hv2⟩ := hv.cons
      have hr : (((inCell k.own c a).andThen fun x => (inTup (d :: cs) (zipK ks as)).andThen fun y => .ret (x, y)) : DH (Tup (c :: d :: cs))).Has h x h' := hr
      obtain ⟨y, h1, hr1, hr2⟩ := (DH.has_andThen _ _ _ _ _).1 hr
      obtain ⟨z, h2, hr3, hr4⟩ := (DH.has_andThen _ _ _ _ _).1 hr2
      obtain ⟨l, k1, k2, k3, k4, k5, k6⟩ := mix1 s hv1 hh hr1
      obtain ⟨ls, m⟩ := inTup_mix (d :: cs) ks as vs' h1 _ z h2 k3 hv2 k2 (by simpa using hk) (by simpa using ha) hr3
      obtain ⟨rfl, rfl⟩ := hr4
      refine ⟨l :: ls, ⟨_, _, l, ls, v, vs', rfl, rfl, rfl, k1, m.tup⟩, by simp only [ownBl]; rw [← List.append_assoc]; exact m.held, m.sim, fun i o ho => k4 i o (m.sub i o ho), ⟨fun ho id e => ⟨(k5 ho id e).1, ?_⟩, m.ref⟩, fun b hb => ?_⟩
      · cases hg : getO h2 id with
        | none => rfl
        | some o => have := m.sub id o hg; rw [(k5 ho id e).2] at this; cases this
      · simp only [borBl, List.mem_append] at hb
        cases ho : k.own with
        | true =>
          rw [ho] at hb
          rcases hb with hb | hb
          · cases hb
          · exact (m.seen b hb).sub k4 fun i hi => by simp only [rdIds, ho, cond_true]; exact hi
        | false =>
          rw [ho, cond_false] at hb
          rcases hb with hb | hb
          · exact (k6 ho b hb).sub (fun _ _ h => h) fun i hi => by simp only [rdIds, ho, cond_false, List.mem_append]; exact .inl hi
          · exact (m.seen b hb).sub k4 fun i hi => by simp only [rdIds, ho, cond_false, List.mem_append]; exact .inr hi

/-! ### the caller's side: the arguments -/
def ArgB (G : Gh) : Modes → List AV → List AV → List (Option Nat) → Prop
  | [], vs, _, _ => vs = []
  | (m, _, cs) :: ms, vs, xs, bx => ∃ v vs', vs = v :: vs' ∧ (match m with
      | .P _ => ∃ id b, v = .ptr id 0 ∧ bx.head? = some (some b) ∧ G id = some (.box b)
      | .I => (xs.take cs.length).all okO = true
      | _ => True) ∧ ArgB G ms vs' (xs.drop cs.length) bx.tail
structure ArgM (B : Base) (G : Gh) (w : World) (ms : Modes) (vs : List AV) (us : List Value) (h h' : Heap) (r : List AV × List Nat × List Nat) (cvs : List Value) (bx : List (Option Nat)) (bs : List Nat) : Prop where
  args : ArgV w ms us cvs bx
  rel : VRelL B G r.1 cvs
  held : Held B G h' w (mineB ms bx ++ bs)
  sim : Sim B G h' w
  sub : ∀ i o, getO h' i = some o → getO h i = some o
  len : r.1.length = (ctsOf ms).length
  seen : ∀ b ∈ qB ms bx, Seen B G h r.2.2 b
  back : ArgB G ms vs r.1 bx
theorem argG_sound {B : Base} {G : Gh} {w : World} {bs0 : List Nat} : ∀ (ms : Modes) (vs : List AV) (us : List Value) (h : Heap) (r : List AV × List Nat × List Nat) (h' : Heap), Sim B G h w → Held B G h w bs0 → VRelF B G vs us → ms.all okMode = true → (argG ms vs).Has h r h' →
    ∃ cvs bx, ArgM B G w ms vs us h h' r cvs bx bs0
  | [], [], us, h, r, h', s, hh, hv, _, hr => by
    obtain ⟨rfl, rfl⟩ := hr
    have : us = [] := by cases us with | nil => rfl | cons a b => exact hv.elim
    subst this
    exact ⟨[], [], ⟨rfl, rfl, rfl⟩, trivial, hh, s, fun _ _ h => h, rfl, fun b hb => (by cases hb), rfl⟩
  | [], _ :: _, us, h, r, h', s, hh, hv, _, hr => hr.elim
  | _ :: _, [], us, h, r, h', s, hh, hv, _, hr => hr.elim
  | (m, a, cs) :: ms, v :: vs, us, h, r, h', s, hh, hv, hok, hr => by
    simp only [List.all_cons, Bool.and_eq_true] at hok
    match us, hv with
    | [], hv => exact hv.elim
    | u :: us, hv =>
    simp only [argG] at hr
    obtain ⟨r1, h1, hr1, hr2⟩ := (DH.has_andThen _ _ _ _ _).1 hr
    obtain ⟨cvs, bx, M⟩ := argG_sound ms vs us h r1 h1 s hh hv.2 hok.2 hr1
    have plain : ∀ (hm : m.isP = false) (hq : ∀ own, (u = (if a then .agg own.toArray else own.headD undef) ∧ (a = false → own.length = 1)) → ArgU w m a own u none) (hI : m = .I → v.flat.all okO = true) (hb : ∀ ws, m ≠ .P ws),
        shapeV a cs.length v = true → r = (v.flat ++ r1.1, r1.2) → h' = h1 → ∃ cvs bx, ArgM B G w ((m, a, cs) :: ms) (v :: vs) (u :: us) h h' r cvs bx bs0 := by
      intro hm hq hI hb hs e1 e2
      subst e1 e2
      obtain ⟨own, o1, o2, o3, o4⟩ := shape_cells hs hv.1
      have hfl : v.flat.length = cs.length := by rw [o1.length, o2]
      have htake : (v.flat ++ r1.1).take cs.length = v.flat := by rw [← hfl]; simp
      have hdrop : (v.flat ++ r1.1).drop cs.length = r1.1 := by rw [← hfl]; simp
      refine ⟨own ++ cvs, none :: bx, ⟨u, us, own, cvs, none, bx, rfl, rfl, o2, rfl, hq own ⟨o3, o4⟩, M.args⟩, o1.append M.rel, ?_, M.sim, M.sub, ?_, ?_, v, vs, rfl, ?_, ?_⟩
      · simp only [mineB, hm, cond_false, List.nil_append]; exact M.held
      · simp only [ctsOf, List.length_append, hfl, M.len]
      · intro b hb
        simp only [qB, hm, cond_false, Option.toList, List.nil_append] at hb
        exact M.seen b hb
      · cases m with
        | I => rw [htake]; exact hI rfl
        | P ws => exact absurd rfl (hb ws)
        | _ => trivial
      · rw [hdrop]; exact M.back
    cases m with
    | B =>
      simp only at hr2
      cases hs : shapeV a cs.length v with
      | false => rw [hs] at hr2; exact hr2.elim
      | true =>
        rw [hs, cond_true] at hr2
        exact plain rfl (fun own ho => ⟨rfl, ho.1, ho.2⟩) (fun h => by cases h) (fun ws h => by cases h) hs hr2.1.symm hr2.2.symm
    | M =>
      simp only at hr2
      cases hs : shapeV a cs.length v with
      | false => rw [hs] at hr2; exact hr2.elim
      | true =>
        rw [hs, cond_true] at hr2
        exact plain rfl (fun own ho => ⟨rfl, ho.1, ho.2⟩) (fun h => by cases h) (fun ws h => by cases h) hs hr2.1.symm hr2.2.symm
    | I =>
      simp only at hr2
      cases hs : shapeV a cs.length v && v.flat.all okO with
      | false => rw [hs] at hr2; exact hr2.elim
      | true =>
        rw [hs, cond_true] at hr2
        simp only [Bool.and_eq_true] at hs
        exact plain rfl (fun own ho => ⟨rfl, ho.1, ho.2⟩) (fun _ => hs.2) (fun ws h => by cases h) hs.1 hr2.1.symm hr2.2.symm
    | Q =>
      simp only at hr2
      split at hr2
      · rename_i id hv
        simp only [has_getD] at hr2
        have hp : VRelS B G (.ptr id 0) u := hv.1
        obtain ⟨b, hg, rfl⟩ := hp
        have fin : ∀ (xs : List AV) (own : List Value), VRelL B G xs own → (bif Nat.beq xs.length cs.length then DH.ret (xs ++ r1.1, r1.2.1, id :: r1.2.2) else .fail : DH (List AV × List Nat × List Nat)).Has h1 r h' → (∀ j v, own[j]? = some v → w.cell? ⟨b, j, none⟩ = some v) → Seen B G h [id] b →
            ∃ cvs bx, ArgM B G w ((.Q, a, cs) :: ms) (.ptr id 0 :: vs) (.pointer (some ⟨b, 0, none⟩) :: us) h h' r cvs bx bs0 := by
          intro xs own hx hr3 hc hseen
          cases hl : Nat.beq xs.length cs.length with
          | false => rw [hl] at hr3; exact hr3.elim
          | true =>
            rw [hl, cond_true] at hr3
            obtain ⟨rfl, rfl⟩ := hr3
            have hl := (beq_iff _ _).1 hl
            have hdrop : (xs ++ r1.1).drop cs.length = r1.1 := by rw [← hl]; simp
            refine ⟨own ++ cvs, some b :: bx, ⟨_, us, own, cvs, some b, bx, rfl, rfl, by rw [← hx.length, hl], rfl, ⟨b, rfl, rfl, hc⟩, M.args⟩, hx.append M.rel, ?_, M.sim, M.sub, ?_, ?_, _, vs, rfl, trivial, ?_⟩
            · simp only [mineB, Mode.isP, cond_false, List.nil_append]; exact M.held
            · simp only [ctsOf, List.length_append, hl, M.len]
            · intro c hc'
              simp only [qB, Mode.isP, cond_false, Option.toList, List.singleton_append, List.mem_cons] at hc'
              rcases hc' with rfl | hc'
              · exact hseen.sub (fun _ _ h => h) fun i hi => by simp at hi; subst hi; exact .head _
              · exact (M.seen c hc').sub (fun _ _ h => h) fun i hi => .tail _ hi
            · rw [hdrop]; exact M.back
        split at hr2
        · rename_i xs ho
          obtain ⟨b', vals, e, g1, g2, g3⟩ := M.sim.obj id _ ho
          rw [hg] at g1; cases g1
          refine fin xs vals.toList g3 hr2 (fun j v hj => ?_) (.inr ⟨id, _, _, .head _, M.sub _ _ ho, rfl, hg, by simp [obl, GO.bl]⟩)
          simp only [World.cell?, g2]
          simpa using hj
        · rename_i xs ho
          obtain ⟨b', vs', g1, g2, g3, g4⟩ := M.sim.obj id _ ho
          rw [hg] at g1; cases g1
          exact fin xs vs' g4 hr2 g3 (.inl g2)
        · exact hr2.elim
      · exact hr2.elim
    | P ws =>
      simp only at hr2
      split at hr2
      · rename_i id hv
        simp only [has_getD] at hr2
        have hp : VRelS B G (.ptr id 0) u := hv.1
        obtain ⟨b, hg, rfl⟩ := hp
        split at hr2
        · rename_i xs ho
          cases hl : Nat.beq xs.length cs.length with
          | false => rw [hl] at hr2; exact hr2.elim
          | true =>
            rw [hl, cond_true, has_putD] at hr2
            have hl := (beq_iff _ _).1 hl
            obtain ⟨rfl, rfl⟩ := hr2
            obtain ⟨b', vals, e, g1, g2, g3⟩ := M.sim.obj id _ ho
            rw [hg] at g1; cases g1
            have hdrop : (xs ++ r1.1).drop cs.length = r1.1 := by rw [← hl]; simp
            refine ⟨vals.toList ++ cvs, some b :: bx, ⟨_, us, vals.toList, cvs, some b, bx, rfl, rfl, by rw [← g3.length, hl], rfl, ⟨b, e, rfl, rfl, g2⟩, M.args⟩, g3.append M.rel, ?_, M.sim.heap (del_sub h1 id), fun i o hi => M.sub i o (del_sub h1 id i o hi), ?_, ?_, _, vs, rfl, ⟨id, b, rfl, rfl, hg⟩, ?_⟩
            · have := M.held.take M.sim ho rfl hg (List.Sublist.refl _)
              simp only [mineB, Mode.isP, cond_true, Option.toList]
              rw [List.append_assoc]
              exact this.perm List.perm_append_comm
            · simp only [ctsOf, List.length_append, hl, M.len]
            · intro c hc'
              simp only [qB, Mode.isP, cond_true, List.nil_append] at hc'
              exact M.seen c hc'
            · rw [hdrop]; exact M.back
        · exact hr2.elim
      · exact hr2.elim
end Go.Abs

namespace Go.Abs
set_option linter.unusedSimpArgs false
set_option linter.unusedVariables false
open Go.RowKit

/-! ### after a call -/
theorem purgeHs_set (z : List Pl) (h : Heap) (id : Nat) (o : Obj) (j : Nat) : getO (purgeHs z (setO h id o)) j = getO (setO (purgeHs z h) id (purgeOs z o)) j := by
  rw [getO_purgeHs, getO_setO, getO_setO, getO_purgeHs]
  by_cases e : id = j
  · rw [if_pos e, if_pos e]; rfl
  · rw [if_neg e, if_neg e]
theorem ownd_purgeOs (z : List Pl) (o : Obj) : ownd (purgeOs z o) = ownd o := by cases o <;> rfl
theorem obl_purgeOs (z : List Pl) (o : Obj) (go : GO) : obl (purgeOs z o) go = obl o go := by cases o <;> rfl
theorem obl_box (o : Obj) (b : Nat) : obl o (.box b) = [b] := by cases o <;> rfl
theorem getO_purged {z : List Pl} {h : Heap} {j : Nat} {o : Obj} (ho : getO (purgeHs z h) j = some o) : ∃ o0, getO h j = some o0 ∧ o = purgeOs z o0 := by
  rw [getO_purgeHs] at ho
  cases h0 : getO h j with
  | none => rw [h0] at ho; cases ho
  | some o0 =>
    rw [h0] at ho
    simp only [Option.map_some, Option.some.injEq] at ho
    exact ⟨o0, rfl, ho.symm⟩
section
variable {B : Base} {G G1 : Gh} {z : List Pl} {w w' : World}
theorem Sim.after {h : Heap} {S : List Nat} (s : Sim B G h w) (t : Turn w w' S) (hS : ∀ b ∈ S, ¬ B.safe b) (hb : ∀ id o go, getO h id = some o → ownd o = true → G id = some go → ∀ b ∈ obl o go, b ∉ S)
    (hG : ∀ id o, getO h id = some o → G1 id = G id) (hv : ∀ x u, (∀ i ∈ z, AV.deepS i x = false) → VRelS B G x u → VRelS B G1 x u) : Sim B G1 (purgeHs z h) w' := by
  refine ⟨fun id o ho => ?_, fun id o go ho hw hg => ?_, fun id o go ho hw hg b hm => ?_, fun i j o o' go go' hij ho ho' hw hw' hg hg' => ?_, t.os.trans s.os, t.tape.trans s.tape, t.output.trans s.output, Nat.le_trans s.size t.size, fun b hsb => ?_⟩
  · obtain ⟨o0, h0, rfl⟩ := getO_purged ho
    have hor := s.obj id o0 h0
    have hgg := hG id o0 h0
    cases o0 with
    | box cs =>
      obtain ⟨b, vals, e, g1, g2, g3⟩ := hor
      have := s.mine id _ _ h0 rfl g1 b (by simp [obl, GO.bl])
      exact ⟨b, vals, e, by rw [hgg]; exact g1, by rw [t.block b this.1 (hb id _ _ h0 rfl g1 b (by simp [obl, GO.bl]))]; exact g2, purgeVsL_rel hv g3⟩
    | robox cs =>
      obtain ⟨b, vs, g1, g2, g3, g4⟩ := hor
      exact ⟨b, vs, by rw [hgg]; exact g1, g2, fun j v hj => by rw [cell_same (t.block b (Nat.lt_of_lt_of_le g2.1 s.size) fun hm => hS b hm g2)]; exact g3 j v hj, purgeVsL_rel hv g4⟩
    | row r rows =>
      obtain ⟨l, v, g1, g2⟩ := hor
      exact ⟨l, v, by rw [hgg]; exact g1, g2.keep _ _ _ _ fun b hm => t.block b (s.mine id _ _ h0 rfl g1 b hm).1 (hb id _ _ h0 rfl g1 b hm)⟩
    | part rt cols r rows lo hi =>
      obtain ⟨loc, kids, g1, g2⟩ := hor
      exact ⟨loc, kids, by rw [hgg]; exact g1, g2.keep fun b hm => t.block b (s.mine id _ _ h0 rfl g1 b hm).1 (hb id _ _ h0 rfl g1 b hm)⟩
  · obtain ⟨o0, h0, rfl⟩ := getO_purged ho
    rw [ownd_purgeOs] at hw
    rw [hG id o0 h0] at hg
    rw [obl_purgeOs]
    exact s.nodup id o0 go h0 hw hg
  · obtain ⟨o0, h0, rfl⟩ := getO_purged ho
    rw [ownd_purgeOs] at hw
    rw [hG id o0 h0] at hg
    rw [obl_purgeOs] at hm
    have := s.mine id o0 go h0 hw hg b hm
    exact ⟨Nat.lt_of_lt_of_le this.1 t.size, this.2⟩
  · obtain ⟨o0, h0, rfl⟩ := getO_purged ho
    obtain ⟨o1, h1, rfl⟩ := getO_purged ho'
    rw [ownd_purgeOs] at hw hw'
    rw [hG i o0 h0] at hg
    rw [hG j o1 h1] at hg'
    rw [obl_purgeOs, obl_purgeOs]
    exact s.apart i j o0 o1 go go' hij h0 h1 hw hw' hg hg'
  · rw [t.block b (Nat.lt_of_lt_of_le hsb.1 s.size) fun hm => hS b hm hsb]; exact s.safe b hsb

/-! what came back -/
structure OutC (B : Base) (G1 : Gh) (w' : World) (nh : Heap) (a : AV) (v : Value) (l : L) : Prop where
  rel : VRelS B G1 a v
  obj : (a.idsS = [] ∧ l.bl = [] ∧ ∀ id p u, a ≠ .ref id p u) ∨ ∃ id r x, a = .ref id [] none ∧ getO nh id = some (.row r x) ∧ G1 id = some (.row l) ∧ CellV B.fz w' true (.sl r) x l v
def OutL (B : Base) (G1 : Gh) (w' : World) (nh : Heap) : List AV → List Value → List L → Prop
  | [], [], [] => True
  | a :: as, v :: vs, l :: ls => OutC B G1 w' nh a v l ∧ OutL B G1 w' nh as vs ls
  | _, _, _ => False
variable {nh : Heap}
theorem outC_of {id : Nat} {c : CT} {x : c.den} {l : L} {v : Value} (hc : CellV B.fz w' true c x l v) (hnh : ∀ j o, getO (newCell id c x).2 j = some o → getO nh j = some o) (hg : G1 id = some (.row l)) : OutC B G1 w' nh (newCell id c x).1 v l := by
  cases c with
  | int k => exact ⟨hc.2, .inl ⟨rfl, by rw [hc.1]; rfl, fun _ _ _ h => by cases h⟩⟩
  | bool => exact ⟨hc.2, .inl ⟨rfl, by rw [hc.1]; rfl, fun _ _ _ h => by cases h⟩⟩
  | str => exact ⟨hc.2, .inl ⟨rfl, by rw [hc.1]; rfl, fun _ _ _ h => by cases h⟩⟩
  | nl q0 => exact ⟨hc.2, .inl ⟨rfl, by rw [hc.1]; rfl, fun _ _ _ h => by cases h⟩⟩
  | vs q0 => exact ⟨⟨hc.2.1, fun i e => by cases e⟩, .inl ⟨rfl, by rw [hc.1]; rfl, fun _ _ _ h => by cases h⟩⟩
  | sl r =>
    refine ⟨?_, .inr ⟨id, r, x, rfl, hnh id _ (by simp [newCell, getO]), hg, hc⟩⟩
    obtain ⟨loc, kids, rfl, hv, hk, _⟩ := hc
    refine ref_iff.2 ⟨_, hg, loc, kids.length, rfl, ?_⟩
    rw [hk]; exact hv
theorem outL_of : ∀ (cs : List CT) (id : Nat) (y : Tup cs) (vs : List Value) (ls : List L), TupW B.fz w' true cs y vs ls → (∀ j o, getO (newTup id cs y).2 j = some o → getO nh j = some o) → (∀ i l, ls[i]? = some l → G1 (id + i) = some (.row l)) → OutL B G1 w' nh (newTup id cs y).1 vs ls
  | [], id, y, vs, ls, ht, hn, hg => by rw [ht.1, ht.2]; exact trivial
  | [c], id, y, vs, ls, ht, hn, hg => by
    obtain ⟨v, l, rfl, rfl, hc⟩ := ht
    rw [newTup_1] at hn ⊢
    exact ⟨outC_of hc hn (hg 0 l rfl), trivial⟩
  | c :: d :: cs, id, y, vs, ls, ht, hn, hg => by
    obtain ⟨v, l, vs', ls', rfl, rfl, hc, ht'⟩ := ht
    rw [newTup_2] at hn ⊢
    refine ⟨outC_of hc (fun j o hj => hn j o (by simp only; rw [getO_append, hj]; rfl)) (hg 0 l rfl), outL_of (d :: cs) (id + 1) y.2 vs' ls' ht' (fun j o hj => hn j o ?_) fun i l h => ?_⟩
    · simp only
      rw [getO_append]
      have hk := newTup_key _ _ _ hj
      cases h4 : getO (newCell id c y.1).2 j with
      | some o1 => have := newCell_key h4; omega
      | none => simpa using hj
    · rw [show id + 1 + i = id + (i + 1) by omega]; exact hg (i + 1) l (by simpa using h)
theorem OutL.rel : ∀ {as : List AV} {vs : List Value} {ls : List L}, OutL B G1 w' nh as vs ls → VRelL B G1 as vs
  | [], [], [], _ => trivial
  | a :: as, v :: vs, l :: ls, h => ⟨h.1.rel, OutL.rel h.2⟩
  | [], [], _ :: _, h => h.elim
  | [], _ :: _, _, h => h.elim
  | _ :: _, [], _, h => h.elim
  | _ :: _, _ :: _, [], h => h.elim
theorem OutL.length : ∀ {as : List AV} {vs : List Value} {ls : List L}, OutL B G1 w' nh as vs ls → as.length = vs.length ∧ ls.length = vs.length
  | [], [], [], _ => ⟨rfl, rfl⟩
  | a :: as, v :: vs, l :: ls, h => by have := OutL.length h.2; exact ⟨by simp [this.1], by simp [this.2]⟩
  | [], [], _ :: _, h => h.elim
  | [], _ :: _, _, h => h.elim
  | _ :: _, [], _, h => h.elim
  | _ :: _, _ :: _, [], h => h.elim
theorem OutL.consL : ∀ {as : List AV} {vs : List Value} {ls : List L} {n : Nat}, OutL B G1 w' nh as vs ls → ls.length = n + 1 → ∃ o os v vs' l ls', as = o :: os ∧ vs = v :: vs' ∧ ls = l :: ls' ∧ OutC B G1 w' nh o v l ∧ OutL B G1 w' nh os vs' ls'
  | o :: os, v :: vs, l :: ls, _, h, _ => ⟨o, os, v, vs, l, ls, rfl, rfl, rfl, h.1, h.2⟩
  | _, _, [], _, _, h => by cases h
  | [], [], _ :: _, _, h, _ => h.elim
  | [], _ :: _, _ :: _, _, h, _ => h.elim
  | _ :: _, [], _ :: _, _, h, _ => h.elim
theorem OutL.split : ∀ {v1 v2 : List Value} {l1 l2 : List L} {as : List AV}, v1.length = l1.length → OutL B G1 w' nh as (v1 ++ v2) (l1 ++ l2) → OutL B G1 w' nh (as.take v1.length) v1 l1 ∧ OutL B G1 w' nh (as.drop v1.length) v2 l2
  | [], v2, [], l2, as, _, h => ⟨trivial, h⟩
  | v :: v1, v2, l :: l1, l2, as, hl, h => by
    match as, h with
    | a :: as, h =>
      have := OutL.split (v1 := v1) (l1 := l1) (by simpa using hl) h.2
      exact ⟨⟨h.1, this.1⟩, this.2⟩
    | [], h => exact h.elim
  | [], _, _ :: _, _, _, hl, _ => by cases hl
  | _ :: _, _, [], _, _, hl, _ => by cases hl
structure Put (B : Base) (G1 : Gh) (w' : World) (z : List Pl) (h : Heap) (bs : List Nat) : Prop where
  sim : Sim B G1 (purgeHs z h) w'
  held : Held B G1 (purgeHs z h) w' bs
theorem Put.one {h : Heap} {bs : List Nat} {id : Nat} {o : Obj} {go : GO} (x : Put B G1 w' z h (obl o go ++ bs)) (hg : G1 id = some go) (ho : ORel B G1 w' id (purgeOs z o)) (hw : ownd o = true) : Put B G1 w' z (setO h id o) bs := by
  obtain ⟨s1, h1⟩ := x.sim.put hg ho (by rw [ownd_purgeOs]; exact hw) (by rw [obl_purgeOs]; exact x.held)
  have hsub : ∀ i o', getO (purgeHs z (setO h id o)) i = some o' → getO (setO (purgeHs z h) id (purgeOs z o)) i = some o' := fun i o' hi => by rw [← purgeHs_set]; exact hi
  exact ⟨s1.heap hsub, h1.heap hsub⟩
theorem Put.perm {h : Heap} {bs bs' : List Nat} (x : Put B G1 w' z h bs) (p : bs.Perm bs') : Put B G1 w' z h bs' := ⟨x.sim, x.held.perm p⟩
theorem Put.sub {h : Heap} {bs bs' : List Nat} (x : Put B G1 w' z h bs) (p : bs'.Sublist bs) : Put B G1 w' z h bs' := ⟨x.sim, x.held.sub p⟩
theorem putNew_sound : ∀ (as : List AV) (vs : List Value) (ls : List L) (h : Heap) (bs : List Nat) (h' : Heap) (u : Unit), OutL B G1 w' nh as vs ls → Put B G1 w' z h (Ls.bl ls ++ bs) → (backs.putNew nh (as.flatMap AV.idsS)).Has h u h' → Put B G1 w' z h' bs
  | [], [], [], h, bs, h', u, _, x, hr => by
    obtain ⟨_, rfl⟩ := hr
    exact x
  | a :: as, v :: vs, l :: ls, h, bs, h', u, ho, x, hr => by
    simp only [List.flatMap_cons] at hr
    simp only [Ls.bl, List.append_assoc] at x
    rcases ho.1.obj with ⟨h1, h2, _⟩ | ⟨id, r, xr, rfl, h2, h3, h4⟩
    · rw [h1, List.nil_append] at hr
      rw [h2, List.nil_append] at x
      exact putNew_sound as vs ls h bs h' u ho.2 x hr
    · simp only [AV.idsS, List.singleton_append, backs.putNew, h2] at hr
      have hr : (backs.putNew nh (as.flatMap AV.idsS)).Has (setO h id (.row r xr)) u h' := hr
      exact putNew_sound as vs ls _ bs h' u ho.2 (Put.one (o := .row r xr) (go := .row l) x h3 ⟨l, v, h3, h4⟩ rfl) hr
  | [], [], _ :: _, _, _, _, _, h, _, _ => h.elim
  | [], _ :: _, _, _, _, _, _, h, _, _ => h.elim
  | _ :: _, [], _, _, _, _, _, h, _, _ => h.elim
  | _ :: _, _ :: _, [], _, _, _, _, h, _, _ => h.elim

/-! the rows that were written in place -/
def pairC : List CT → List AV → List L → List (Nat × L)
  | c :: cs, x :: xs, kls => bif c.isS then match x, kls with
      | .ref id _ _, l :: kls' => (id, l) :: pairC cs xs kls'
      | _, _ => []
    else pairC cs xs kls
  | _, _, _ => []
def nsl : List CT → Nat
  | [] => 0
  | c :: cs => bif c.isS then nsl cs + 1 else nsl cs
def pairsI : Modes → List AV → List L → List (Nat × L)
  | [], _, _ => []
  | (m, _, cs) :: ms, xs, kls => match m with
    | .I => pairC cs (xs.take cs.length) (kls.take (nsl cs)) ++ pairsI ms (xs.drop cs.length) (kls.drop (nsl cs))
    | .P ws => pairsI ms (xs.drop cs.length) (kls.drop (cnt ws))
    | _ => pairsI ms (xs.drop cs.length) kls
theorem slOf_length {α : Type} : ∀ (cs : List CT) (xs : List α), xs.length = cs.length → (slOf cs xs).length = nsl cs
  | [], [], _ => rfl
  | c :: cs, x :: xs, h => by
    have := slOf_length cs xs (by simpa using h)
    simp only [slOf, nsl]
    cases c.isS <;> simp [this]
  | [], _ :: _, h => by cases h
  | _ :: _, [], h => by cases h
theorem TopL.length : ∀ {a b : List L}, TopL a b → a.length = b.length
  | [], [], _ => rfl
  | _ :: _, _ :: _, h => by simp [TopL.length h.2]
  | [], _ :: _, h => h.elim
  | _ :: _, [], h => h.elim
theorem backO_sound : ∀ (cs : List CT) (xs os : List AV) (vs : List Value) (ls : List L) (h : Heap) (bs : List Nat) (os2 : List AV) (h' : Heap) (r : List AV), OutL B G1 w' nh os vs ls → ls.length = nsl cs → xs.all okO = true → (∀ p ∈ pairC cs xs ls, G1 p.1 = some (.row p.2)) → Put B G1 w' z h (Ls.bl ls ++ bs) →
    (backO nh cs xs (os ++ os2)).Has h r h' → r = os2 ∧ Put B G1 w' z h' bs
  | [], [], os, vs, ls, h, bs, os2, h', r, ho, hl, hx, hp, x, hr => by
    have : ls = [] := List.eq_nil_of_length_eq_zero hl
    subst this
    match os, vs, ho with
    | [], [], _ =>
      obtain ⟨rfl, rfl⟩ := hr
      exact ⟨rfl, x⟩
    | _ :: _, [], ho => exact ho.elim
    | _ :: _, _ :: _, ho => exact ho.elim
    | [], _ :: _, ho => exact ho.elim
  | [], _ :: _, os, vs, ls, h, bs, os2, h', r, ho, hl, hx, hp, x, hr => hr.elim
  | _ :: _, [], os, vs, ls, h, bs, os2, h', r, ho, hl, hx, hp, x, hr => hr.elim
  | c :: cs, a :: xs, os, vs, ls, h, bs, os2, h', r, ho, hl, hx, hp, x, hr => by
    simp only [List.all_cons, Bool.and_eq_true] at hx
    simp only [backO] at hr
    cases hc : c.isS with
    | false =>
      rw [hc, cond_false] at hr
      simp only [nsl, hc, cond_false] at hl
      exact backO_sound cs xs os vs ls h bs os2 h' r ho hl hx.2 (fun p hm => hp p (by simp only [pairC, hc, cond_false]; exact hm)) x hr
    | true =>
      rw [hc, cond_true] at hr
      simp only [nsl, hc, cond_true] at hl
      obtain ⟨o, os, v, vs, l, ls, rfl, rfl, rfl, ho1, ho2⟩ := ho.consL hl
      simp only [List.cons_append] at hr
      cases a with
      | ref id p u =>
        have hG := hp (id, l) (by simp only [pairC, hc, cond_true]; exact .head _)
        simp only at hr
        obtain ⟨u0, h1, hr1, hr2⟩ := (DH.has_andThen _ _ _ _ _).1 hr
        simp only [Ls.bl, List.append_assoc] at x
        rcases ho1.obj with ⟨_, _, h2⟩ | ⟨j, r0, xr, rfl, h2, h3, h4⟩
        · cases o with
          | ref j p' u' => exact absurd rfl (h2 j p' u')
          | _ => exact hr1.elim
        · simp only [putO, h2] at hr1
          have hr1 : h1 = setO h id (.row r0 xr) := hr1.2.symm
          subst hr1
          have x2 := x.one (id := id) (o := .row r0 xr) (go := .row l) hG ⟨l, v, hG, h4⟩ rfl
          exact backO_sound cs xs os vs ls _ bs os2 h' r ho2 (by simpa using hl) hx.2 (fun p hm => hp p (by simp only [pairC, hc, cond_true]; exact .tail _ hm)) x2 hr2
      | _ => exact hr.elim
theorem mrg_map {α β : Type} (f : α → β) : ∀ (ws : List Bool) (a b : List α), (mrg ws a b).map f = mrg ws (a.map f) (b.map f)
  | [], a, b => by simp [mrg]
  | true :: ws, [], b => by simp [mrg]
  | true :: ws, x :: a, [] => by simp [mrg]
  | true :: ws, x :: a, y :: b => by simp [mrg, mrg_map f ws a b]
  | false :: ws, [], b => by simp [mrg]
  | false :: ws, x :: a, b => by simp [mrg, mrg_map f ws a b]
theorem mrg_rel : ∀ (ws : List Bool) (xs os : List AV) (vs ks : List Value), VRelL B G1 xs vs → VRelL B G1 os ks → VRelL B G1 (mrg ws xs os) (mrg ws vs ks)
  | [], xs, os, vs, ks, _, _ => trivial
  | true :: ws, [], os, vs, ks, h, h' => by
    have := h.nil
    subst this
    exact trivial
  | true :: ws, x :: xs, [], vs, ks, h, h' => by
    have := h'.nil
    subst this
    obtain ⟨v, vs', rfl, _, _⟩ := h.cons
    exact trivial
  | true :: ws, x :: xs, o :: os, vs, ks, h, h' => by
    obtain ⟨v, vs', rfl, _, h2⟩ := h.cons
    obtain ⟨k, ks', rfl, h3, h4⟩ := h'.cons
    exact ⟨h3, mrg_rel ws xs os vs' ks' h2 h4⟩
  | false :: ws, [], os, vs, ks, h, h' => by
    have := h.nil
    subst this
    exact trivial
  | false :: ws, x :: xs, os, vs, ks, h, h' => by
    obtain ⟨v, vs', rfl, h1, h2⟩ := h.cons
    exact ⟨h1, mrg_rel ws xs os vs' ks h2 h'⟩
end
end Go.Abs

namespace Go.Abs
set_option linter.unusedSimpArgs false
set_option linter.unusedVariables false
open Go.RowKit

theorem Ls.bl_append : ∀ (a b : List L), Ls.bl (a ++ b) = Ls.bl a ++ Ls.bl b
  | [], b => rfl
  | x :: a, b => by simp [Ls.bl, Ls.bl_append a b]
theorem RefK.length {G : Gh} {h : Heap} : ∀ {ks : List CK} {as : List AV} {ls : List L}, RefK G h ks as ls → as.length = ks.length ∧ ls.length = ks.length
  | k :: ks, a :: as, l :: ls, h1 => by have := RefK.length h1.2; exact ⟨by simp [this.1], by simp [this.2]⟩
  | [], [], [], _ => ⟨rfl, rfl⟩
  | [], [], _ :: _, h => h.elim
  | [], _ :: _, _, h => h.elim
  | _ :: _, [], _, h => h.elim
  | _ :: _, _ :: _, [], h => h.elim
theorem RefK.split {G : Gh} {h : Heap} : ∀ {k1 k2 : List CK} {as : List AV} {ls : List L}, RefK G h (k1 ++ k2) as ls → RefK G h k1 (as.take k1.length) (ls.take k1.length) ∧ RefK G h k2 (as.drop k1.length) (ls.drop k1.length)
  | [], k2, as, ls, h1 => ⟨trivial, h1⟩
  | k :: k1, k2, as, ls, h1 => by
    match as, ls, h1 with
    | a :: as, l :: ls, h1 =>
      have := RefK.split (k1 := k1) h1.2
      exact ⟨⟨h1.1, this.1⟩, this.2⟩
    | [], _, h1 => exact h1.elim
    | _ :: _, [], h1 => exact h1.elim
theorem pairC_top {G : Gh} {h : Heap} : ∀ (cs : List CT) (xs : List AV) (ls l1 : List L), RefK G h (List.replicate cs.length .O) xs ls → xs.all okO = true → TopL (slOf cs ls) l1 → ∀ p ∈ pairC cs xs l1, ∃ l, G p.1 = some (.row l) ∧ TopS l p.2 ∧ getO h p.1 = none
  | [], xs, ls, l1, hr, hx, ht, p, hp => by cases xs <;> cases hp
  | c :: cs, [], ls, l1, hr, hx, ht, p, hp => by cases hp
  | c :: cs, x :: xs, [], l1, hr, hx, ht, p, hp => hr.elim
  | c :: cs, x :: xs, l :: ls, l1, hr, hx, ht, p, hp => by
    simp only [List.all_cons, Bool.and_eq_true] at hx
    simp only [pairC] at hp
    simp only [slOf] at ht
    cases hc : c.isS with
    | false =>
      rw [hc, cond_false] at hp ht
      exact pairC_top cs xs ls l1 hr.2 hx.2 ht p hp
    | true =>
      rw [hc, cond_true] at hp ht
      match l1, ht with
      | [], ht => exact ht.elim
      | l' :: l1, ht =>
        split at hp
        · rename_i id q u l2 l3 heq
          cases heq
          rcases List.mem_cons.1 hp with rfl | hp
          · have hx1 := hx.1
            have e : q = [] ∧ u = none := by
              cases q with
              | nil => cases u with
                | none => exact ⟨rfl, rfl⟩
                | some _ => cases hx1
              | cons _ _ => cases hx1
            obtain ⟨rfl, rfl⟩ := e
            have := hr.1 rfl id rfl
            exact ⟨l, this.1, ht.1, this.2⟩
          · exact pairC_top cs xs ls l1 hr.2 hx.2 ht.2 p hp
        · cases hp
theorem pairC_ids : ∀ (cs : List CT) (xs : List AV) (l1 : List L), ((pairC cs xs l1).map Prod.fst).Sublist (oIds (List.replicate cs.length .O) xs)
  | [], xs, l1 => by cases xs <;> exact List.nil_sublist _
  | c :: cs, [], l1 => List.nil_sublist _
  | c :: cs, x :: xs, l1 => by
    simp only [pairC, List.length_cons, List.replicate_succ, oIds, CK.isO, cond_true]
    cases hc : c.isS with
    | false => rw [cond_false]; exact (pairC_ids cs xs l1).trans (List.sublist_append_right _ _)
    | true =>
      rw [cond_true]
      split
      · rename_i id q u l2 l3
        simp only [List.map_cons, AV.idsS, List.singleton_append]
        exact (pairC_ids cs xs l3).cons_cons id
      · exact List.nil_sublist _
theorem oIds_append : ∀ (k1 k2 : List CK) (xs : List AV), oIds (k1 ++ k2) xs = oIds k1 (xs.take k1.length) ++ oIds k2 (xs.drop k1.length)
  | [], k2, xs => rfl
  | k :: k1, k2, [] => by cases k2 <;> rfl
  | k :: k1, k2, x :: xs => by
    simp only [List.cons_append, oIds, List.length_cons, List.take_succ_cons, List.drop_succ_cons, oIds_append k1 k2 xs]
    cases k.isO <;> simp
theorem pairsI_facts {G : Gh} {h : Heap} {w' : World} : ∀ (ms : Modes) (vs xs : List AV) (bx : List (Option Nat)) (cvs : List Value) (ls : List L) (kvs : List Value) (kls : List L), ms.all okMode = true → ArgB G ms vs xs bx → RefK G h (ksOf ms) xs ls → KeptM w' ms bx cvs ls kvs kls →
    (∀ p ∈ pairsI ms xs kls, ∃ l, G p.1 = some (.row l) ∧ TopS l p.2 ∧ getO h p.1 = none) ∧ ((pairsI ms xs kls).map Prod.fst).Sublist (oIds (ksOf ms) xs)
  | [], vs, xs, bx, cvs, ls, kvs, kls, _, _, _, _ => ⟨fun p hp => (by cases hp), List.nil_sublist _⟩
  | (m, a, cs) :: ms, vs, xs, bx, cvs, ls, kvs, kls, hok, ha, hr, hk => by
    simp only [List.all_cons, Bool.and_eq_true] at hok
    obtain ⟨v, vs', rfl, hm, ha'⟩ := ha
    have hkl := ks_length hok.1
    obtain ⟨r1, r2⟩ := RefK.split (k1 := m.ks cs.length) (k2 := ksOf ms) hr
    rw [hkl] at r1 r2
    have plain : ∀ kvs' kls', KeptM w' ms bx.tail (cvs.drop cs.length) (ls.drop cs.length) kvs' kls' → pairsI ((m, a, cs) :: ms) xs kls = pairsI ms (xs.drop cs.length) kls' →
        (∀ p ∈ pairsI ((m, a, cs) :: ms) xs kls, ∃ l, G p.1 = some (.row l) ∧ TopS l p.2 ∧ getO h p.1 = none) ∧ ((pairsI ((m, a, cs) :: ms) xs kls).map Prod.fst).Sublist (oIds (ksOf ((m, a, cs) :: ms)) xs) := by
      intro kvs' kls' h1 h2
      have ih := pairsI_facts ms vs' (xs.drop cs.length) bx.tail (cvs.drop cs.length) (ls.drop cs.length) kvs' kls' hok.2 ha' r2 h1
      rw [h2]
      refine ⟨ih.1, ih.2.trans ?_⟩
      simp only [ksOf]
      rw [oIds_append, hkl]
      exact List.sublist_append_right _ _
    cases m with
    | B => exact plain _ _ hk rfl
    | M => exact plain _ _ hk rfl
    | Q => exact plain _ _ hk rfl
    | P ws =>
      obtain ⟨b, e, k1, l1, kvs', kls', h1, rfl, rfl, h2, h3, h4, h5⟩ := hk
      refine plain _ _ h5 ?_
      simp only [pairsI]
      rw [← h3]; simp
    | I =>
      obtain ⟨l1, kvs', kls', rfl, rfl, h1, h2⟩ := hk
      have ih := pairsI_facts ms vs' (xs.drop cs.length) bx.tail (cvs.drop cs.length) (ls.drop cs.length) kvs' kls' hok.2 ha' r2 h2
      have hlen : l1.length = nsl cs := by
        rw [← h1.length]
        exact slOf_length cs _ (by have := r1.length.2; simpa [Mode.ks] using this)
      have e : pairsI ((.I, a, cs) :: ms) xs (l1 ++ kls') = pairC cs (xs.take cs.length) l1 ++ pairsI ms (xs.drop cs.length) kls' := by
        simp only [pairsI]
        rw [← hlen]; simp
      rw [e]
      refine ⟨fun p hp => (List.mem_append.1 hp).elim (pairC_top cs _ _ l1 r1 hm h1 p) (ih.1 p), ?_⟩
      simp only [ksOf, List.map_append]
      rw [oIds_append, hkl]
      exact (pairC_ids cs _ l1).append ih.2
theorem mineB_nil : ∀ ms : Modes, mineB ms [] = []
  | [] => rfl
  | (m, a, cs) :: ms => rfl
section
variable {B : Base} {G G1 : Gh} {z : List Pl} {w w' : World} {nh : Heap}
theorem purge_self {as : List AV} {vs : List Value} (h : VRelL B G1 as vs) : VRelL B G1 (as.map (purgeVs z)) vs := purgeVsL_rel (fun _ _ _ h => h) h
theorem backG_sound {h0 : Heap} : ∀ (ms : Modes) (vs xs os : List AV) (bx : List (Option Nat)) (cvs : List Value) (ls : List L) (kvs : List Value) (kls : List L) (h : Heap) (bs : List Nat) (h' : Heap) (u : Unit), ms.all okMode = true → ArgB G ms vs xs bx → RefK G h0 (ksOf ms) xs ls → KeptM w' ms bx cvs ls kvs kls →
    VRelL B G1 (xs.map (purgeVs z)) cvs → OutL B G1 w' nh os kvs kls → (∀ p ∈ pairsI ms xs kls, G1 p.1 = some (.row p.2)) → (∀ id b, G id = some (.box b) → G1 id = some (.box b)) → Put B G1 w' z h (Ls.bl kls ++ (mineB ms bx ++ bs)) → (backG nh ms vs xs os).Has h u h' → Put B G1 w' z h' bs
  | [], vs, xs, os, bx, cvs, ls, kvs, kls, h, bs, h', u, _, ha, hr, hk, hv, ho, hp, hb, x, hg => by
    obtain ⟨rfl, rfl⟩ := hk
    match os, ho with
    | [], _ =>
      have : vs = [] := ha
      subst this
      obtain ⟨_, rfl⟩ := hg
      exact x
    | _ :: _, ho => exact ho.elim
  | (m, a, cs) :: ms, vs, xs, os, bx, cvs, ls, kvs, kls, h, bs, h', u, hok, ha, hr, hk, hv, ho, hp, hb, x, hg => by
    simp only [List.all_cons, Bool.and_eq_true] at hok
    obtain ⟨v, vs', rfl, hm, ha'⟩ := ha
    have hkl := ks_length hok.1
    obtain ⟨r1, r2⟩ := RefK.split (k1 := m.ks cs.length) (k2 := ksOf ms) hr
    rw [hkl] at r1 r2
    have hvd := VRelL.drop cs.length hv
    rw [← List.map_drop] at hvd
    have hmine : m.isP = false → mineB ((m, a, cs) :: ms) bx = mineB ms bx.tail := by
      intro h
      cases bx with
      | nil => simp [mineB_nil]
      | cons ob bx => simp [mineB, h]
    have plain : m.isP = false → pairsI ((m, a, cs) :: ms) xs kls = pairsI ms (xs.drop cs.length) kls → KeptM w' ms bx.tail (cvs.drop cs.length) (ls.drop cs.length) kvs kls → (backG nh ms vs' (xs.drop cs.length) os).Has h u h' → Put B G1 w' z h' bs := by
      intro h1 h2 h3 h4
      rw [hmine h1] at x
      exact backG_sound ms vs' _ os bx.tail _ _ kvs kls h bs h' u hok.2 ha' r2 h3 hvd ho (fun p hm => hp p (by rw [h2]; exact hm)) hb x h4
    cases m with
    | B => exact plain rfl rfl hk hg
    | M => exact plain rfl rfl hk hg
    | Q => exact plain rfl rfl hk hg
    | I =>
      obtain ⟨l1, kvs', kls', rfl, rfl, h1, h2⟩ := hk
      have hlen : l1.length = nsl cs := by
        rw [← h1.length]
        exact slOf_length cs _ (by have := r1.length.2; simpa [Mode.ks] using this)
      have hlen2 : (slOf cs (cvs.take cs.length)).length = l1.length := by
        rw [hlen]
        refine slOf_length cs _ ?_
        have := hv.length
        have e1 := r1.length.1
        simp only [Mode.ks, List.length_replicate, List.length_take] at e1
        simp only [List.length_map] at this
        rw [List.length_take, ← this]
        exact e1
      obtain ⟨o1, o2⟩ := ho.split hlen2
      have e : pairsI ((.I, a, cs) :: ms) xs (l1 ++ kls') = pairC cs (xs.take cs.length) l1 ++ pairsI ms (xs.drop cs.length) kls' := by
        simp only [pairsI]
        rw [← hlen]; simp
      rw [e] at hp
      simp only [backG] at hg
      obtain ⟨os', h3, hg1, hg2⟩ := (DH.has_andThen _ _ _ _ _).1 hg
      rw [hmine rfl, Ls.bl_append, List.append_assoc] at x
      rw [← List.take_append_drop (slOf cs (cvs.take cs.length)).length os] at hg1
      obtain ⟨rfl, x2⟩ := backO_sound cs (xs.take cs.length) _ _ l1 h _ _ h3 os' o1 hlen hm (fun p hm => hp p (List.mem_append_left _ hm)) x hg1
      exact backG_sound ms vs' _ _ bx.tail _ _ kvs' kls' h3 bs h' u hok.2 ha' r2 h2 hvd o2 (fun p hm => hp p (List.mem_append_right _ hm)) hb x2 hg2
    | P ws =>
      obtain ⟨b, e, k1, l1, kvs', kls', h1, rfl, rfl, h2, h3, h4, h5⟩ := hk
      obtain ⟨id, b', rfl, h6, h7⟩ := hm
      rw [h1] at h6
      cases h6
      obtain ⟨o1, o2⟩ := ho.split (by rw [h2, h3])
      rw [h2] at o1 o2
      have ep : pairsI ((.P ws, a, cs) :: ms) xs (l1 ++ kls') = pairsI ms (xs.drop cs.length) kls' := by
        simp only [pairsI]
        rw [← h3]; simp
      rw [ep] at hp
      simp only [backG] at hg
      obtain ⟨u1, h8, hg1, hg2⟩ := (DH.has_andThen _ _ _ _ _).1 hg
      have hg1 : h8 = setO h id (.box (mrg ws (xs.take cs.length) (os.take (cnt ws)))) := hg1.2.symm
      subst hg1
      obtain ⟨u2, h9, hg3, hg4⟩ := (DH.has_andThen _ _ _ _ _).1 hg2
      match bx, h1 with
      | ob :: bx, h1 =>
        simp only [List.head?_cons, Option.some.injEq] at h1
        subst h1
        simp only [List.tail_cons] at h5 ha'
        have x1 : Put B G1 w' z h ((GO.box b).bl ++ (Ls.bl l1 ++ (Ls.bl kls' ++ (mineB ms bx ++ bs)))) := by
          refine x.perm ?_
          simp only [mineB, Mode.isP, cond_true, Option.toList, GO.bl, Ls.bl_append, List.append_assoc, List.singleton_append, List.cons_append, List.nil_append]
          have := List.perm_middle (a := b) (l₁ := Ls.bl l1 ++ Ls.bl kls') (l₂ := mineB ms bx ++ bs)
          simpa only [List.append_assoc] using this
        have hvt := VRelL.take cs.length hv
        rw [← List.map_take] at hvt
        have x2 := x1.one (id := id) (o := .box (mrg ws (xs.take cs.length) (os.take (cnt ws)))) (hb id b h7) ⟨b, _, e, hb id b h7, h4, by
          rw [mrg_map]
          simp only [List.toList_toArray]
          exact mrg_rel ws _ _ _ _ hvt (purge_self o1.rel)⟩ rfl
        have x3 := putNew_sound _ _ l1 _ _ h9 u2 o1 x2 hg3
        exact backG_sound ms vs' _ _ bx _ _ kvs' kls' h9 bs h' u hok.2 ha' r2 h5 hvd o2 hp hb x3 hg4
      | [], h1 => cases h1
end

/-! ### ghosts that are other now -/
def ovr : List (Nat × L) → Gh → Gh
  | [], G => G
  | (i, l) :: T, G => fun id => if i = id then some (.row l) else ovr T G id
theorem ovr_mem {G : Gh} : ∀ {T : List (Nat × L)}, (T.map Prod.fst).Nodup → ∀ p ∈ T, ovr T G p.1 = some (.row p.2)
  | (i, l) :: T, hn, p, hp => by
    simp only [List.map_cons, List.nodup_cons] at hn
    rcases List.mem_cons.1 hp with rfl | hp
    · simp [ovr]
    · have : i ≠ p.1 := fun e => hn.1 (e ▸ List.mem_map_of_mem hp)
      simp only [ovr, if_neg this]
      exact ovr_mem hn.2 p hp
theorem ovr_not {G : Gh} : ∀ {T : List (Nat × L)} {id : Nat}, id ∉ T.map Prod.fst → ovr T G id = G id
  | [], id, _ => rfl
  | (i, l) :: T, id, h => by
    simp only [List.map_cons, List.mem_cons, not_or] at h
    simp only [ovr, if_neg (fun e => h.1 e.symm : ¬ i = id)]
    exact ovr_not h.2
def newP : Nat → List L → List (Nat × L)
  | _, [] => []
  | n, l :: ls => (n, l) :: newP (n + 1) ls
theorem newP_ids : ∀ (ls : List L) (n id : Nat), id ∈ (newP n ls).map Prod.fst → n ≤ id ∧ id < n + ls.length
  | [], n, id, h => by cases h
  | l :: ls, n, id, h => by
    simp only [newP, List.map_cons, List.mem_cons] at h
    rcases h with rfl | h
    · simp
    · have := newP_ids ls (n + 1) id h
      simp; omega
theorem newP_get {G : Gh} : ∀ (ls : List L) (n i : Nat) (l : L), ls[i]? = some l → ovr (newP n ls) G (n + i) = some (.row l)
  | [], n, i, l, h => by cases h
  | x :: ls, n, 0, l, h => by
    simp only [List.getElem?_cons_zero, Option.some.injEq] at h
    subst h
    simp [newP, ovr]
  | x :: ls, n, i + 1, l, h => by
    simp only [newP, ovr]
    rw [if_neg (by omega), show n + (i + 1) = n + 1 + i by omega]
    exact newP_get ls (n + 1) i l (by simpa using h)
theorem vis_of {B : Base} {G G1 : Gh} {z : List Pl} (h : ∀ id, G1 id = G id ∨ G id = none ∨ ((id, []) ∈ z ∧ ∃ l l', G id = some (.row l) ∧ G1 id = some (.row l') ∧ TopS l l')) : ∀ x u, (∀ i ∈ z, AV.deepS i x = false) → VRelS B G x u → VRelS B G1 x u := by
  intro x u hd hv
  cases x with
  | ref id p view =>
    rcases h id with h1 | h1 | ⟨hz, l, l', h1, h2, ht⟩
    · cases view with
      | none => obtain ⟨loc, n, h3, h4⟩ := hv; exact ⟨loc, n, by unfold Gh.at at h3 ⊢; rw [h1]; exact h3, h4⟩
      | some om => obtain ⟨o, m⟩ := om; obtain ⟨loc, n, h3, h4⟩ := hv; exact ⟨loc, n, by unfold Gh.at at h3 ⊢; rw [h1]; exact h3, h4⟩
    · exfalso
      cases view with
      | none => obtain ⟨loc, n, h3, h4⟩ := hv; unfold Gh.at at h3; rw [h1] at h3; cases h3
      | some om => obtain ⟨o, m⟩ := om; obtain ⟨loc, n, h3, h4⟩ := hv; unfold Gh.at at h3; rw [h1] at h3; cases h3
    · cases p with
      | nil =>
        obtain ⟨l0, g1, g2⟩ := ref_iff.1 hv
        rw [h1] at g1; cases g1
        exact ref_iff.2 ⟨l', h2, ht.ref _ _ g2⟩
      | cons q p =>
        have := hd (id, []) hz
        simp [AV.deepS, preC] at this
  | eptr id p i c =>
    rcases h id with h1 | h1 | ⟨hz, l, l', h1, h2, ht⟩
    · obtain ⟨b, off, cap, sz, n, h3, h4⟩ := hv
      exact ⟨b, off, cap, sz, n, by unfold Gh.at at h3 ⊢; rw [h1]; exact h3, h4⟩
    · exfalso
      obtain ⟨b, off, cap, sz, n, h3, h4⟩ := hv
      unfold Gh.at at h3; rw [h1] at h3; cases h3
    · cases p with
      | nil =>
        obtain ⟨l0, g1, g2⟩ := eptr_iff.1 hv
        rw [h1] at g1; cases g1
        exact eptr_iff.2 ⟨l', h2, ht.eptr _ _ _ g2⟩
      | cons q p =>
        have := hd (id, []) hz
        simp [AV.deepS, preC] at this
  | ptr id off =>
    obtain ⟨b, g1, g2⟩ := hv
    rcases h id with h1 | h1 | ⟨hz, l, l', h1, h2, ht⟩
    · exact ⟨b, by rw [h1]; exact g1, g2⟩
    · rw [h1] at g1; cases g1
    · rw [h1] at g1; cases g1
  | _ => exact hv
theorem packRes_append : ∀ {res : List (Bool × List CT)} {us ovs : List Value} {c1 c2 : List AV}, PackV res us ovs → c1.length = ovs.length → packRes res (c1 ++ c2) = ((packRes res c1).1, c2)
  | [], us, ovs, c1, c2, hp, hl => by
    rw [hp.2] at hl
    have : c1 = [] := List.eq_nil_of_length_eq_zero hl
    subst this
    rfl
  | (a, cs) :: res, us, ovs, c1, c2, hp, hl => by
    obtain ⟨u, us', own, rest, rfl, rfl, h1, h2, h3, h4⟩ := hp
    have hn : cs.length ≤ c1.length := by rw [hl, List.length_append, h1]; omega
    have e1 : (c1 ++ c2).drop cs.length = c1.drop cs.length ++ c2 := by rw [List.drop_append_of_le_length hn]
    have e2 : (c1 ++ c2).take cs.length = c1.take cs.length := by rw [List.take_append_of_le_length hn]
    simp only [packRes, e1, e2]
    rw [packRes_append (c2 := c2) h4 (by rw [List.length_drop, hl, List.length_append, h1]; omega)]
theorem seen_apart {B : Base} {G : Gh} {h h2 : Heap} {w : World} (s : Sim B G h2 w) (hsub : ∀ i o, getO h2 i = some o → getO h i = some o) {ids own : List Nat} (ha : ∀ id ∈ ids, ∃ o, getO h2 id = some o) (hh : Held B G h2 w own) {b : Nat} (hs : Seen B G h ids b) : b < w.heap.size ∧ b ∉ own := by
  rcases hs with hs | ⟨id, o, go, h1, h3, h4, h5, h6⟩
  · exact ⟨Nat.lt_of_lt_of_le hs.1 s.size, fun hm => (hh.mine b hm).2 hs⟩
  · obtain ⟨o2, ho2⟩ := ha id h1
    have := hsub _ _ ho2
    rw [h3] at this; cases this
    exact ⟨(s.mine id o go ho2 h4 h5 b h6).1, fun hm => hh.apart id o go ho2 h4 h5 b hm h6⟩
end Go.Abs

namespace Go.Abs
set_option linter.unusedSimpArgs false
set_option linter.unusedVariables false
open Go.RowKit

theorem ORel.ghost {B : Base} {G : Gh} {w : World} {id : Nat} {o : Obj} (h : ORel B G w id o) : ∃ go, G id = some go := by
  cases o with
  | box cs => obtain ⟨b, _, _, h, _⟩ := h; exact ⟨_, h⟩
  | robox cs => obtain ⟨b, _, h, _⟩ := h; exact ⟨_, h⟩
  | row r x => obtain ⟨l, _, h, _⟩ := h; exact ⟨_, h⟩
  | part rt cols r x lo hi => obtain ⟨l, _, h, _⟩ := h; exact ⟨_, h⟩
/-- What a call leaves, with what is held beside. -/
structure PostF (B : Base) (G : Gh) (nb n : Nat) (av : AV) (z : List Pl) (h' : Heap) (w : World) (bs : List Nat) (v : Value) (w' : World) : Prop where
  out : ∃ G', Sim B G' (purgeHs z h') w' ∧ Held B G' (purgeHs z h') w' bs ∧ (∀ b ∈ bs, w'.heap[b]? = w.heap[b]?) ∧ VRel B G' av v ∧ (∀ x u, (∀ i ∈ z, x.deepS i = false) → VRelS B G x u → VRelS B G' x u) ∧
    (∀ id, G id = none → (id < nb ∨ nb + n ≤ id) → G' id = none) ∧ (∀ id go, (id, []) ∉ z → G id = some go → G' id = some go)
theorem TupV.noVs {F F' : Fz} {w : World} : ∀ {cs : List CT} {x : Tup cs} {ms : List Bool} {ls : List L} {vs : List Value}, cs.all CT.noVs = true → TupV F w cs x ms ls vs → TupV F' w cs x ms ls vs
  | [], _, ms, ls, vs, _, h => h
  | [c], x, ms, ls, vs, hn, h => by
    obtain ⟨m, l, v, rfl, rfl, rfl, h⟩ := h
    exact ⟨m, l, v, rfl, rfl, rfl, CellV.noVs _ _ _ _ (by simpa using hn) h⟩
  | c :: d :: cs, x, ms, ls, vs, hn, h => by
    obtain ⟨m, ms', l, ls', v, vs', rfl, rfl, rfl, h, ht⟩ := h
    rw [List.all_cons, Bool.and_eq_true] at hn
    exact ⟨m, ms', l, ls', v, vs', rfl, rfl, rfl, CellV.noVs _ _ _ _ hn.1 h, TupV.noVs hn.2 ht⟩
theorem ConG.callF {P : Program} {f : Nat} {k : Con} (hok : k.ok = true) (hk : ConG P f k) (B : Base) (G : Gh) (h : Heap) (w : World) (nb : Nat) (vs : List AV) (us : List Value) (av : AV) (z : List Pl) (h' : Heap) (bs0 : List Nat) (hP : B.P = P) (s : Sim B G h w) (hh0 : Held B G h w bs0) (hv : VRelF B G vs us)
    (hf : ∀ id, nb ≤ id → id < nb + k.outs.length → G id = none) (hr : (callG nb k vs).Has h (av, z) h') : Calls P f us.toArray w (Ret fun u w' => PostF B G nb k.outs.length av z h' w bs0 u w') := by
  simp only [Con.ok, Bool.and_eq_true, Bool.not_eq_true'] at hok
  obtain ⟨hnB, hok, hcs, hle1, hle2⟩ := hok
  have hcs := sameCs_eq hcs
  have hkl := ksOf_length hok
  unfold callG at hr
  cases h16 : (Nat.blt 16 k.outs.length || !k.ins.all CT.noVs) with
  | true => rw [h16] at hr; exact hr.elim
  | false =>
  rw [h16, cond_false] at hr
  rw [Bool.or_eq_false_iff] at h16
  have hno : k.ins.all CT.noVs = true := by simpa using h16.2
  replace h16 := h16.1
  have hlen : k.outs.length ≤ 16 := by
    rcases Nat.lt_or_ge 16 k.outs.length with h | h
    · rw [(blt_iff _ _).2 h] at h16; cases h16
    · exact h
  obtain ⟨r, h1, r1, q1⟩ := (DH.has_andThen _ _ _ _ _).1 hr
  clear hr
  obtain ⟨cvs, bx, M⟩ := argG_sound k.modes vs us h r h1 s hh0 hv hok r1
  cases hdup : dup (oIds (ksOf k.modes) r.1) with
  | true => rw [hdup] at q1; exact q1.elim
  | false =>
  rw [hdup, cond_false] at q1
  obtain ⟨x, h2, r2, q2⟩ := (DH.has_andThen _ _ _ _ _).1 q1
  obtain ⟨ls, m⟩ := inTup_mix k.ins (ksOf k.modes) r.1 cvs h1 (mineB k.modes bx ++ bs0) x h2 M.sim M.rel M.held (by rw [hkl, hcs]) (by rw [M.len, hcs]) r2
  obtain ⟨u0, h3, r3, q3⟩ := (DH.has_andThen _ _ _ _ _).1 q2
  obtain ⟨rfl, hal⟩ := alive_has r3
  obtain ⟨y, hy, q4⟩ := q3
  obtain ⟨u1, h4, r4, q5⟩ := (DH.has_andThen _ _ _ _ _).1 q4
  obtain ⟨u2, h5, r5, q6⟩ := (DH.has_andThen _ _ _ _ _).1 q5
  have q6 : ((oneOrTup (packRes k.res (newTup nb k.outs y).1).1, (oIds (ksOf k.modes) r.1).map fun i => (i, [])) : AV × List Pl) = (av, z) ∧ h5 = h' := q6
  obtain ⟨e1, rfl⟩ := q6
  cases e1
  -- what is handed over
  have hsub : ∀ i o, getO h3 i = some o → getO h i = some o := fun i o hi => M.sub i o (m.sub i o hi)
  have hfull : Held B G h3 w ((ownBl (ksOf k.modes) ls ++ mineB k.modes bx) ++ bs0) := by
    rw [List.append_assoc]
    exact m.held.perm List.perm_append_comm
  have hheld : Held B G h3 w (ownBl (ksOf k.modes) ls ++ mineB k.modes bx) := hfull.sub (List.sublist_append_left _ _)
  have hapart : ∀ b ∈ bs0, b ∉ ownBl (ksOf k.modes) ls ++ mineB k.modes bx := fun b hb hm => (List.nodup_append.1 hfull.nodup).2.2 b hm b hb rfl
  have hargs : ArgsG w k us cvs bx ls x := by
    refine ⟨M.args, m.tup.noVs hno, fun b hb => ?_, hheld.nodup, fun b hb => (hheld.mine b hb).1⟩
    rcases List.mem_append.1 hb with hb | hb
    · exact seen_apart m.sim m.sub (fun id hi => hal id (List.mem_append_left _ hi)) hheld (m.seen b hb)
    · exact seen_apart m.sim hsub (fun id hi => hal id (List.mem_append_right _ hi)) hheld (M.seen b hb)
  refine (hk.run w us cvs bx ls x y hargs hy).mono fun e w' he => ?_
  cases e with
  | panicked ch => exact he.elim
  | outgrown => exact he.elim
  | returned u =>
  obtain ⟨⟨us', ovs, ols, kvs, kls, rfl, hp, hto, holl, hkept, hnd, hfresh⟩, hturn⟩ := he
  have hto := hto.of0 (F := B.fz)
  obtain ⟨ht1, ht2⟩ := pairsI_facts k.modes vs r.1 bx cvs ls kvs kls hok M.back m.ref hkept
  have hTn : ((pairsI k.modes r.1 kls).map Prod.fst).Nodup := (nodup_of_dup hdup).sublist ht2
  have htl : (ols ++ kls).length = k.outs.length := by
    have h1 := (newTup_length k.outs nb y)
    have h2 : ∀ {cs : List CT} {x : Tup cs} {vs : List Value} {ls : List L}, TupW B.fz w' true cs x vs ls → ls.length = cs.length := by
      intro cs
      induction cs with
      | nil => intro x vs ls h; rw [h.2]; rfl
      | cons c cs ih =>
        intro x vs ls h
        cases cs with
        | nil => obtain ⟨v, l, rfl, rfl, _⟩ := h; rfl
        | cons d cs =>
          obtain ⟨v, l, vs', ls', rfl, rfl, _, h⟩ := h
          simp [ih h]
    exact h2 hto
  -- the new ghosts
  let G1 : Gh := ovr (pairsI k.modes r.1 kls) (ovr (newP nb (ols ++ kls)) G)
  have hnew : ∀ id, id ∈ (newP nb (ols ++ kls)).map Prod.fst → G id = none := fun id hi => by
    have := newP_ids _ _ _ hi
    exact hf id this.1 (by omega)
  have hTI : ∀ p ∈ pairsI k.modes r.1 kls, G1 p.1 = some (.row p.2) := fun p hp => ovr_mem hTn p hp
  have hnotI : ∀ id, G id = none → id ∉ (pairsI k.modes r.1 kls).map Prod.fst := fun id hg hm => by
    obtain ⟨p, hp, rfl⟩ := List.mem_map.1 hm
    obtain ⟨l, h1, _⟩ := ht1 p hp
    rw [hg] at h1; cases h1
  have hsame : ∀ id, id ∉ (pairsI k.modes r.1 kls).map Prod.fst → G id ≠ none → G1 id = G id := fun id h1 h2 => by
    show ovr _ _ id = _
    rw [ovr_not h1, ovr_not fun hm => h2 (hnew id hm)]
  have hgnew : ∀ i l, (ols ++ kls)[i]? = some l → G1 (nb + i) = some (.row l) := fun i l hl => by
    have hi : i < (ols ++ kls).length := by
      rcases Nat.lt_or_ge i (ols ++ kls).length with h | h
      · exact h
      · rw [List.getElem?_eq_none h] at hl; cases hl
    show ovr _ _ (nb + i) = _
    rw [ovr_not (hnotI _ (hf _ (by omega) (by omega)))]
    exact newP_get _ _ _ _ hl
  have hvis : ∀ x u, (∀ i ∈ (oIds (ksOf k.modes) r.1).map (fun i => ((i, []) : Pl)), AV.deepS i x = false) → VRelS B G x u → VRelS B G1 x u := vis_of fun id => by
    by_cases hm : id ∈ (pairsI k.modes r.1 kls).map Prod.fst
    · obtain ⟨p, hp, rfl⟩ := List.mem_map.1 hm
      obtain ⟨l, h1, h2, _⟩ := ht1 p hp
      exact .inr (.inr ⟨List.mem_map.2 ⟨_, ht2.subset hm, rfl⟩, l, p.2, h1, hTI p hp, h2⟩)
    · by_cases hg : G id = none
      · exact .inr (.inl hg)
      · exact .inl (hsame id hm hg)
  have hGobj : ∀ id o, getO h3 id = some o → G1 id = G id := fun id o ho => by
    refine hsame id (fun hm => ?_) (fun hg => ?_)
    · obtain ⟨p, hp, rfl⟩ := List.mem_map.1 hm
      obtain ⟨l, h1, h2, h3'⟩ := ht1 p hp
      rw [ho] at h3'; cases h3'
    · obtain ⟨go, hgo⟩ := (m.sim.obj id o ho).ghost
      rw [hg] at hgo; cases hgo
  have hbox : ∀ id b, G id = some (.box b) → G1 id = some (.box b) := fun id b hg => by
    rw [hsame id (fun hm => ?_) (by rw [hg]; exact fun h => by cases h)]
    · exact hg
    · obtain ⟨p, hp, rfl⟩ := List.mem_map.1 hm
      obtain ⟨l, h1, _⟩ := ht1 p hp
      rw [hg] at h1; cases h1
  -- memory
  have hsim1 : Sim B G1 (purgeHs ((oIds (ksOf k.modes) r.1).map fun i => (i, [])) h3) w' := m.sim.after hturn (fun b hb => (hheld.mine b hb).2) (fun id o go ho hw hg b hm hb => hheld.apart id o go ho hw hg b hb hm) hGobj hvis
  have hput : Put B G1 w' ((oIds (ksOf k.modes) r.1).map fun i => (i, [])) h3 (Ls.bl ols ++ (Ls.bl kls ++ (mineB k.modes bx ++ bs0))) := by
    rw [← List.append_assoc, ← List.append_assoc, ← Ls.bl_append, List.append_assoc, ← List.append_assoc]
    have hlt : ∀ b ∈ Ls.bl (ols ++ kls) ++ mineB k.modes bx, b ∉ bs0 := fun b hb hm => by
      rcases List.mem_append.1 hb with hb | hb
      · rcases (hfresh b hb).1 with g1 | g1
        · have := (hfull.mine b (List.mem_append_right _ hm)).1; omega
        · exact hapart b hm g1
      · exact hapart b hm (List.mem_append_right _ hb)
    refine ⟨hsim1, List.nodup_append.2 ⟨hnd, (List.nodup_append.1 hfull.nodup).2.1, fun a ha b hb e => hlt a ha (e ▸ hb)⟩, fun b hb => ?_, fun id o go ho hw hg b hb hm => ?_⟩
    · rcases List.mem_append.1 hb with hb | hb
      · rcases List.mem_append.1 hb with hb | hb
        · obtain ⟨g1, g2⟩ := hfresh b hb
          refine ⟨g2, fun hs => ?_⟩
          rcases g1 with g1 | g1
          · have := hs.1; have := s.size; omega
          · exact (hheld.mine b g1).2 hs
        · have := hheld.mine b (List.mem_append_right _ hb)
          exact ⟨Nat.lt_of_lt_of_le this.1 hturn.size, this.2⟩
      · have := hfull.mine b (List.mem_append_right _ hb)
        exact ⟨Nat.lt_of_lt_of_le this.1 hturn.size, this.2⟩
    · obtain ⟨o0, ho0, rfl⟩ := getO_purged ho
      rw [ownd_purgeOs] at hw
      rw [obl_purgeOs] at hm
      rw [hGobj id o0 ho0] at hg
      rcases List.mem_append.1 hb with hb | hb
      · rcases List.mem_append.1 hb with hb | hb
        · rcases (hfresh b hb).1 with g1 | g1
          · have := (m.sim.mine id o0 go ho0 hw hg b hm).1; omega
          · exact hheld.apart id o0 go ho0 hw hg b g1 hm
        · exact hheld.apart id o0 go ho0 hw hg b (List.mem_append_right _ hb) hm
      · exact hfull.apart id o0 go ho0 hw hg b (List.mem_append_right _ hb) hm
  have hout : OutL B G1 w' (newTup nb k.outs y).2 (newTup nb k.outs y).1 (ovs ++ kvs) (ols ++ kls) := outL_of k.outs nb y _ _ hto (fun j o h => h) hgnew
  obtain ⟨o1, o2⟩ := hout.split holl.symm
  have hc : (newTup nb k.outs y).1 = (newTup nb k.outs y).1.take ovs.length ++ (newTup nb k.outs y).1.drop ovs.length := (List.take_append_drop _ _).symm
  have hc1 : ((newTup nb k.outs y).1.take ovs.length).length = ovs.length := o1.length.1
  have hpk : packRes k.res (newTup nb k.outs y).1 = ((packRes k.res ((newTup nb k.outs y).1.take ovs.length)).1, (newTup nb k.outs y).1.drop ovs.length) := by
    rw [← packRes_append hp hc1, ← hc]
  rw [hpk] at r4 r5 ⊢
  simp only at r4 r5 ⊢
  rw [pack_ids k.res _ us' ovs (fun a ha => newTup_S _ _ _ a (List.mem_of_mem_take ha)) hc1 hp] at r4
  have hput2 := putNew_sound _ ovs ols h3 _ h4 u1 o1 hput r4
  have hput3 := backG_sound (G := G) k.modes vs r.1 _ bx cvs ls kvs kls h4 bs0 h5 u2 hok M.back m.ref hkept (purgeVsL_rel hvis M.rel) o2 hTI hbox hput2 r5
  refine ⟨⟨G1, hput3.sim, hput3.held, fun b hb => ?_, oneOrTup_rel (pack_rel k.res _ us' ovs o1.rel hp), hvis, fun id hid hne => ?_, fun id go hz hg => ?_⟩⟩
  · exact hturn.block b (hfull.mine b (List.mem_append_right _ hb)).1 (hapart b hb)
  · show ovr _ _ id = none
    rw [ovr_not (hnotI id hid), ovr_not fun hm => ?_]
    · exact hid
    · have := newP_ids _ _ _ hm; omega
  · rw [hsame id (fun hm => hz (List.mem_map.2 ⟨_, ht2.subset hm, rfl⟩)) (by rw [hg]; exact fun h => by cases h)]
    exact hg

section
variable {P : Program} {fs : Nat → Option Func} {tb : Tb} {cons : Cons} {L : List (Nat × Loops)} {ptrs : List (Nat × List (Int × Nat) × Nat)}
/-- A contract, out of its check. -/
theorem ConG.make (hfs : FsS P fs) (hmix : P.follows .mixedOrders = true) (hty : tyCheck P tb = true) (hc : ConsP P cons) (hp : PtrsP P ptrs) (hL : LoopsP fs (ctxOf tb cons L ptrs) L) {f : Nat} {fn : Func} (hf : fs f = some fn) {k : Con}
    (hk : k.ok = true) (E : ∀ x, funG fs (ctxOf tb cons L ptrs) 6 f k x = k.fn x) : ConG P f k :=
  ConG.of (Base0.make hfs hmix hty hc hp hL) (Nat.le_refl 6) hf (fun b hb => loopsTop hL hf hb) hk E
end
end Go.Abs

namespace Go.Abs
set_option linter.unusedSimpArgs false
set_option linter.unusedVariables false
open Go.RowKit

/-! ### a tree with one slice turned -/
def L.rep (l : L) (k' : L) : List (Int × Nat) → L
  | [] => k'
  | (i, j) :: p => match l with
    | .sl loc kids => match kids[i.toNat]? with
      | some ks => match ks[j]? with
        | some k => .sl loc (kids.set i.toNat (ks.set j (k.rep k' p)))
        | none => .leaf
      | none => .leaf
    | .leaf => .leaf
theorem L.count_rep {k' : L} : ∀ (p : List (Int × Nat)) (l k : L) (b : Nat), l.sub p = some k → (l.rep k' p).bl.count b + k.bl.count b = l.bl.count b + k'.bl.count b
  | [], l, k, b, hs => by
    simp only [L.sub, Option.some.injEq] at hs
    subst hs
    simp only [L.rep]; omega
  | (i, j) :: p, l, k, b, hs => by
    cases l with
    | leaf => simp [L.sub] at hs
    | sl loc kids =>
      simp only [L.sub] at hs
      cases e1 : kids[i.toNat]? with
      | none => simp [e1] at hs
      | some ks =>
        simp only [e1] at hs
        cases e2 : ks[j]? with
        | none => simp [e2] at hs
        | some k1 =>
          simp only [e2] at hs
          by_cases e3 : 0 ≤ i
          · rw [if_pos e3] at hs
            have h1 := L.count_rep (k' := k') p k1 k b hs
            have h2 := Ls.count_set ks j (k1.rep k' p) k1 b e2
            have h3 := Lss.count_set kids i.toNat (ks.set j (k1.rep k' p)) ks b e1
            simp only [L.rep, e1, e2, L.bl, List.count_append]; omega
          · rw [if_neg e3] at hs; cases hs
theorem L.rep_top {k' : L} (l k : L) (s : Int × Nat) (p : List (Int × Nat)) (h : l.sub (s :: p) = some k) : (l.rep k' (s :: p)).at [] = l.at [] := by
  obtain ⟨i, j⟩ := s
  cases l with
  | leaf => simp [L.sub] at h
  | sl loc kids =>
    simp only [L.sub] at h
    cases e1 : kids[i.toNat]? with
    | none => simp [e1] at h
    | some ks =>
      simp only [e1] at h
      cases e2 : ks[j]? with
      | none => simp [e2] at h
      | some k1 => simp only [L.rep, e1, e2, L.at, List.length_set]
theorem TopS.of_at {l l' : L} (h : l'.at [] = l.at []) : TopS l l' := by
  refine ⟨fun view v hv => ?_, fun i c v hv => ?_⟩
  · cases view with
    | none => obtain ⟨loc, n, h1, h2⟩ := hv; exact ⟨loc, n, by rw [h]; exact h1, h2⟩
    | some om => obtain ⟨o, m⟩ := om; obtain ⟨loc, n, h1, h2⟩ := hv; exact ⟨loc, n, by rw [h]; exact h1, h2⟩
  · obtain ⟨b, off, cap, sz, n, h1, h2⟩ := hv
    exact ⟨b, off, cap, sz, n, by rw [h]; exact h1, h2⟩
/-- A slice somewhere in a tree is other now; all that is not its own stays. -/
theorem CellV.rep {F : Fz} {w w' : World} {q : RT} {y' : List q.den} {k' : L} : ∀ (p : List (Int × Nat)) (r : RT) (x x' : List r.den) (l k : L) (v : Value) (y : List q.den), CellV F w true (.sl r) x l v → l.bl.Nodup → l.sub p = some k → navG r x p = some ⟨q, y⟩ → navS r x p q y' = some x' →
    (∀ b ∈ l.bl, b ∉ k.bl → w'.heap[b]? = w.heap[b]?) → (∀ v, CellV F w true (.sl q) y k v → CellV F w' true (.sl q) y' k' v) → CellV F w' true (.sl r) x' (l.rep k' p) v
  | [], r, x, x', l, k, v, y, h, hnd, hs, hg, hn, hw, hc => by
    simp only [L.sub, Option.some.injEq] at hs
    subst hs
    simp only [navG, Option.some.injEq] at hg
    cases hg
    rw [navS_e0] at hn
    have e : q.same q = true := by
      cases e : q.same q with
      | true => rfl
      | false => rw [dif_neg (by rw [e]; simp)] at hn; cases hn
    rw [dif_pos e] at hn
    have hn2 := Option.some.inj hn
    subst hn2
    exact castL_rel e (hc v h)
  | (i, j) :: p, r, x, x', l, k, v, y, h, hnd, hs, hg, hn, hw, hc => by
    obtain ⟨loc, kids, rfl, hv, hk, hl, hr⟩ := h
    simp only [L.sub] at hs
    cases e1 : kids[i.toNat]? with
    | none => simp [e1] at hs
    | some ks =>
      simp only [e1] at hs
      cases e2 : ks[j]? with
      | none => simp [e2] at hs
      | some k1 =>
        simp only [e2] at hs
        by_cases e3 : 0 ≤ i
        · rw [if_pos e3] at hs
          have hlt : i.toNat < List.length x := by rw [← hk]; exact (List.getElem?_eq_some_iff.1 e1).1
          simp only [navG] at hg
          rw [navS_e1] at hn
          cases h4 : r.slAt (List.getD x i.toNat r.dflt) j with
          | none => rw [h4] at hg; cases hg
          | some qs =>
            obtain ⟨q1, rs1⟩ := qs
            rw [h4] at hg hn
            replace hg : navG q1 rs1 p = some ⟨q, y⟩ := hg
            replace hn : (match navS q1 rs1 p q y' with
              | some rs' => match r.slSet (List.getD x i.toNat r.dflt) j q1 rs' with
                | some row => some (x.set i.toNat row)
                | none => none
              | none => none) = some x' := hn
            cases h5 : navS q1 rs1 p q y' with
            | none => rw [h5] at hn; cases hn
            | some rs' =>
              rw [h5] at hn
              replace hn : (match r.slSet (List.getD x i.toNat r.dflt) j q1 rs' with
                | some row => some (x.set i.toNat row)
                | none => none) = some x' := hn
              cases h6 : r.slSet (List.getD x i.toNat r.dflt) j q1 rs' with
              | none => rw [h6] at hn; cases hn
              | some row =>
                rw [h6] at hn
                replace hn : some (x.set i.toNat row) = some x' := hn
                cases hn
                cases loc with
                | nil => simp only [LocOk] at hl; omega
                | emp a c => simp only [LocOk] at hl; omega
                | «at» b0 off0 cap0 sz0 =>
                  have hnd2 : (Lss.bl kids).Nodup ∧ b0 ∉ Lss.bl kids := by
                    simp only [L.bl, Loc.bl, List.cons_append, List.nil_append, List.nodup_cons] at hnd
                    exact ⟨hnd.2, hnd.1⟩
                  have hcnt : ∀ b, (Lss.bl kids).count b ≤ 1 := fun b => List.nodup_iff_count.1 hnd2.1 b
                  have hsubb : ∀ b ∈ k.bl, b ∈ k1.bl := L.sub_bl p k1 k hs
                  have hk1 : ∀ b ∈ k1.bl, b ∈ Ls.bl ks := fun b hb => Ls.mem_of_get ks j k1 e2 b hb
                  have hks : ∀ b ∈ Ls.bl ks, b ∈ Lss.bl kids := fun b hb => Lss.bl_getD kids i.toNat b (by rw [List.getD_eq_getElem?_getD, e1]; exact hb)
                  have hin : ∀ b ∈ Lss.bl kids, b ∉ k.bl → w'.heap[b]? = w.heap[b]? := fun b hb => hw b (by simp only [L.bl, Loc.bl, List.cons_append, List.nil_append]; exact .tail _ hb)
                  have hb0 : w'.heap[b0]? = w.heap[b0]? := hw b0 (by simp [L.bl, Loc.bl]) fun hm => hnd2.2 (hks _ (hk1 _ (hsubb _ hm)))
                  simp only [L.rep, e1, e2]
                  refine ⟨.at b0 off0 cap0 sz0, _, rfl, by rw [hv, List.length_set], by rw [List.length_set, List.length_set]; exact hk, ?_, fun b2 off2 cap2 sz2 e4 i2 hi2 => ?_⟩
                  · rw [List.length_set]
                    exact hl.keep fun b hb => by simp only [Loc.bl, List.mem_singleton] at hb; subst hb; exact hb0
                  · cases e4
                    rw [List.length_set] at hi2
                    have hrow := hr b0 off0 cap0 sz0 rfl i2 hi2
                    by_cases hii : i2 = i.toNat
                    · subst hii
                      have g1 : List.getD (x.set i.toNat row) i.toNat r.dflt = row := by simp [List.getD_eq_getElem?_getD, hi2]
                      have g2 : (kids.set i.toNat (ks.set j (k1.rep k' p))).getD i.toNat [] = ks.set j (k1.rep k' p) := by simp [List.getD_eq_getElem?_getD, hk, hi2]
                      have g3 : kids.getD i.toNat [] = ks := by rw [List.getD_eq_getElem?_getD, e1]; rfl
                      rw [g1, g2]
                      rw [g3] at hrow
                      have hnd1 : k1.bl.Nodup := List.nodup_iff_count.2 fun b => by
                        have a1 := Ls.one ks j k1 b e2
                        have a2 : (Ls.bl ks).count b ≤ (Lss.bl kids).count b := by
                          have := Lss.count_set kids i.toNat [] ks b e1
                          simp only [Ls.bl, List.count_nil] at this
                          omega
                        have := hcnt b
                        omega
                      refine RowV.slSet r _ ks b0 _ j q1 rs1 rs' k1 (k1.rep k' p) row hrow h4 e2 h6 hb0 (fun j2 l2 hj hl2 b' hm => ?_) (fun v1 hc1 => CellV.rep p q1 rs1 rs' k1 k v1 y hc1 hnd1 hs hg h5 (fun b hb hnb => hin b (hks _ (hk1 _ hb)) hnb) hc)
                      refine hin b' (hks _ (Ls.mem_of_get ks j2 l2 hl2 b' hm)) fun hmk => ?_
                      have a1 := Ls.two ks j2 j l2 k1 b' hj hl2 e2
                      have a2 : (Ls.bl ks).count b' ≤ (Lss.bl kids).count b' := by
                        have := Lss.count_set kids i.toNat [] ks b' e1
                        simp only [Ls.bl, List.count_nil] at this
                        omega
                      have a3 := count_pos hm
                      have a4 := count_pos (hsubb _ hmk)
                      have := hcnt b'
                      omega
                    · have g1 : List.getD (x.set i.toNat row) i2 r.dflt = List.getD x i2 r.dflt := by simp [List.getD_eq_getElem?_getD, List.getElem?_set_ne (Ne.symm hii)]
                      have g2 : (kids.set i.toNat (ks.set j (k1.rep k' p))).getD i2 [] = kids.getD i2 [] := by simp [List.getD_eq_getElem?_getD, List.getElem?_set_ne (Ne.symm hii)]
                      rw [g1, g2]
                      refine hrow.keep _ _ _ _ _ hb0 fun b' hm => hin b' (Lss.bl_getD kids i2 _ hm) fun hmk => ?_
                      have hgi : kids[i2]? = some (kids.getD i2 []) := getD_get (by rw [hk]; exact hi2)
                      have a1 := Lss.two kids i2 i.toNat _ ks b' hii hgi e1
                      have a3 := count_pos hm
                      have a4 := count_pos (hk1 _ (hsubb _ hmk))
                      have := hcnt b'
                      omega
        · rw [if_neg e3] at hs; cases hs
end Go.Abs

namespace Go.Abs
set_option linter.unusedSimpArgs false
set_option linter.unusedVariables false
open Go.RowKit

/-! ### a slice inside an object is lent -/
theorem Held.of_mem {B : Base} {G : Gh} {h : Heap} {w : World} {bs bs' : List Nat} (x : Held B G h w bs) (hn : bs'.Nodup) (hm : ∀ b ∈ bs', b ∈ bs) : Held B G h w bs' :=
  ⟨hn, fun b hb => x.mine b (hm b hb), fun id o go h1 h2 h3 b hb => x.apart id o go h1 h2 h3 b (hm b hb)⟩
theorem VRelF.mono {B : Base} {G G' : Gh} (h : G.le G') : ∀ {as : List AV} {vs : List Value}, VRelF B G as vs → VRelF B G' as vs
  | [], [], _ => trivial
  | a :: as, v :: vs, x => ⟨x.1.mono h, VRelF.mono h x.2⟩
  | [], _ :: _, x => x.elim
  | _ :: _, [], x => x.elim
theorem VRelF.cons {B : Base} {G : Gh} {a : AV} {as : List AV} {vs : List Value} (h : VRelF B G (a :: as) vs) : ∃ v vs', vs = v :: vs' ∧ VRel B G a v ∧ VRelF B G as vs' := by
  cases vs with
  | nil => exact h.elim
  | cons v vs => exact ⟨v, vs, rfl, h.1, h.2⟩
theorem Sim.regh {B : Base} {G G' : Gh} {h : Heap} {w : World} (s : Sim B G h w) (hG : ∀ id o, getO h id = some o → G' id = G id) (hle : G.le G') : Sim B G' h w := by
  have := s.after (G1 := G') (z := []) (Turn.refl w) (fun b hb => by cases hb) (fun id o go _ _ _ b _ hb => by cases hb) hG (fun x u _ hx => hx.mono hle)
  exact this
theorem purgeVs_append : ∀ (z z' : List Pl) (a : AV), purgeVs (z ++ z') a = purgeVs z' (purgeVs z a)
  | [], z', a => rfl
  | i :: z, z', a => by simp only [List.cons_append, purgeVs, purgeVs_append z z']
theorem purgeOs_append (z z' : List Pl) (o : Obj) : purgeOs (z ++ z') o = purgeOs z' (purgeOs z o) := by
  cases o with
  | box cs => simp only [purgeOs, List.map_map]; congr 1; exact List.map_congr_left fun a _ => purgeVs_append z z' a
  | robox cs => simp only [purgeOs, List.map_map]; congr 1; exact List.map_congr_left fun a _ => purgeVs_append z z' a
  | row r x => rfl
  | part rt cols r x lo hi => rfl
theorem deepOf_some {ms : Modes} {vs : List AV} {id : Nat} {p : List (Int × Nat)} {vs' : List AV} (h : deepOf ms vs = some (id, p, vs')) : ∃ s q, p = s :: q ∧ vs = .ref id p none :: vs' := by
  unfold deepOf at h
  split at h
  · simp only [Option.some.injEq, Prod.mk.injEq] at h
    obtain ⟨rfl, rfl, rfl⟩ := h
    exact ⟨_, _, rfl, rfl⟩
  · cases h

theorem ConG.call {P : Program} {f : Nat} {k : Con} (hok : k.ok = true) (hk : ConG P f k) : ConS P f k := by
  refine ⟨hk.enters, fun B G h w nb vs us av z h' hP s hv hf hr => ?_⟩
  have hnB : k.allB = false := by
    simp only [Con.ok, Bool.and_eq_true, Bool.not_eq_true'] at hok
    exact hok.1
  have hdk : (delK k).isNone = true := by
    unfold delK
    split
    · rename_i h1 h2
      unfold Con.allB at hnB
      rw [h1] at hnB
      cases hnB
    · rfl
  rw [callCon_not hdk, hnB, cond_false] at hr
  unfold callD at hr
  have flat : (callG nb k vs).Has h (av, z) h' → Calls P f us.toArray w (Ret fun u w' => Post B G nb av z h' u w') := by
    intro hr
    have h16 : k.outs.length ≤ 16 := by
      unfold callG at hr
      cases h16 : (Nat.blt 16 k.outs.length || !k.ins.all CT.noVs) with
      | true => rw [h16] at hr; exact hr.elim
      | false =>
        rcases Nat.lt_or_ge 16 k.outs.length with h | h
        · rw [(blt_iff _ _).2 h] at h16; cases h16
        · exact h
    refine (hk.callF hok B G h w nb vs us av z h' [] hP s .nil hv (fun id h1 h2 => hf id h1 (by omega)) hr).mono fun e w' he => ?_
    cases e with
    | panicked ch => exact he.elim
    | outgrown => exact he.elim
    | returned u =>
    obtain ⟨G', h1, _, _, h4, h5, h6, h7⟩ := he
    exact ⟨⟨G', h1, h4, h5, fun id hid hne => h6 id hid (by omega), fun hz id go hg => h7 id go (by rw [hz]; exact List.not_mem_nil) hg⟩⟩
  cases hd : deepOf k.modes vs with
  | none => rw [hd] at hr; exact flat hr
  | some t =>
  obtain ⟨id, p, vs'⟩ := t
  rw [hd] at hr
  obtain ⟨st, p', hp', rfl⟩ := deepOf_some hd
  simp only at hr
  cases h15 : Nat.blt 15 k.outs.length with
  | true => rw [h15] at hr; exact hr.elim
  | false =>
  have h15' : k.outs.length ≤ 15 := by
    rcases Nat.lt_or_ge 15 k.outs.length with h | h
    · rw [(blt_iff _ _).2 h] at h15; cases h15
    · exact h
  rw [h15, cond_false, has_getD] at hr
  cases ho : getO h id with
  | none => rw [ho] at hr; exact hr.elim
  | some o =>
  rw [ho] at hr
  cases o with
  | box _ => exact hr.elim
  | robox _ => exact hr.elim
  | part _ _ _ _ _ _ => exact hr.elim
  | row r x =>
  simp only at hr
  cases hn : navG r x p with
  | none => rw [hn] at hr; exact hr.elim
  | some qy =>
  obtain ⟨q, y⟩ := qy
  rw [hn] at hr
  simp only [has_putD, wrO] at hr
  obtain ⟨a, h3, hr1, hr2⟩ := (DH.has_andThen _ _ _ _ _).1 hr
  clear hr
  obtain ⟨a1, z1⟩ := a
  simp only at hr2
  cases hchk : (z1.any fun x => Nat.beq x.1 id) || a1.deep (id, []) with
  | true => rw [hchk] at hr2; exact hr2.elim
  | false =>
  rw [hchk, cond_false, has_getD] at hr2
  simp only [Bool.or_eq_false_iff] at hchk
  have hidz : (id, []) ∉ z1 := fun hm => by
    have : (z1.any fun x => Nat.beq x.1 id) = true := List.any_eq_true.2 ⟨_, hm, Nat.beq_refl id⟩
    rw [this] at hchk; cases hchk.1
  cases ho' : getO h3 (nb + 15) with
  | none => rw [ho'] at hr2; exact hr2.elim
  | some o' =>
  rw [ho'] at hr2
  cases o' with
  | box _ => exact hr2.elim
  | robox _ => exact hr2.elim
  | part _ _ _ _ _ _ => exact hr2.elim
  | row q' y' =>
  simp only at hr2
  cases hsame : q'.same q with
  | false => rw [hsame] at hr2; exact hr2.elim
  | true =>
  rw [hsame, cond_true] at hr2
  have hqq := RT.eq_of_same hsame
  subst hqq
  cases hns : navS r x p q' y' with
  | none => rw [hns] at hr2; exact hr2.elim
  | some x' =>
  rw [hns] at hr2
  simp only [has_putD, wrO] at hr2
  have hr2 : ((a1, z1 ++ [(id, [])]) : AV × List Pl) = (av, z) ∧ setO (delO h3 (nb + 15)) id (.row r x') = h' := hr2
  obtain ⟨e1, rfl⟩ := hr2
  cases e1
  -- the slice, and what is left of the object
  obtain ⟨u, us', rfl, hv1, hv2⟩ := hv.cons
  obtain ⟨loc, n, hG, rfl⟩ : ∃ loc n, G.at id p = some (loc, n) ∧ u = loc.val n := hv1
  obtain ⟨l, kids, hg, hkn, hc, hlen, hb, hsub⟩ := s.nav hG ho hn
  obtain ⟨l0, v0, hg0, hcell⟩ := s.obj id _ ho
  rw [hg] at hg0
  cases hg0
  have hlnd : l.bl.Nodup := s.nodup id _ _ ho rfl hg
  have hlc : ∀ b, l.bl.count b ≤ 1 := fun b => List.nodup_iff_count.1 hlnd b
  let K : L := .sl loc kids
  have hKc : ∀ b, K.bl.count b ≤ l.bl.count b := fun b => L.sub_count p l K b hsub
  let rest := l.bl.filter fun b => !(K.bl.contains b)
  have hrest : ∀ b, b ∈ rest ↔ b ∈ l.bl ∧ b ∉ K.bl := fun b => by
    show b ∈ l.bl.filter _ ↔ _
    rw [List.mem_filter]
    simp
  have hcr : ∀ b, rest.count b = if b ∈ K.bl then 0 else l.bl.count b := fun b => by
    by_cases hb : b ∈ K.bl
    · rw [if_pos hb]
      exact List.count_eq_zero.2 fun hm => ((hrest b).1 hm).2 hb
    · rw [if_neg hb]
      exact List.count_filter (by simpa using hb)
  have htmp : G (nb + 15) = none := hf _ (by omega) (by omega)
  have hne : id ≠ nb + 15 := fun e => by rw [e, htmp] at hg; cases hg
  let G2 : Gh := G.set (nb + 15) (.row K)
  have hle : G.le G2 := Gh.le_of_same fun j g hj => by
    show (if nb + 15 = j then _ else G j) = _
    rw [if_neg (fun e => by rw [← e, htmp] at hj; cases hj)]
    exact hj
  have hG2t : G2 (nb + 15) = some (.row K) := by show (if nb + 15 = nb + 15 then _ else _) = _; rw [if_pos rfl]
  have hG2o : ∀ j, j ≠ nb + 15 → G2 j = G j := fun j hj => by show (if nb + 15 = j then _ else G j) = _; rw [if_neg (fun e => hj e.symm)]
  have s1 : Sim B G (delO h id) w := s.heap (del_sub h id)
  have hno : ∀ j o, getO (delO h id) j = some o → j ≠ nb + 15 := fun j o hj e => by
    obtain ⟨go, hgo⟩ := (s1.obj j o hj).ghost
    rw [e, htmp] at hgo; cases hgo
  have s2 : Sim B G2 (delO h id) w := s1.regh (fun j o hj => hG2o j (hno j o hj)) hle
  have hheld1 : Held B G (delO h id) w l.bl := by
    have := (Held.nil (B := B) (G := G) (h := h) (w := w)).take s ho rfl hg (List.Sublist.refl _)
    simpa [obl, GO.bl] using this
  have hheld2 : Held B G2 (delO h id) w (K.bl ++ rest) := by
    have x := hheld1.of_mem (bs' := K.bl ++ rest) (List.nodup_iff_count.2 fun b => by
      have := hlc b
      have := hKc b
      rw [List.count_append, hcr b]
      by_cases hb : b ∈ K.bl
      · rw [if_pos hb]; omega
      · rw [if_neg hb, List.count_eq_zero.2 hb]; omega) (fun b hm => (List.mem_append.1 hm).elim (hb b) fun hm => ((hrest b).1 hm).1)
    exact ⟨x.nodup, x.mine, fun j o go h1 h2 h3 => x.apart j o go h1 h2 (by rw [← hG2o j (hno j o h1)]; exact h3)⟩
  obtain ⟨s3, hheld3⟩ := s2.put (id := nb + 15) (o := .row q' y) (go := .row K) hG2t ⟨K, _, hG2t, hc⟩ rfl hheld2
  have harg : VRelF B G2 (.ref (nb + 15) [] none :: vs') (loc.val n :: us') := ⟨⟨loc, kids.length, by show Gh.at G2 (nb + 15) [] = _; unfold Gh.at; rw [hG2t]; rfl, by rw [hkn]⟩, hv2.mono hle⟩
  refine (hk.callF hok B G2 _ w nb _ _ av z1 h3 rest hP s3 hheld3 harg (fun j h1 h2 => by rw [hG2o j (by omega)]; exact hf j h1 (by omega)) hr1).mono fun e w' he => ?_
  cases e with
  | panicked ch => exact he.elim
  | outgrown => exact he.elim
  | returned u1 =>
  obtain ⟨G1, p1, p2, p3, p4, p5, p6, p7⟩ := he
  have hG1id : G1 id = some (.row l) := p7 id _ hidz (by rw [hG2o id hne]; exact hg)
  -- what came back
  have hot : getO (purgeHs z1 h3) (nb + 15) = some (.row q' y') := by rw [getO_purgeHs, ho']; rfl
  obtain ⟨K', v', hK', hc'⟩ := p1.obj _ _ hot
  have hv' : v' = loc.val n := by
    have := p5 (.ref (nb + 15) [] none) (loc.val n) (fun i hi => rfl) harg.1
    obtain ⟨loc', n', h1, h2⟩ := this
    unfold Gh.at at h1
    rw [hK'] at h1
    obtain ⟨loc2, kids2, rfl, g1, g2, g3⟩ := hc'
    simp only [L.at, Option.some.injEq, Prod.mk.injEq] at h1
    obtain ⟨rfl, rfl⟩ := h1
    rw [g1, h2, g2]
  subst hv'
  have hK'nd : K'.bl.Nodup := p1.nodup _ _ _ hot rfl hK'
  let lP := l.rep K' p
  have hPc : ∀ b, lP.bl.count b + K.bl.count b = l.bl.count b + K'.bl.count b := fun b => L.count_rep p l K b hsub
  have hP1 : ∀ b ∈ lP.bl, b ∈ rest ++ K'.bl := fun b hm => by
    have h1 := count_pos hm
    have h2 := hPc b
    have h3 := hKc b
    by_cases hbK : b ∈ K.bl
    · have := count_pos hbK
      have := hlc b
      exact List.mem_append_right _ (List.count_pos_iff.1 (by omega))
    · have h4 := List.count_eq_zero.2 hbK
      by_cases hbl : b ∈ l.bl
      · exact List.mem_append_left _ ((hrest b).2 ⟨hbl, hbK⟩)
      · have := List.count_eq_zero.2 hbl
        exact List.mem_append_right _ (List.count_pos_iff.1 (by omega))
  have hheld4 : Held B G1 (delO (purgeHs z1 h3) (nb + 15)) w' (rest ++ K'.bl) := p2.take p1 hot rfl hK' (List.Sublist.refl _)
  have hPnd : lP.bl.Nodup := List.nodup_iff_count.2 fun b => by
    have h2 := hPc b
    have h3 := hKc b
    have h4 := hlc b
    have h5 := List.nodup_iff_count.1 hheld4.nodup b
    rw [List.count_append, hcr b] at h5
    by_cases hbK : b ∈ K.bl
    · rw [if_pos hbK] at h5
      have := count_pos hbK
      omega
    · rw [if_neg hbK] at h5
      have := List.count_eq_zero.2 hbK
      omega
  have hrep : CellV B.fz w' true (.sl r) x' lP v0 := CellV.rep p r x x' l K v0 y hcell hlnd hsub hn hns (fun b h1 h2 => p3 b ((hrest b).2 ⟨h1, h2⟩)) fun v1 hv1 => by
    obtain ⟨loc1, kids1, e1, e2, _⟩ := hv1
    have e1 : L.sl loc kids = .sl loc1 kids1 := e1
    cases e1
    rw [e2, ← hlen]
    exact hc'
  -- the memory after it
  let H := delO (delO (purgeHs z1 h3) (nb + 15)) id
  let G' : Gh := G1.set id (.row lP)
  have hG'id : G' id = some (.row lP) := by show (if id = id then _ else _) = _; rw [if_pos rfl]
  have hG'o : ∀ j, j ≠ id → G' j = G1 j := fun j hj => by show (if id = j then _ else G1 j) = _; rw [if_neg (fun e => hj e.symm)]
  have hHo : ∀ j o, getO H j = some o → j ≠ id ∧ j ≠ nb + 15 ∧ getO (purgeHs z1 h3) j = some o := fun j o hj => by
    rw [getO_delO] at hj
    by_cases e : id = j
    · rw [if_pos e] at hj; cases hj
    · rw [if_neg e, getO_delO] at hj
      by_cases e2 : nb + 15 = j
      · rw [if_pos e2] at hj; cases hj
      · rw [if_neg e2] at hj; exact ⟨fun x => e x.symm, fun x => e2 x.symm, hj⟩
  have htop : TopS l lP := TopS.of_at (by subst hp'; exact L.rep_top l K st p' hsub)
  have hvis : ∀ x u, (∀ i ∈ [((id, []) : Pl)], AV.deepS i x = false) → VRelS B G1 x u → VRelS B G' x u := vis_of fun j => by
    by_cases e : j = id
    · subst e
      exact .inr (.inr ⟨List.mem_singleton.2 rfl, l, lP, hG1id, hG'id, htop⟩)
    · exact .inl (hG'o j e)
  have s4 : Sim B G1 H w' := p1.heap fun j o hj => (hHo j o hj).2.2
  have s5 : Sim B G' (purgeHs [(id, [])] H) w' := s4.after (Turn.refl w') (fun b hb => by cases hb) (fun _ _ _ _ _ _ b _ hb => by cases hb) (fun j o hj => hG'o j (hHo j o hj).1) hvis
  have hheld5 : Held B G' (purgeHs [(id, [])] H) w' ((GO.row lP).bl ++ []) := by
    rw [List.append_nil]
    have x := hheld4.of_mem hPnd hP1
    refine ⟨x.nodup, x.mine, fun j o go h1 h2 h3 => ?_⟩
    obtain ⟨o0, h0, rfl⟩ := getO_purged h1
    rw [ownd_purgeOs] at h2
    rw [obl_purgeOs]
    have := hHo j o0 h0
    refine x.apart j o0 go ?_ h2 (by rw [← hG'o j this.1]; exact h3)
    rw [getO_delO, if_neg (fun e => this.2.1 e.symm)]
    exact this.2.2
  obtain ⟨s6, _⟩ := s5.put (id := id) (o := .row r x') (go := .row lP) hG'id ⟨lP, v0, hG'id, hrep⟩ rfl hheld5
  refine ⟨⟨G', s6.heap fun j o hj => ?_, p4.moveTo hvis fun i hi => ?_, fun x u hx hxu => hvis x u (fun i hi => hx i (List.mem_append_right _ hi)) (p5 x u (fun i hi => hx i (List.mem_append_left _ hi)) (hxu.mono hle)), fun j hj hjn => ?_, fun hz => ?_⟩⟩
  · rw [getO_purgeHs, getO_setO] at hj
    rw [getO_setO]
    by_cases e : id = j
    · rw [if_pos e] at hj ⊢
      simpa [purgeOs] using hj
    · rw [if_neg e, getO_delO] at hj
      rw [if_neg e, getO_purgeHs]
      show Option.map _ (getO (delO (delO (purgeHs z1 h3) (nb + 15)) id) j) = _
      rw [getO_delO, if_neg e, getO_delO]
      by_cases e2 : nb + 15 = j
      · rw [if_pos e2] at hj; cases hj
      · rw [if_neg e2] at hj ⊢
        rw [getO_purgeHs]
        cases hh : getO h3 j with
        | none => rw [hh] at hj; cases hj
        | some o3 =>
          rw [hh] at hj
          simp only [Option.map_some, Option.some.injEq] at hj ⊢
          rw [← hj, purgeOs_append]
  · rw [List.mem_singleton.1 hi]; exact hchk.2
  · have hjid : j ≠ id := fun e => by rw [e, hg] at hj; cases hj
    rw [hG'o j hjid]
    exact p6 j (by rw [hG2o j (by omega)]; exact hj) (by omega)
  · exact absurd hz (by simp)
end Go.Abs

