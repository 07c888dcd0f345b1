import Derived.Test.YtdhjooflkiagaaaGreatProg
import Derived.Test.YtdhjooflkiagaaaGreatAbsD
import Derived.KernelRfl
import Derived.Test.YtdhjooflkiagaaaGreatMFnExactCominga
namespace Go.Abs
open Go.Proofs
set_option linter.unusedVariables false
set_option maxRecDepth 100000
noncomputable section
/-! laws.eqFrame: function 164 -/
noncomputable def f_laws_eqFrame (x0 : Int) (x1 : List Int) (x2 : Bool) (x3 : Int) (x4 : List Int) (x5 : Bool) : Option (Bool) :=
  bif (!(decide (x0 = x3))) then
    some false
  else
    (f_laws_eqIntS x1 x4).bind fun y541 =>
    bif (!y541) then
      some false
    else
      bif (!(x2 == x5)) then
        some false
      else
        some true
noncomputable def C164 : Con := ⟨[(.B, true, [(.int .i64), (.sl R0), .bool]), (.B, true, [(.int .i64), (.sl R0), .bool])], [(false, [.bool])], [(.int .i64), (.sl R0), .bool, (.int .i64), (.sl R0), .bool], [.bool], fun (p : Int × List Int × Bool × Int × List Int × Bool) => f_laws_eqFrame p.1 p.2.1 p.2.2.1 p.2.2.2.1 p.2.2.2.2.1 p.2.2.2.2.2⟩
noncomputable abbrev K164 : Cons := [(39, C39)]
noncomputable abbrev L164 : List (Nat × Loops) := []
abbrev Q164 : List (Nat × List (Int × Nat) × Nat) := []
noncomputable abbrev X164 : Nat → Ctx := ctxOf tb K164 L164 Q164
theorem E164 : ∀ x, funRun fs X164 6 164 C164 x = C164.fn x := fun x => by kernel_rfl
theorem B164 : ConB Tryz.prog 164 C164 := ConB.make FS MIX TY (cons := K164) (L := L164) (ptrs := Q164) ⟨S39, trivial⟩ trivial trivial rfl rfl E164
theorem S164 : ConS Tryz.prog 164 C164 := B164.call rfl
/-! laws.eqFrameS: function 87 -/
noncomputable def f_laws_eqFrameS.l0 : Nat → (List (Int × List Int × Bool)) → (List (Int × List Int × Bool)) → Bool → Int → Option ((Bool) ⊕ (Bool))
  | 0, _, _, _, _ => none
  | n + 1, p542, p543, p544, p545 =>
    bif (decide (p545 < (p542.length : Int))) then
      bif ((decide ((0 : Int) ≤ p545)) && (decide (p545 < (p542.length : Int)))) then
      bif ((decide ((0 : Int) ≤ p545)) && (decide (p545 < (p543.length : Int)))) then
      (f_laws_eqFrame ((p542.getD p545.toNat (0, [], false)).1) ((p542.getD p545.toNat (0, [], false)).2.1) ((p542.getD p545.toNat (0, [], false)).2.2) ((p543.getD p545.toNat (0, [], false)).1) ((p543.getD p545.toNat (0, [], false)).2.1) ((p543.getD p545.toNat (0, [], false)).2.2)).bind fun y546 =>
      bif (!y546) then
        some (.inl false)
      else
        f_laws_eqFrameS.l0 n p542 p543 p544 (IntKind.wrap .i64 (p545 + (1 : Int)))
      else none
      else none
    else
      some (.inr p544)
noncomputable def f_laws_eqFrameS (x0 : List (Int × List Int × Bool)) (x1 : List (Int × List Int × Bool)) : Option (Bool) :=
  bif (!(decide ((x0.length : Int) = (x1.length : Int)))) then
    some false
  else
    (f_laws_eqFrameS.l0 N x0 x1 false 0).bind fun r547 =>
    cs r547 (fun a548 =>
      some a548) (fun b549 =>
      some true)
noncomputable def C87 : Con := ⟨[(.B, false, [(.sl R1)]), (.B, false, [(.sl R1)])], [(false, [.bool])], [(.sl R1), (.sl R1)], [.bool], fun (p : (List (Int × List Int × Bool)) × (List (Int × List Int × Bool))) => f_laws_eqFrameS p.1 p.2⟩
noncomputable def f_laws_eqFrameS.l0.c : LoopCon := ⟨1000, 6, [0, 1, 4, 5], ⟨[(0, .bor none R1 []), (1, .bor none R1 []), (4, .bool false), (5, .int .i64 0)], [], 1000⟩, [(.sl R1), (.sl R1), .bool, (.int .i64)], [⟨.ret, [4], ⟨[(4, .bool false)], [], 1000⟩, [.bool]⟩, ⟨.exit 0, [4], ⟨[(4, .bool false)], [], 1000⟩, [.bool]⟩], fun (p : (List (Int × List Int × Bool)) × (List (Int × List Int × Bool)) × Bool × Int) => f_laws_eqFrameS.l0 N p.1 p.2.1 p.2.2.1 p.2.2.2⟩
noncomputable abbrev K87 : Cons := [(164, C164)]
noncomputable abbrev L87 : List (Nat × Loops) := [(87, [(4, f_laws_eqFrameS.l0.c)])]
abbrev Q87 : List (Nat × List (Int × Nat) × Nat) := []
noncomputable abbrev X87 : Nat → Ctx := ctxOf tb K87 L87 Q87
theorem f_laws_eqFrameS.l0.ok : ∀ n p, (fun (p : (List (Int × List Int × Bool)) × (List (Int × List Int × Bool)) × Bool × Int) => f_laws_eqFrameS.l0 n p.1 p.2.1 p.2.2.1 p.2.2.2) p = iterD (roundOf fs X87 6 87 4 false f_laws_eqFrameS.l0.c) n p :=
  iter_of (l := fun n => fun (p : (List (Int × List Int × Bool)) × (List (Int × List Int × Bool)) × Bool × Int) => f_laws_eqFrameS.l0 n p.1 p.2.1 p.2.2.1 p.2.2.2) (fun _ => rfl) (fun n p => by kernel_rfl)
theorem E87 : ∀ x, funRun fs X87 6 87 C87 x = C87.fn x := fun x => by kernel_rfl
theorem B87 : ConB Tryz.prog 87 C87 := ConB.make FS MIX TY (cons := K87) (L := L87) (ptrs := Q87) ⟨S164, trivial⟩ trivial ⟨⟨⟨N, fun p => f_laws_eqFrameS.l0.ok N p⟩, trivial⟩, trivial⟩ rfl rfl E87
theorem S87 : ConS Tryz.prog 87 C87 := B87.call rfl
/-! laws.eqBoolS: function 203 -/
noncomputable def f_laws_eqBoolS.l0 : Nat → (List Bool) → (List Bool) → Bool → Int → Option ((Bool) ⊕ (Bool))
  | 0, _, _, _, _ => none
  | n + 1, p550, p551, p552, p553 =>
    bif (decide (p553 < (p550.length : Int))) then
      bif ((decide ((0 : Int) ≤ p553)) && (decide (p553 < (p550.length : Int)))) then
      bif ((decide ((0 : Int) ≤ p553)) && (decide (p553 < (p551.length : Int)))) then
      bif (!((p550.getD p553.toNat false) == (p551.getD p553.toNat false))) then
        some (.inl false)
      else
        f_laws_eqBoolS.l0 n p550 p551 p552 (IntKind.wrap .i64 (p553 + (1 : Int)))
      else none
      else none
    else
      some (.inr p552)
noncomputable def f_laws_eqBoolS (x0 : List Bool) (x1 : List Bool) : Option (Bool) :=
  bif (!(decide ((x0.length : Int) = (x1.length : Int)))) then
    some false
  else
    (f_laws_eqBoolS.l0 N x0 x1 false 0).bind fun r554 =>
    cs r554 (fun a555 =>
      some a555) (fun b556 =>
      some true)
noncomputable def C203 : Con := ⟨[(.B, false, [(.sl R2)]), (.B, false, [(.sl R2)])], [(false, [.bool])], [(.sl R2), (.sl R2)], [.bool], fun (p : List Bool × List Bool) => f_laws_eqBoolS p.1 p.2⟩
noncomputable def f_laws_eqBoolS.l0.c : LoopCon := ⟨1000, 6, [0, 1, 4, 5], ⟨[(0, .bor none R2 []), (1, .bor none R2 []), (4, .bool false), (5, .int .i64 0)], [], 1000⟩, [(.sl R2), (.sl R2), .bool, (.int .i64)], [⟨.ret, [4], ⟨[(4, .bool false)], [], 1000⟩, [.bool]⟩, ⟨.exit 0, [4], ⟨[(4, .bool false)], [], 1000⟩, [.bool]⟩], fun (p : List Bool × List Bool × Bool × Int) => f_laws_eqBoolS.l0 N p.1 p.2.1 p.2.2.1 p.2.2.2⟩
noncomputable abbrev K203 : Cons := []
noncomputable abbrev L203 : List (Nat × Loops) := [(203, [(4, f_laws_eqBoolS.l0.c)])]
abbrev Q203 : List (Nat × List (Int × Nat) × Nat) := []
noncomputable abbrev X203 : Nat → Ctx := ctxOf tb K203 L203 Q203
theorem f_laws_eqBoolS.l0.ok : ∀ n p, (fun (p : List Bool × List Bool × Bool × Int) => f_laws_eqBoolS.l0 n p.1 p.2.1 p.2.2.1 p.2.2.2) p = iterD (roundOf fs X203 6 203 4 false f_laws_eqBoolS.l0.c) n p :=
  iter_of (l := fun n => fun (p : List Bool × List Bool × Bool × Int) => f_laws_eqBoolS.l0 n p.1 p.2.1 p.2.2.1 p.2.2.2) (fun _ => rfl) (fun n p => by kernel_rfl)
theorem E203 : ∀ x, funRun fs X203 6 203 C203 x = C203.fn x := fun x => by kernel_rfl
theorem B203 : ConB Tryz.prog 203 C203 := ConB.make FS MIX TY (cons := K203) (L := L203) (ptrs := Q203) trivial trivial ⟨⟨⟨N, fun p => f_laws_eqBoolS.l0.ok N p⟩, trivial⟩, trivial⟩ rfl rfl E203
theorem S203 : ConS Tryz.prog 203 C203 := B203.call rfl
/-! laws.eqWait: function 204 -/
noncomputable def f_laws_eqWait (x0 : Int) (x1 : Bool) (x2 : Int) (x3 : Bool) : Option (Bool) :=
  bif (!(decide (x0 = x2))) then
    some false
  else
    bif (!(x1 == x3)) then
      some false
    else
      some true
noncomputable def C204 : Con := ⟨[(.B, true, [(.int .i64), .bool]), (.B, true, [(.int .i64), .bool])], [(false, [.bool])], [(.int .i64), .bool, (.int .i64), .bool], [.bool], fun (p : Int × Bool × Int × Bool) => f_laws_eqWait p.1 p.2.1 p.2.2.1 p.2.2.2⟩
noncomputable abbrev K204 : Cons := []
noncomputable abbrev L204 : List (Nat × Loops) := []
abbrev Q204 : List (Nat × List (Int × Nat) × Nat) := []
noncomputable abbrev X204 : Nat → Ctx := ctxOf tb K204 L204 Q204
theorem E204 : ∀ x, funRun fs X204 6 204 C204 x = C204.fn x := fun x => by kernel_rfl
theorem B204 : ConB Tryz.prog 204 C204 := ConB.make FS MIX TY (cons := K204) (L := L204) (ptrs := Q204) trivial trivial trivial rfl rfl E204
theorem S204 : ConS Tryz.prog 204 C204 := B204.call rfl
/-! laws.eqWaitS: function 205 -/
noncomputable def f_laws_eqWaitS.l0 : Nat → (List (Int × Bool)) → (List (Int × Bool)) → Bool → Int → Option ((Bool) ⊕ (Bool))
  | 0, _, _, _, _ => none
  | n + 1, p557, p558, p559, p560 =>
    bif (decide (p560 < (p557.length : Int))) then
      bif ((decide ((0 : Int) ≤ p560)) && (decide (p560 < (p557.length : Int)))) then
      bif ((decide ((0 : Int) ≤ p560)) && (decide (p560 < (p558.length : Int)))) then
      (f_laws_eqWait ((p557.getD p560.toNat (0, false)).1) ((p557.getD p560.toNat (0, false)).2) ((p558.getD p560.toNat (0, false)).1) ((p558.getD p560.toNat (0, false)).2)).bind fun y561 =>
      bif (!y561) then
        some (.inl false)
      else
        f_laws_eqWaitS.l0 n p557 p558 p559 (IntKind.wrap .i64 (p560 + (1 : Int)))
      else none
      else none
    else
      some (.inr p559)
noncomputable def f_laws_eqWaitS (x0 : List (Int × Bool)) (x1 : List (Int × Bool)) : Option (Bool) :=
  bif (!(decide ((x0.length : Int) = (x1.length : Int)))) then
    some false
  else
    (f_laws_eqWaitS.l0 N x0 x1 false 0).bind fun r562 =>
    cs r562 (fun a563 =>
      some a563) (fun b564 =>
      some true)
noncomputable def C205 : Con := ⟨[(.B, false, [(.sl R3)]), (.B, false, [(.sl R3)])], [(false, [.bool])], [(.sl R3), (.sl R3)], [.bool], fun (p : (List (Int × Bool)) × (List (Int × Bool))) => f_laws_eqWaitS p.1 p.2⟩
noncomputable def f_laws_eqWaitS.l0.c : LoopCon := ⟨1000, 6, [0, 1, 4, 5], ⟨[(0, .bor none R3 []), (1, .bor none R3 []), (4, .bool false), (5, .int .i64 0)], [], 1000⟩, [(.sl R3), (.sl R3), .bool, (.int .i64)], [⟨.ret, [4], ⟨[(4, .bool false)], [], 1000⟩, [.bool]⟩, ⟨.exit 0, [4], ⟨[(4, .bool false)], [], 1000⟩, [.bool]⟩], fun (p : (List (Int × Bool)) × (List (Int × Bool)) × Bool × Int) => f_laws_eqWaitS.l0 N p.1 p.2.1 p.2.2.1 p.2.2.2⟩
noncomputable abbrev K205 : Cons := [(204, C204)]
noncomputable abbrev L205 : List (Nat × Loops) := [(205, [(4, f_laws_eqWaitS.l0.c)])]
abbrev Q205 : List (Nat × List (Int × Nat) × Nat) := []
noncomputable abbrev X205 : Nat → Ctx := ctxOf tb K205 L205 Q205
theorem f_laws_eqWaitS.l0.ok : ∀ n p, (fun (p : (List (Int × Bool)) × (List (Int × Bool)) × Bool × Int) => f_laws_eqWaitS.l0 n p.1 p.2.1 p.2.2.1 p.2.2.2) p = iterD (roundOf fs X205 6 205 4 false f_laws_eqWaitS.l0.c) n p :=
  iter_of (l := fun n => fun (p : (List (Int × Bool)) × (List (Int × Bool)) × Bool × Int) => f_laws_eqWaitS.l0 n p.1 p.2.1 p.2.2.1 p.2.2.2) (fun _ => rfl) (fun n p => by kernel_rfl)
theorem E205 : ∀ x, funRun fs X205 6 205 C205 x = C205.fn x := fun x => by kernel_rfl
theorem B205 : ConB Tryz.prog 205 C205 := ConB.make FS MIX TY (cons := K205) (L := L205) (ptrs := Q205) ⟨S204, trivial⟩ trivial ⟨⟨⟨N, fun p => f_laws_eqWaitS.l0.ok N p⟩, trivial⟩, trivial⟩ rfl rfl E205
theorem S205 : ConS Tryz.prog 205 C205 := B205.call rfl
/-! laws.eqHome: function 165 -/
noncomputable def f_laws_eqHome (x0 : List Int) (x1 : Int) (x2 : List Bool) (x3 : Bool) (x4 : Int) (x5 : Bool) (x6 : Int) (x7 : List (Int × Bool)) (x8 : List Int) (x9 : Int) (x10 : List Bool) (x11 : Bool) (x12 : Int) (x13 : Bool) (x14 : Int) (x15 : List (Int × Bool)) : Option (Bool) :=
  (f_laws_eqIntS x0 x8).bind fun y565 =>
  bif (!y565) then
    some false
  else
    bif (!(decide (x1 = x9))) then
      some false
    else
      (f_laws_eqBoolS x2 x10).bind fun y566 =>
      bif (!y566) then
        some false
      else
        bif (!(x3 == x11)) then
          some false
        else
          (f_laws_eqWait x4 x5 x12 x13).bind fun y567 =>
          bif (!y567) then
            some false
          else
            bif (!(decide (x6 = x14))) then
              some false
            else
              (f_laws_eqWaitS x7 x15).bind fun y568 =>
              bif (!y568) then
                some false
              else
                some true
noncomputable def C165 : Con := ⟨[(.B, true, [(.sl R0), (.int .i64), (.sl R2), .bool, (.int .i64), .bool, (.int .i64), (.sl R3)]), (.B, true, [(.sl R0), (.int .i64), (.sl R2), .bool, (.int .i64), .bool, (.int .i64), (.sl R3)])], [(false, [.bool])], [(.sl R0), (.int .i64), (.sl R2), .bool, (.int .i64), .bool, (.int .i64), (.sl R3), (.sl R0), (.int .i64), (.sl R2), .bool, (.int .i64), .bool, (.int .i64), (.sl R3)], [.bool], fun (p : List Int × Int × List Bool × Bool × Int × Bool × Int × (List (Int × Bool)) × List Int × Int × List Bool × Bool × Int × Bool × Int × (List (Int × Bool))) => f_laws_eqHome p.1 p.2.1 p.2.2.1 p.2.2.2.1 p.2.2.2.2.1 p.2.2.2.2.2.1 p.2.2.2.2.2.2.1 p.2.2.2.2.2.2.2.1 p.2.2.2.2.2.2.2.2.1 p.2.2.2.2.2.2.2.2.2.1 p.2.2.2.2.2.2.2.2.2.2.1 p.2.2.2.2.2.2.2.2.2.2.2.1 p.2.2.2.2.2.2.2.2.2.2.2.2.1 p.2.2.2.2.2.2.2.2.2.2.2.2.2.1 p.2.2.2.2.2.2.2.2.2.2.2.2.2.2.1 p.2.2.2.2.2.2.2.2.2.2.2.2.2.2.2⟩
noncomputable abbrev K165 : Cons := [(39, C39), (203, C203), (204, C204), (205, C205)]
noncomputable abbrev L165 : List (Nat × Loops) := []
abbrev Q165 : List (Nat × List (Int × Nat) × Nat) := []
noncomputable abbrev X165 : Nat → Ctx := ctxOf tb K165 L165 Q165
theorem E165 : ∀ x, funRun fs X165 6 165 C165 x = C165.fn x := fun x => by kernel_rfl
theorem B165 : ConB Tryz.prog 165 C165 := ConB.make FS MIX TY (cons := K165) (L := L165) (ptrs := Q165) ⟨S39, S203, S204, S205, trivial⟩ trivial trivial rfl rfl E165
theorem S165 : ConS Tryz.prog 165 C165 := B165.call rfl
/-! laws.eqHomeS: function 88 -/
noncomputable def f_laws_eqHomeS.l0 : Nat → (List (List Int × Int × List Bool × Bool × Int × Bool × Int × (List (Int × Bool)))) → (List (List Int × Int × List Bool × Bool × Int × Bool × Int × (List (Int × Bool)))) → Bool → Int → Option ((Bool) ⊕ (Bool))
  | 0, _, _, _, _ => none
  | n + 1, p569, p570, p571, p572 =>
    bif (decide (p572 < (p569.length : Int))) then
      bif ((decide ((0 : Int) ≤ p572)) && (decide (p572 < (p569.length : Int)))) then
      bif ((decide ((0 : Int) ≤ p572)) && (decide (p572 < (p570.length : Int)))) then
      (f_laws_eqHome ((p569.getD p572.toNat ([], 0, [], false, 0, false, 0, [])).1) ((p569.getD p572.toNat ([], 0, [], false, 0, false, 0, [])).2.1) ((p569.getD p572.toNat ([], 0, [], false, 0, false, 0, [])).2.2.1) ((p569.getD p572.toNat ([], 0, [], false, 0, false, 0, [])).2.2.2.1) ((p569.getD p572.toNat ([], 0, [], false, 0, false, 0, [])).2.2.2.2.1) ((p569.getD p572.toNat ([], 0, [], false, 0, false, 0, [])).2.2.2.2.2.1) ((p569.getD p572.toNat ([], 0, [], false, 0, false, 0, [])).2.2.2.2.2.2.1) ((p569.getD p572.toNat ([], 0, [], false, 0, false, 0, [])).2.2.2.2.2.2.2) ((p570.getD p572.toNat ([], 0, [], false, 0, false, 0, [])).1) ((p570.getD p572.toNat ([], 0, [], false, 0, false, 0, [])).2.1) ((p570.getD p572.toNat ([], 0, [], false, 0, false, 0, [])).2.2.1) ((p570.getD p572.toNat ([], 0, [], false, 0, false, 0, [])).2.2.2.1) ((p570.getD p572.toNat ([], 0, [], false, 0, false, 0, [])).2.2.2.2.1) ((p570.getD p572.toNat ([], 0, [], false, 0, false, 0, [])).2.2.2.2.2.1) ((p570.getD p572.toNat ([], 0, [], false, 0, false, 0, [])).2.2.2.2.2.2.1) ((p570.getD p572.toNat ([], 0, [], false, 0, false, 0, [])).2.2.2.2.2.2.2)).bind fun y573 =>
      bif (!y573) then
        some (.inl false)
      else
        f_laws_eqHomeS.l0 n p569 p570 p571 (IntKind.wrap .i64 (p572 + (1 : Int)))
      else none
      else none
    else
      some (.inr p571)
noncomputable def f_laws_eqHomeS (x0 : List (List Int × Int × List Bool × Bool × Int × Bool × Int × (List (Int × Bool)))) (x1 : List (List Int × Int × List Bool × Bool × Int × Bool × Int × (List (Int × Bool)))) : Option (Bool) :=
  bif (!(decide ((x0.length : Int) = (x1.length : Int)))) then
    some false
  else
    (f_laws_eqHomeS.l0 N x0 x1 false 0).bind fun r574 =>
    cs r574 (fun a575 =>
      some a575) (fun b576 =>
      some true)
noncomputable def C88 : Con := ⟨[(.B, false, [(.sl R4)]), (.B, false, [(.sl R4)])], [(false, [.bool])], [(.sl R4), (.sl R4)], [.bool], fun (p : (List (List Int × Int × List Bool × Bool × Int × Bool × Int × (List (Int × Bool)))) × (List (List Int × Int × List Bool × Bool × Int × Bool × Int × (List (Int × Bool))))) => f_laws_eqHomeS p.1 p.2⟩
noncomputable def f_laws_eqHomeS.l0.c : LoopCon := ⟨1000, 6, [0, 1, 4, 5], ⟨[(0, .bor none R4 []), (1, .bor none R4 []), (4, .bool false), (5, .int .i64 0)], [], 1000⟩, [(.sl R4), (.sl R4), .bool, (.int .i64)], [⟨.ret, [4], ⟨[(4, .bool false)], [], 1000⟩, [.bool]⟩, ⟨.exit 0, [4], ⟨[(4, .bool false)], [], 1000⟩, [.bool]⟩], fun (p : (List (List Int × Int × List Bool × Bool × Int × Bool × Int × (List (Int × Bool)))) × (List (List Int × Int × List Bool × Bool × Int × Bool × Int × (List (Int × Bool)))) × Bool × Int) => f_laws_eqHomeS.l0 N p.1 p.2.1 p.2.2.1 p.2.2.2⟩
noncomputable abbrev K88 : Cons := [(165, C165)]
noncomputable abbrev L88 : List (Nat × Loops) := [(88, [(4, f_laws_eqHomeS.l0.c)])]
abbrev Q88 : List (Nat × List (Int × Nat) × Nat) := []
noncomputable abbrev X88 : Nat → Ctx := ctxOf tb K88 L88 Q88
theorem f_laws_eqHomeS.l0.ok : ∀ n p, (fun (p : (List (List Int × Int × List Bool × Bool × Int × Bool × Int × (List (Int × Bool)))) × (List (List Int × Int × List Bool × Bool × Int × Bool × Int × (List (Int × Bool)))) × Bool × Int) => f_laws_eqHomeS.l0 n p.1 p.2.1 p.2.2.1 p.2.2.2) p = iterD (roundOf fs X88 6 88 4 false f_laws_eqHomeS.l0.c) n p :=
  iter_of (l := fun n => fun (p : (List (List Int × Int × List Bool × Bool × Int × Bool × Int × (List (Int × Bool)))) × (List (List Int × Int × List Bool × Bool × Int × Bool × Int × (List (Int × Bool)))) × Bool × Int) => f_laws_eqHomeS.l0 n p.1 p.2.1 p.2.2.1 p.2.2.2) (fun _ => rfl) (fun n p => by kernel_rfl)
theorem E88 : ∀ x, funRun fs X88 6 88 C88 x = C88.fn x := fun x => by kernel_rfl
theorem B88 : ConB Tryz.prog 88 C88 := ConB.make FS MIX TY (cons := K88) (L := L88) (ptrs := Q88) ⟨S165, trivial⟩ trivial ⟨⟨⟨N, fun p => f_laws_eqHomeS.l0.ok N p⟩, trivial⟩, trivial⟩ rfl rfl E88
theorem S88 : ConS Tryz.prog 88 C88 := B88.call rfl
/-! laws.eqSender: function 166 -/
noncomputable def f_laws_eqSender (x0 : Int) (x1 : List (Int × Int × Bool × List Int)) (x2 : Int) (x3 : List (Int × Int × Bool × List Int)) : Option (Bool) :=
  bif (!(decide (x0 = x2))) then
    some false
  else
    (f_laws_eqMsgS x1 x3).bind fun y577 =>
    bif (!y577) then
      some false
    else
      some true
noncomputable def C166 : Con := ⟨[(.B, true, [(.int .i64), (.sl R5)]), (.B, true, [(.int .i64), (.sl R5)])], [(false, [.bool])], [(.int .i64), (.sl R5), (.int .i64), (.sl R5)], [.bool], fun (p : Int × (List (Int × Int × Bool × List Int)) × Int × (List (Int × Int × Bool × List Int))) => f_laws_eqSender p.1 p.2.1 p.2.2.1 p.2.2.2⟩
noncomputable abbrev K166 : Cons := [(27, C27)]
noncomputable abbrev L166 : List (Nat × Loops) := []
abbrev Q166 : List (Nat × List (Int × Nat) × Nat) := []
noncomputable abbrev X166 : Nat → Ctx := ctxOf tb K166 L166 Q166
theorem E166 : ∀ x, funRun fs X166 6 166 C166 x = C166.fn x := fun x => by kernel_rfl
theorem B166 : ConB Tryz.prog 166 C166 := ConB.make FS MIX TY (cons := K166) (L := L166) (ptrs := Q166) ⟨S27, trivial⟩ trivial trivial rfl rfl E166
theorem S166 : ConS Tryz.prog 166 C166 := B166.call rfl
/-! laws.eqSenderS: function 89 -/
noncomputable def f_laws_eqSenderS.l0 : Nat → (List (Int × (List (Int × Int × Bool × List Int)))) → (List (Int × (List (Int × Int × Bool × List Int)))) → Bool → Int → Option ((Bool) ⊕ (Bool))
  | 0, _, _, _, _ => none
  | n + 1, p578, p579, p580, p581 =>
    bif (decide (p581 < (p578.length : Int))) then
      bif ((decide ((0 : Int) ≤ p581)) && (decide (p581 < (p578.length : Int)))) then
      bif ((decide ((0 : Int) ≤ p581)) && (decide (p581 < (p579.length : Int)))) then
      (f_laws_eqSender ((p578.getD p581.toNat (0, [])).1) ((p578.getD p581.toNat (0, [])).2) ((p579.getD p581.toNat (0, [])).1) ((p579.getD p581.toNat (0, [])).2)).bind fun y582 =>
      bif (!y582) then
        some (.inl false)
      else
        f_laws_eqSenderS.l0 n p578 p579 p580 (IntKind.wrap .i64 (p581 + (1 : Int)))
      else none
      else none
    else
      some (.inr p580)
noncomputable def f_laws_eqSenderS (x0 : List (Int × (List (Int × Int × Bool × List Int)))) (x1 : List (Int × (List (Int × Int × Bool × List Int)))) : Option (Bool) :=
  bif (!(decide ((x0.length : Int) = (x1.length : Int)))) then
    some false
  else
    (f_laws_eqSenderS.l0 N x0 x1 false 0).bind fun r583 =>
    cs r583 (fun a584 =>
      some a584) (fun b585 =>
      some true)
noncomputable def C89 : Con := ⟨[(.B, false, [(.sl R6)]), (.B, false, [(.sl R6)])], [(false, [.bool])], [(.sl R6), (.sl R6)], [.bool], fun (p : (List (Int × (List (Int × Int × Bool × List Int)))) × (List (Int × (List (Int × Int × Bool × List Int))))) => f_laws_eqSenderS p.1 p.2⟩
noncomputable def f_laws_eqSenderS.l0.c : LoopCon := ⟨1000, 6, [0, 1, 4, 5], ⟨[(0, .bor none R6 []), (1, .bor none R6 []), (4, .bool false), (5, .int .i64 0)], [], 1000⟩, [(.sl R6), (.sl R6), .bool, (.int .i64)], [⟨.ret, [4], ⟨[(4, .bool false)], [], 1000⟩, [.bool]⟩, ⟨.exit 0, [4], ⟨[(4, .bool false)], [], 1000⟩, [.bool]⟩], fun (p : (List (Int × (List (Int × Int × Bool × List Int)))) × (List (Int × (List (Int × Int × Bool × List Int)))) × Bool × Int) => f_laws_eqSenderS.l0 N p.1 p.2.1 p.2.2.1 p.2.2.2⟩
noncomputable abbrev K89 : Cons := [(166, C166)]
noncomputable abbrev L89 : List (Nat × Loops) := [(89, [(4, f_laws_eqSenderS.l0.c)])]
abbrev Q89 : List (Nat × List (Int × Nat) × Nat) := []
noncomputable abbrev X89 : Nat → Ctx := ctxOf tb K89 L89 Q89
theorem f_laws_eqSenderS.l0.ok : ∀ n p, (fun (p : (List (Int × (List (Int × Int × Bool × List Int)))) × (List (Int × (List (Int × Int × Bool × List Int)))) × Bool × Int) => f_laws_eqSenderS.l0 n p.1 p.2.1 p.2.2.1 p.2.2.2) p = iterD (roundOf fs X89 6 89 4 false f_laws_eqSenderS.l0.c) n p :=
  iter_of (l := fun n => fun (p : (List (Int × (List (Int × Int × Bool × List Int)))) × (List (Int × (List (Int × Int × Bool × List Int)))) × Bool × Int) => f_laws_eqSenderS.l0 n p.1 p.2.1 p.2.2.1 p.2.2.2) (fun _ => rfl) (fun n p => by kernel_rfl)
theorem E89 : ∀ x, funRun fs X89 6 89 C89 x = C89.fn x := fun x => by kernel_rfl
theorem B89 : ConB Tryz.prog 89 C89 := ConB.make FS MIX TY (cons := K89) (L := L89) (ptrs := Q89) ⟨S166, trivial⟩ trivial ⟨⟨⟨N, fun p => f_laws_eqSenderS.l0.ok N p⟩, trivial⟩, trivial⟩ rfl rfl E89
theorem S89 : ConS Tryz.prog 89 C89 := B89.call rfl
/-! laws.eqReceiver: function 167 -/
noncomputable def f_laws_eqReceiver (x0 : Int) (x1 : Int) : Option (Bool) :=
  bif (!(decide (x0 = x1))) then
    some false
  else
    some true
noncomputable def C167 : Con := ⟨[(.B, true, [(.int .i64)]), (.B, true, [(.int .i64)])], [(false, [.bool])], [(.int .i64), (.int .i64)], [.bool], fun (p : Int × Int) => f_laws_eqReceiver p.1 p.2⟩
noncomputable abbrev K167 : Cons := []
noncomputable abbrev L167 : List (Nat × Loops) := []
abbrev Q167 : List (Nat × List (Int × Nat) × Nat) := []
noncomputable abbrev X167 : Nat → Ctx := ctxOf tb K167 L167 Q167
theorem E167 : ∀ x, funRun fs X167 6 167 C167 x = C167.fn x := fun x => by kernel_rfl
theorem B167 : ConB Tryz.prog 167 C167 := ConB.make FS MIX TY (cons := K167) (L := L167) (ptrs := Q167) trivial trivial trivial rfl rfl E167
theorem S167 : ConS Tryz.prog 167 C167 := B167.call rfl
/-! laws.eqReceiverS: function 90 -/
noncomputable def f_laws_eqReceiverS.l0 : Nat → (List Int) → (List Int) → Bool → Int → Option ((Bool) ⊕ (Bool))
  | 0, _, _, _, _ => none
  | n + 1, p586, p587, p588, p589 =>
    bif (decide (p589 < (p586.length : Int))) then
      bif ((decide ((0 : Int) ≤ p589)) && (decide (p589 < (p586.length : Int)))) then
      bif ((decide ((0 : Int) ≤ p589)) && (decide (p589 < (p587.length : Int)))) then
      (f_laws_eqReceiver (p586.getD p589.toNat 0) (p587.getD p589.toNat 0)).bind fun y590 =>
      bif (!y590) then
        some (.inl false)
      else
        f_laws_eqReceiverS.l0 n p586 p587 p588 (IntKind.wrap .i64 (p589 + (1 : Int)))
      else none
      else none
    else
      some (.inr p588)
noncomputable def f_laws_eqReceiverS (x0 : List Int) (x1 : List Int) : Option (Bool) :=
  bif (!(decide ((x0.length : Int) = (x1.length : Int)))) then
    some false
  else
    (f_laws_eqReceiverS.l0 N x0 x1 false 0).bind fun r591 =>
    cs r591 (fun a592 =>
      some a592) (fun b593 =>
      some true)
noncomputable def C90 : Con := ⟨[(.B, false, [(.sl R0)]), (.B, false, [(.sl R0)])], [(false, [.bool])], [(.sl R0), (.sl R0)], [.bool], fun (p : List Int × List Int) => f_laws_eqReceiverS p.1 p.2⟩
noncomputable def f_laws_eqReceiverS.l0.c : LoopCon := ⟨1000, 6, [0, 1, 4, 5], ⟨[(0, .bor none R0 []), (1, .bor none R0 []), (4, .bool false), (5, .int .i64 0)], [], 1000⟩, [(.sl R0), (.sl R0), .bool, (.int .i64)], [⟨.ret, [4], ⟨[(4, .bool false)], [], 1000⟩, [.bool]⟩, ⟨.exit 0, [4], ⟨[(4, .bool false)], [], 1000⟩, [.bool]⟩], fun (p : List Int × List Int × Bool × Int) => f_laws_eqReceiverS.l0 N p.1 p.2.1 p.2.2.1 p.2.2.2⟩
noncomputable abbrev K90 : Cons := [(167, C167)]
noncomputable abbrev L90 : List (Nat × Loops) := [(90, [(4, f_laws_eqReceiverS.l0.c)])]
abbrev Q90 : List (Nat × List (Int × Nat) × Nat) := []
noncomputable abbrev X90 : Nat → Ctx := ctxOf tb K90 L90 Q90
theorem f_laws_eqReceiverS.l0.ok : ∀ n p, (fun (p : List Int × List Int × Bool × Int) => f_laws_eqReceiverS.l0 n p.1 p.2.1 p.2.2.1 p.2.2.2) p = iterD (roundOf fs X90 6 90 4 false f_laws_eqReceiverS.l0.c) n p :=
  iter_of (l := fun n => fun (p : List Int × List Int × Bool × Int) => f_laws_eqReceiverS.l0 n p.1 p.2.1 p.2.2.1 p.2.2.2) (fun _ => rfl) (fun n p => by kernel_rfl)
theorem E90 : ∀ x, funRun fs X90 6 90 C90 x = C90.fn x := fun x => by kernel_rfl
theorem B90 : ConB Tryz.prog 90 C90 := ConB.make FS MIX TY (cons := K90) (L := L90) (ptrs := Q90) ⟨S167, trivial⟩ trivial ⟨⟨⟨N, fun p => f_laws_eqReceiverS.l0.ok N p⟩, trivial⟩, trivial⟩ rfl rfl E90
theorem S90 : ConS Tryz.prog 90 C90 := B90.call rfl
/-! laws.eqNode: function 22 -/
noncomputable def f_laws_eqNode (x0 : Int) (x1 : List (Int × List Int × Bool)) (x2 : List (List Int × Int × List Bool × Bool × Int × Bool × Int × (List (Int × Bool)))) (x3 : List (Int × (List (Int × Int × Bool × List Int)))) (x4 : List Int) (x5 : Int) (x6 : List (Int × List Int × Bool)) (x7 : List (List Int × Int × List Bool × Bool × Int × Bool × Int × (List (Int × Bool)))) (x8 : List (Int × (List (Int × Int × Bool × List Int)))) (x9 : List Int) : Option (Bool) :=
  bif (!(decide (x0 = x5))) then
    some false
  else
    (f_laws_eqFrameS x1 x6).bind fun y594 =>
    bif (!y594) then
      some false
    else
      (f_laws_eqHomeS x2 x7).bind fun y595 =>
      bif (!y595) then
        some false
      else
        (f_laws_eqSenderS x3 x8).bind fun y596 =>
        bif (!y596) then
          some false
        else
          (f_laws_eqReceiverS x4 x9).bind fun y597 =>
          bif (!y597) then
            some false
          else
            some true
noncomputable def C22 : Con := ⟨[(.B, true, [(.int .i64), (.sl R1), (.sl R4), (.sl R6), (.sl R0)]), (.B, true, [(.int .i64), (.sl R1), (.sl R4), (.sl R6), (.sl R0)])], [(false, [.bool])], [(.int .i64), (.sl R1), (.sl R4), (.sl R6), (.sl R0), (.int .i64), (.sl R1), (.sl R4), (.sl R6), (.sl R0)], [.bool], fun (p : Int × (List (Int × List Int × Bool)) × (List (List Int × Int × List Bool × Bool × Int × Bool × Int × (List (Int × Bool)))) × (List (Int × (List (Int × Int × Bool × List Int)))) × List Int × Int × (List (Int × List Int × Bool)) × (List (List Int × Int × List Bool × Bool × Int × Bool × Int × (List (Int × Bool)))) × (List (Int × (List (Int × Int × Bool × List Int)))) × List Int) => f_laws_eqNode p.1 p.2.1 p.2.2.1 p.2.2.2.1 p.2.2.2.2.1 p.2.2.2.2.2.1 p.2.2.2.2.2.2.1 p.2.2.2.2.2.2.2.1 p.2.2.2.2.2.2.2.2.1 p.2.2.2.2.2.2.2.2.2⟩
noncomputable abbrev K22 : Cons := [(87, C87), (88, C88), (89, C89), (90, C90)]
noncomputable abbrev L22 : List (Nat × Loops) := []
abbrev Q22 : List (Nat × List (Int × Nat) × Nat) := []
noncomputable abbrev X22 : Nat → Ctx := ctxOf tb K22 L22 Q22
theorem E22 : ∀ x, funRun fs X22 6 22 C22 x = C22.fn x := fun x => by kernel_rfl
theorem B22 : ConB Tryz.prog 22 C22 := ConB.make FS MIX TY (cons := K22) (L := L22) (ptrs := Q22) ⟨S87, S88, S89, S90, trivial⟩ trivial trivial rfl rfl E22
theorem S22 : ConS Tryz.prog 22 C22 := B22.call rfl
/-! laws.eqNodeS: function 67 -/
noncomputable def f_laws_eqNodeS.l0 : Nat → (List (Int × (List (Int × List Int × Bool)) × (List (List Int × Int × List Bool × Bool × Int × Bool × Int × (List (Int × Bool)))) × (List (Int × (List (Int × Int × Bool × List Int)))) × List Int)) → (List (Int × (List (Int × List Int × Bool)) × (List (List Int × Int × List Bool × Bool × Int × Bool × Int × (List (Int × Bool)))) × (List (Int × (List (Int × Int × Bool × List Int)))) × List Int)) → Bool → Int → Option ((Bool) ⊕ (Bool))
  | 0, _, _, _, _ => none
  | n + 1, p598, p599, p600, p601 =>
    bif (decide (p601 < (p598.length : Int))) then
      bif ((decide ((0 : Int) ≤ p601)) && (decide (p601 < (p598.length : Int)))) then
      bif ((decide ((0 : Int) ≤ p601)) && (decide (p601 < (p599.length : Int)))) then
      (f_laws_eqNode ((p598.getD p601.toNat (0, [], [], [], [])).1) ((p598.getD p601.toNat (0, [], [], [], [])).2.1) ((p598.getD p601.toNat (0, [], [], [], [])).2.2.1) ((p598.getD p601.toNat (0, [], [], [], [])).2.2.2.1) ((p598.getD p601.toNat (0, [], [], [], [])).2.2.2.2) ((p599.getD p601.toNat (0, [], [], [], [])).1) ((p599.getD p601.toNat (0, [], [], [], [])).2.1) ((p599.getD p601.toNat (0, [], [], [], [])).2.2.1) ((p599.getD p601.toNat (0, [], [], [], [])).2.2.2.1) ((p599.getD p601.toNat (0, [], [], [], [])).2.2.2.2)).bind fun y602 =>
      bif (!y602) then
        some (.inl false)
      else
        f_laws_eqNodeS.l0 n p598 p599 p600 (IntKind.wrap .i64 (p601 + (1 : Int)))
      else none
      else none
    else
      some (.inr p600)
noncomputable def f_laws_eqNodeS (x0 : List (Int × (List (Int × List Int × Bool)) × (List (List Int × Int × List Bool × Bool × Int × Bool × Int × (List (Int × Bool)))) × (List (Int × (List (Int × Int × Bool × List Int)))) × List Int)) (x1 : List (Int × (List (Int × List Int × Bool)) × (List (List Int × Int × List Bool × Bool × Int × Bool × Int × (List (Int × Bool)))) × (List (Int × (List (Int × Int × Bool × List Int)))) × List Int)) : Option (Bool) :=
  bif (!(decide ((x0.length : Int) = (x1.length : Int)))) then
    some false
  else
    (f_laws_eqNodeS.l0 N x0 x1 false 0).bind fun r603 =>
    cs r603 (fun a604 =>
      some a604) (fun b605 =>
      some true)
noncomputable def C67 : Con := ⟨[(.B, false, [(.sl R7)]), (.B, false, [(.sl R7)])], [(false, [.bool])], [(.sl R7), (.sl R7)], [.bool], fun (p : (List (Int × (List (Int × List Int × Bool)) × (List (List Int × Int × List Bool × Bool × Int × Bool × Int × (List (Int × Bool)))) × (List (Int × (List (Int × Int × Bool × List Int)))) × List Int)) × (List (Int × (List (Int × List Int × Bool)) × (List (List Int × Int × List Bool × Bool × Int × Bool × Int × (List (Int × Bool)))) × (List (Int × (List (Int × Int × Bool × List Int)))) × List Int))) => f_laws_eqNodeS p.1 p.2⟩
noncomputable def f_laws_eqNodeS.l0.c : LoopCon := ⟨1000, 6, [0, 1, 4, 5], ⟨[(0, .bor none R7 []), (1, .bor none R7 []), (4, .bool false), (5, .int .i64 0)], [], 1000⟩, [(.sl R7), (.sl R7), .bool, (.int .i64)], [⟨.ret, [4], ⟨[(4, .bool false)], [], 1000⟩, [.bool]⟩, ⟨.exit 0, [4], ⟨[(4, .bool false)], [], 1000⟩, [.bool]⟩], fun (p : (List (Int × (List (Int × List Int × Bool)) × (List (List Int × Int × List Bool × Bool × Int × Bool × Int × (List (Int × Bool)))) × (List (Int × (List (Int × Int × Bool × List Int)))) × List Int)) × (List (Int × (List (Int × List Int × Bool)) × (List (List Int × Int × List Bool × Bool × Int × Bool × Int × (List (Int × Bool)))) × (List (Int × (List (Int × Int × Bool × List Int)))) × List Int)) × Bool × Int) => f_laws_eqNodeS.l0 N p.1 p.2.1 p.2.2.1 p.2.2.2⟩
noncomputable abbrev K67 : Cons := [(22, C22)]
noncomputable abbrev L67 : List (Nat × Loops) := [(67, [(4, f_laws_eqNodeS.l0.c)])]
abbrev Q67 : List (Nat × List (Int × Nat) × Nat) := []
noncomputable abbrev X67 : Nat → Ctx := ctxOf tb K67 L67 Q67
theorem f_laws_eqNodeS.l0.ok : ∀ n p, (fun (p : (List (Int × (List (Int × List Int × Bool)) × (List (List Int × Int × List Bool × Bool × Int × Bool × Int × (List (Int × Bool)))) × (List (Int × (List (Int × Int × Bool × List Int)))) × List Int)) × (List (Int × (List (Int × List Int × Bool)) × (List (List Int × Int × List Bool × Bool × Int × Bool × Int × (List (Int × Bool)))) × (List (Int × (List (Int × Int × Bool × List Int)))) × List Int)) × Bool × Int) => f_laws_eqNodeS.l0 n p.1 p.2.1 p.2.2.1 p.2.2.2) p = iterD (roundOf fs X67 6 67 4 false f_laws_eqNodeS.l0.c) n p :=
  iter_of (l := fun n => fun (p : (List (Int × (List (Int × List Int × Bool)) × (List (List Int × Int × List Bool × Bool × Int × Bool × Int × (List (Int × Bool)))) × (List (Int × (List (Int × Int × Bool × List Int)))) × List Int)) × (List (Int × (List (Int × List Int × Bool)) × (List (List Int × Int × List Bool × Bool × Int × Bool × Int × (List (Int × Bool)))) × (List (Int × (List (Int × Int × Bool × List Int)))) × List Int)) × Bool × Int) => f_laws_eqNodeS.l0 n p.1 p.2.1 p.2.2.1 p.2.2.2) (fun _ => rfl) (fun n p => by kernel_rfl)
theorem E67 : ∀ x, funRun fs X67 6 67 C67 x = C67.fn x := fun x => by kernel_rfl
theorem B67 : ConB Tryz.prog 67 C67 := ConB.make FS MIX TY (cons := K67) (L := L67) (ptrs := Q67) ⟨S22, trivial⟩ trivial ⟨⟨⟨N, fun p => f_laws_eqNodeS.l0.ok N p⟩, trivial⟩, trivial⟩ rfl rfl E67
theorem S67 : ConS Tryz.prog 67 C67 := B67.call rfl
/-! laws.eqPacket: function 144 -/
noncomputable def f_laws_eqPacket (x0 : Int) (x1 : Int) (x2 : Bool) (x3 : Int) (x4 : Int) (x5 : Int) (x6 : Bool) (x7 : List Int) (x8 : Int) (x9 : Int) (x10 : Bool) (x11 : Int) (x12 : Int) (x13 : Int) (x14 : Bool) (x15 : List Int) : Option (Bool) :=
  bif (!(decide (x0 = x8))) then
    some false
  else
    bif (!(decide (x1 = x9))) then
      some false
    else
      bif (!(x2 == x10)) then
        some false
      else
        bif (!(decide (x3 = x11))) then
          some false
        else
          (f_laws_eqMsg x4 x5 x6 x7 x12 x13 x14 x15).bind fun y606 =>
          bif (!y606) then
            some false
          else
            some true
noncomputable def C144 : Con := ⟨[(.B, true, [(.int .i64), (.int .i64), .bool, (.int .i64), (.int .i64), (.int .i64), .bool, (.sl R0)]), (.B, true, [(.int .i64), (.int .i64), .bool, (.int .i64), (.int .i64), (.int .i64), .bool, (.sl R0)])], [(false, [.bool])], [(.int .i64), (.int .i64), .bool, (.int .i64), (.int .i64), (.int .i64), .bool, (.sl R0), (.int .i64), (.int .i64), .bool, (.int .i64), (.int .i64), (.int .i64), .bool, (.sl R0)], [.bool], fun (p : Int × Int × Bool × Int × Int × Int × Bool × List Int × Int × Int × Bool × Int × Int × Int × Bool × List Int) => f_laws_eqPacket p.1 p.2.1 p.2.2.1 p.2.2.2.1 p.2.2.2.2.1 p.2.2.2.2.2.1 p.2.2.2.2.2.2.1 p.2.2.2.2.2.2.2.1 p.2.2.2.2.2.2.2.2.1 p.2.2.2.2.2.2.2.2.2.1 p.2.2.2.2.2.2.2.2.2.2.1 p.2.2.2.2.2.2.2.2.2.2.2.1 p.2.2.2.2.2.2.2.2.2.2.2.2.1 p.2.2.2.2.2.2.2.2.2.2.2.2.2.1 p.2.2.2.2.2.2.2.2.2.2.2.2.2.2.1 p.2.2.2.2.2.2.2.2.2.2.2.2.2.2.2⟩
noncomputable abbrev K144 : Cons := [(55, C55)]
noncomputable abbrev L144 : List (Nat × Loops) := []
abbrev Q144 : List (Nat × List (Int × Nat) × Nat) := []
noncomputable abbrev X144 : Nat → Ctx := ctxOf tb K144 L144 Q144
theorem E144 : ∀ x, funRun fs X144 6 144 C144 x = C144.fn x := fun x => by kernel_rfl
theorem B144 : ConB Tryz.prog 144 C144 := ConB.make FS MIX TY (cons := K144) (L := L144) (ptrs := Q144) ⟨S55, trivial⟩ trivial trivial rfl rfl E144
theorem S144 : ConS Tryz.prog 144 C144 := B144.call rfl
/-! laws.eqPacketS: function 68 -/
noncomputable def f_laws_eqPacketS.l0 : Nat → (List (Int × Int × Bool × Int × Int × Int × Bool × List Int)) → (List (Int × Int × Bool × Int × Int × Int × Bool × List Int)) → Bool → Int → Option ((Bool) ⊕ (Bool))
  | 0, _, _, _, _ => none
  | n + 1, p607, p608, p609, p610 =>
    bif (decide (p610 < (p607.length : Int))) then
      bif ((decide ((0 : Int) ≤ p610)) && (decide (p610 < (p607.length : Int)))) then
      bif ((decide ((0 : Int) ≤ p610)) && (decide (p610 < (p608.length : Int)))) then
      (f_laws_eqPacket ((p607.getD p610.toNat (0, 0, false, 0, 0, 0, false, [])).1) ((p607.getD p610.toNat (0, 0, false, 0, 0, 0, false, [])).2.1) ((p607.getD p610.toNat (0, 0, false, 0, 0, 0, false, [])).2.2.1) ((p607.getD p610.toNat (0, 0, false, 0, 0, 0, false, [])).2.2.2.1) ((p607.getD p610.toNat (0, 0, false, 0, 0, 0, false, [])).2.2.2.2.1) ((p607.getD p610.toNat (0, 0, false, 0, 0, 0, false, [])).2.2.2.2.2.1) ((p607.getD p610.toNat (0, 0, false, 0, 0, 0, false, [])).2.2.2.2.2.2.1) ((p607.getD p610.toNat (0, 0, false, 0, 0, 0, false, [])).2.2.2.2.2.2.2) ((p608.getD p610.toNat (0, 0, false, 0, 0, 0, false, [])).1) ((p608.getD p610.toNat (0, 0, false, 0, 0, 0, false, [])).2.1) ((p608.getD p610.toNat (0, 0, false, 0, 0, 0, false, [])).2.2.1) ((p608.getD p610.toNat (0, 0, false, 0, 0, 0, false, [])).2.2.2.1) ((p608.getD p610.toNat (0, 0, false, 0, 0, 0, false, [])).2.2.2.2.1) ((p608.getD p610.toNat (0, 0, false, 0, 0, 0, false, [])).2.2.2.2.2.1) ((p608.getD p610.toNat (0, 0, false, 0, 0, 0, false, [])).2.2.2.2.2.2.1) ((p608.getD p610.toNat (0, 0, false, 0, 0, 0, false, [])).2.2.2.2.2.2.2)).bind fun y611 =>
      bif (!y611) then
        some (.inl false)
      else
        f_laws_eqPacketS.l0 n p607 p608 p609 (IntKind.wrap .i64 (p610 + (1 : Int)))
      else none
      else none
    else
      some (.inr p609)
noncomputable def f_laws_eqPacketS (x0 : List (Int × Int × Bool × Int × Int × Int × Bool × List Int)) (x1 : List (Int × Int × Bool × Int × Int × Int × Bool × List Int)) : Option (Bool) :=
  bif (!(decide ((x0.length : Int) = (x1.length : Int)))) then
    some false
  else
    (f_laws_eqPacketS.l0 N x0 x1 false 0).bind fun r612 =>
    cs r612 (fun a613 =>
      some a613) (fun b614 =>
      some true)
noncomputable def C68 : Con := ⟨[(.B, false, [(.sl R8)]), (.B, false, [(.sl R8)])], [(false, [.bool])], [(.sl R8), (.sl R8)], [.bool], fun (p : (List (Int × Int × Bool × Int × Int × Int × Bool × List Int)) × (List (Int × Int × Bool × Int × Int × Int × Bool × List Int))) => f_laws_eqPacketS p.1 p.2⟩
noncomputable def f_laws_eqPacketS.l0.c : LoopCon := ⟨1000, 6, [0, 1, 4, 5], ⟨[(0, .bor none R8 []), (1, .bor none R8 []), (4, .bool false), (5, .int .i64 0)], [], 1000⟩, [(.sl R8), (.sl R8), .bool, (.int .i64)], [⟨.ret, [4], ⟨[(4, .bool false)], [], 1000⟩, [.bool]⟩, ⟨.exit 0, [4], ⟨[(4, .bool false)], [], 1000⟩, [.bool]⟩], fun (p : (List (Int × Int × Bool × Int × Int × Int × Bool × List Int)) × (List (Int × Int × Bool × Int × Int × Int × Bool × List Int)) × Bool × Int) => f_laws_eqPacketS.l0 N p.1 p.2.1 p.2.2.1 p.2.2.2⟩
noncomputable abbrev K68 : Cons := [(144, C144)]
noncomputable abbrev L68 : List (Nat × Loops) := [(68, [(4, f_laws_eqPacketS.l0.c)])]
abbrev Q68 : List (Nat × List (Int × Nat) × Nat) := []
noncomputable abbrev X68 : Nat → Ctx := ctxOf tb K68 L68 Q68
theorem f_laws_eqPacketS.l0.ok : ∀ n p, (fun (p : (List (Int × Int × Bool × Int × Int × Int × Bool × List Int)) × (List (Int × Int × Bool × Int × Int × Int × Bool × List Int)) × Bool × Int) => f_laws_eqPacketS.l0 n p.1 p.2.1 p.2.2.1 p.2.2.2) p = iterD (roundOf fs X68 6 68 4 false f_laws_eqPacketS.l0.c) n p :=
  iter_of (l := fun n => fun (p : (List (Int × Int × Bool × Int × Int × Int × Bool × List Int)) × (List (Int × Int × Bool × Int × Int × Int × Bool × List Int)) × Bool × Int) => f_laws_eqPacketS.l0 n p.1 p.2.1 p.2.2.1 p.2.2.2) (fun _ => rfl) (fun n p => by kernel_rfl)
theorem E68 : ∀ x, funRun fs X68 6 68 C68 x = C68.fn x := fun x => by kernel_rfl
theorem B68 : ConB Tryz.prog 68 C68 := ConB.make FS MIX TY (cons := K68) (L := L68) (ptrs := Q68) ⟨S144, trivial⟩ trivial ⟨⟨⟨N, fun p => f_laws_eqPacketS.l0.ok N p⟩, trivial⟩, trivial⟩ rfl rfl E68
theorem S68 : ConS Tryz.prog 68 C68 := B68.call rfl
/-! laws.eqWorld: function 15 -/
noncomputable def f_laws_eqWorld (x0 : Int) (x1 : List (Int × (List (Int × List Int × Bool)) × (List (List Int × Int × List Bool × Bool × Int × Bool × Int × (List (Int × Bool)))) × (List (Int × (List (Int × Int × Bool × List Int)))) × List Int)) (x2 : List (Int × Int × Bool × Int × Int × Int × Bool × List Int)) (x3 : Int) (x4 : List (Int × (List (Int × List Int × Bool)) × (List (List Int × Int × List Bool × Bool × Int × Bool × Int × (List (Int × Bool)))) × (List (Int × (List (Int × Int × Bool × List Int)))) × List Int)) (x5 : List (Int × Int × Bool × Int × Int × Int × Bool × List Int)) : Option (Bool) :=
  bif (!(decide (x0 = x3))) then
    some false
  else
    (f_laws_eqNodeS x1 x4).bind fun y615 =>
    bif (!y615) then
      some false
    else
      (f_laws_eqPacketS x2 x5).bind fun y616 =>
      bif (!y616) then
        some false
      else
        some true
noncomputable def C15 : Con := ⟨[(.B, true, [(.int .i64), (.sl R7), (.sl R8)]), (.B, true, [(.int .i64), (.sl R7), (.sl R8)])], [(false, [.bool])], [(.int .i64), (.sl R7), (.sl R8), (.int .i64), (.sl R7), (.sl R8)], [.bool], fun (p : Int × (List (Int × (List (Int × List Int × Bool)) × (List (List Int × Int × List Bool × Bool × Int × Bool × Int × (List (Int × Bool)))) × (List (Int × (List (Int × Int × Bool × List Int)))) × List Int)) × (List (Int × Int × Bool × Int × Int × Int × Bool × List Int)) × Int × (List (Int × (List (Int × List Int × Bool)) × (List (List Int × Int × List Bool × Bool × Int × Bool × Int × (List (Int × Bool)))) × (List (Int × (List (Int × Int × Bool × List Int)))) × List Int)) × (List (Int × Int × Bool × Int × Int × Int × Bool × List Int))) => f_laws_eqWorld p.1 p.2.1 p.2.2.1 p.2.2.2.1 p.2.2.2.2.1 p.2.2.2.2.2⟩
noncomputable abbrev K15 : Cons := [(67, C67), (68, C68)]
noncomputable abbrev L15 : List (Nat × Loops) := []
abbrev Q15 : List (Nat × List (Int × Nat) × Nat) := []
noncomputable abbrev X15 : Nat → Ctx := ctxOf tb K15 L15 Q15
theorem E15 : ∀ x, funRun fs X15 6 15 C15 x = C15.fn x := fun x => by kernel_rfl
theorem B15 : ConB Tryz.prog 15 C15 := ConB.make FS MIX TY (cons := K15) (L := L15) (ptrs := Q15) ⟨S67, S68, trivial⟩ trivial trivial rfl rfl E15
theorem S15 : ConS Tryz.prog 15 C15 := B15.call rfl
/-! laws.markIntS: function 40 -/
noncomputable def f_laws_markIntS.l0 : Nat → Int → Int → Int → (List Int) → Option (Int × Int × List Int)
  | 0, _, _, _, _ => none
  | n + 1, p617, p618, p619, p620 =>
    bif (decide (p619 < (p620.length : Int))) then
      bif ((decide ((0 : Int) ≤ p619)) && (decide (p619 < (p620.length : Int)))) then
      (some ((p620.set p619.toNat p617) : List Int)).bind fun z621 =>
      f_laws_markIntS.l0 n (IntKind.wrap .i64 (p617 + (1 : Int))) p618 (IntKind.wrap .i64 (p619 + (1 : Int))) z621
      else none
    else
      some (p617, p618, p620)
noncomputable def f_laws_markIntS (x0 : List Int) (x1 : Int) : Option (Int × List Int) :=
  (f_laws_markIntS.l0 N x1 0 0 x0).bind fun r622 =>
  some (r622.1, r622.2.2)
noncomputable def C40 : Con := ⟨[(.I, false, [(.sl R0)]), (.B, false, [(.int .i64)])], [(false, [(.int .i64)])], [(.sl R0), (.int .i64)], [(.int .i64), (.sl R0)], fun (p : List Int × Int) => f_laws_markIntS p.1 p.2⟩
noncomputable def f_laws_markIntS.l0.c : LoopCon := ⟨1000, 6, [0, 1, 4, 5], ⟨[(0, .ref 0 [] none), (1, .int .i64 0), (4, .int .i64 0), (5, .int .i64 0)], [(0, .row R0 [])], 1000⟩, [(.int .i64), (.int .i64), (.int .i64), (.sl R0)], [⟨.exit 0, [1, 4], ⟨[(1, .int .i64 0), (4, .int .i64 0)], [(0, .row R0 [])], 1000⟩, [(.int .i64), (.int .i64), (.sl R0)]⟩], fun (p : Int × Int × Int × List Int) => f_laws_markIntS.l0 N p.1 p.2.1 p.2.2.1 p.2.2.2⟩
noncomputable abbrev K40 : Cons := []
noncomputable abbrev L40 : List (Nat × Loops) := [(40, [(2, f_laws_markIntS.l0.c)])]
abbrev Q40 : List (Nat × List (Int × Nat) × Nat) := []
noncomputable abbrev X40 : Nat → Ctx := ctxOf tb K40 L40 Q40
theorem f_laws_markIntS.l0.ok : ∀ n p, (fun (p : Int × Int × Int × List Int) => f_laws_markIntS.l0 n p.1 p.2.1 p.2.2.1 p.2.2.2) p = iterD (roundOf fs X40 6 40 2 false f_laws_markIntS.l0.c) n p :=
  iter_of (l := fun n => fun (p : Int × Int × Int × List Int) => f_laws_markIntS.l0 n p.1 p.2.1 p.2.2.1 p.2.2.2) (fun _ => rfl) (fun n p => by kernel_rfl)
theorem E40 : ∀ x, funG fs X40 6 40 C40 x = C40.fn x := fun x => by kernel_rfl
theorem B40 : ConG Tryz.prog 40 C40 := ConG.make FS MIX TY (cons := K40) (L := L40) (ptrs := Q40) trivial trivial ⟨⟨⟨N, fun p => f_laws_markIntS.l0.ok N p⟩, trivial⟩, trivial⟩ rfl (by kernel_rfl) E40
theorem S40 : ConS Tryz.prog 40 C40 := B40.call (by kernel_rfl)
/-! laws.markFrameS: function 91 -/
noncomputable def f_laws_markFrameS.l0 : Nat → Int → Int → Int → (List (Int × List Int × Bool)) → Option (Int × Int × (List (Int × List Int × Bool)))
  | 0, _, _, _, _ => none
  | n + 1, p623, p624, p625, p626 =>
    bif (decide (p625 < (p626.length : Int))) then
      bif ((decide ((0 : Int) ≤ p625)) && (decide (p625 < (p626.length : Int)))) then
      (some ((p626.set p625.toNat (p623, (p626.getD p625.toNat (0, [], false)).2.1, (p626.getD p625.toNat (0, [], false)).2.2)) : List (Int × List Int × Bool))).bind fun z627 =>
      bif ((decide ((0 : Int) ≤ p625)) && (decide (p625 < (z627.length : Int)))) then
      (f_laws_markIntS ((z627.getD p625.toNat (0, [], false)).2.1) (IntKind.wrap .i64 (p623 + (1 : Int)))).bind fun y628 =>
      (some ((z627.set p625.toNat ((z627.getD p625.toNat (0, [], false)).1, y628.2, (z627.getD p625.toNat (0, [], false)).2.2)) : List (Int × List Int × Bool))).bind fun z629 =>
      bif ((decide ((0 : Int) ≤ p625)) && (decide (p625 < (z629.length : Int)))) then
      (some ((z629.set p625.toNat ((z629.getD p625.toNat (0, [], false)).1, (z629.getD p625.toNat (0, [], false)).2.1, (decide ((Int.tmod y628.1 (3 : Int)) = (0 : Int))))) : List (Int × List Int × Bool))).bind fun z630 =>
      f_laws_markFrameS.l0 n (IntKind.wrap .i64 (y628.1 + (1 : Int))) p624 (IntKind.wrap .i64 (p625 + (1 : Int))) z630
      else none
      else none
      else none
    else
      some (p623, p624, p626)
noncomputable def f_laws_markFrameS (x0 : List (Int × List Int × Bool)) (x1 : Int) : Option (Int × (List (Int × List Int × Bool))) :=
  (f_laws_markFrameS.l0 N x1 0 0 x0).bind fun r631 =>
  some (r631.1, r631.2.2)
noncomputable def C91 : Con := ⟨[(.I, false, [(.sl R1)]), (.B, false, [(.int .i64)])], [(false, [(.int .i64)])], [(.sl R1), (.int .i64)], [(.int .i64), (.sl R1)], fun (p : (List (Int × List Int × Bool)) × Int) => f_laws_markFrameS p.1 p.2⟩
noncomputable def f_laws_markFrameS.l0.c : LoopCon := ⟨1000, 6, [0, 1, 4, 5], ⟨[(0, .ref 0 [] none), (1, .int .i64 0), (4, .int .i64 0), (5, .int .i64 0)], [(0, .row R1 [])], 1000⟩, [(.int .i64), (.int .i64), (.int .i64), (.sl R1)], [⟨.exit 0, [1, 4], ⟨[(1, .int .i64 0), (4, .int .i64 0)], [(0, .row R1 [])], 1000⟩, [(.int .i64), (.int .i64), (.sl R1)]⟩], fun (p : Int × Int × Int × (List (Int × List Int × Bool))) => f_laws_markFrameS.l0 N p.1 p.2.1 p.2.2.1 p.2.2.2⟩
noncomputable abbrev K91 : Cons := [(40, C40)]
noncomputable abbrev L91 : List (Nat × Loops) := [(91, [(2, f_laws_markFrameS.l0.c)])]
abbrev Q91 : List (Nat × List (Int × Nat) × Nat) := []
noncomputable abbrev X91 : Nat → Ctx := ctxOf tb K91 L91 Q91
theorem f_laws_markFrameS.l0.ok : ∀ n p, (fun (p : Int × Int × Int × (List (Int × List Int × Bool))) => f_laws_markFrameS.l0 n p.1 p.2.1 p.2.2.1 p.2.2.2) p = iterD (roundOf fs X91 6 91 2 false f_laws_markFrameS.l0.c) n p :=
  iter_of (l := fun n => fun (p : Int × Int × Int × (List (Int × List Int × Bool))) => f_laws_markFrameS.l0 n p.1 p.2.1 p.2.2.1 p.2.2.2) (fun _ => rfl) (fun n p => by kernel_rfl)
theorem E91 : ∀ x, funG fs X91 6 91 C91 x = C91.fn x := fun x => by kernel_rfl
theorem B91 : ConG Tryz.prog 91 C91 := ConG.make FS MIX TY (cons := K91) (L := L91) (ptrs := Q91) ⟨S40, trivial⟩ trivial ⟨⟨⟨N, fun p => f_laws_markFrameS.l0.ok N p⟩, trivial⟩, trivial⟩ rfl (by kernel_rfl) E91
theorem S91 : ConS Tryz.prog 91 C91 := B91.call (by kernel_rfl)
/-! laws.markBoolS: function 168 -/
noncomputable def f_laws_markBoolS.l0 : Nat → Int → Int → Int → (List Bool) → Option (Int × Int × List Bool)
  | 0, _, _, _, _ => none
  | n + 1, p632, p633, p634, p635 =>
    bif (decide (p634 < (p635.length : Int))) then
      bif ((decide ((0 : Int) ≤ p634)) && (decide (p634 < (p635.length : Int)))) then
      (some ((p635.set p634.toNat (decide ((Int.tmod p632 (3 : Int)) = (0 : Int)))) : List Bool)).bind fun z636 =>
      f_laws_markBoolS.l0 n (IntKind.wrap .i64 (p632 + (1 : Int))) p633 (IntKind.wrap .i64 (p634 + (1 : Int))) z636
      else none
    else
      some (p632, p633, p635)
noncomputable def f_laws_markBoolS (x0 : List Bool) (x1 : Int) : Option (Int × List Bool) :=
  (f_laws_markBoolS.l0 N x1 0 0 x0).bind fun r637 =>
  some (r637.1, r637.2.2)
noncomputable def C168 : Con := ⟨[(.I, false, [(.sl R2)]), (.B, false, [(.int .i64)])], [(false, [(.int .i64)])], [(.sl R2), (.int .i64)], [(.int .i64), (.sl R2)], fun (p : List Bool × Int) => f_laws_markBoolS p.1 p.2⟩
noncomputable def f_laws_markBoolS.l0.c : LoopCon := ⟨1000, 6, [0, 1, 4, 5], ⟨[(0, .ref 0 [] none), (1, .int .i64 0), (4, .int .i64 0), (5, .int .i64 0)], [(0, .row R2 [])], 1000⟩, [(.int .i64), (.int .i64), (.int .i64), (.sl R2)], [⟨.exit 0, [1, 4], ⟨[(1, .int .i64 0), (4, .int .i64 0)], [(0, .row R2 [])], 1000⟩, [(.int .i64), (.int .i64), (.sl R2)]⟩], fun (p : Int × Int × Int × List Bool) => f_laws_markBoolS.l0 N p.1 p.2.1 p.2.2.1 p.2.2.2⟩
noncomputable abbrev K168 : Cons := []
noncomputable abbrev L168 : List (Nat × Loops) := [(168, [(2, f_laws_markBoolS.l0.c)])]
abbrev Q168 : List (Nat × List (Int × Nat) × Nat) := []
noncomputable abbrev X168 : Nat → Ctx := ctxOf tb K168 L168 Q168
theorem f_laws_markBoolS.l0.ok : ∀ n p, (fun (p : Int × Int × Int × List Bool) => f_laws_markBoolS.l0 n p.1 p.2.1 p.2.2.1 p.2.2.2) p = iterD (roundOf fs X168 6 168 2 false f_laws_markBoolS.l0.c) n p :=
  iter_of (l := fun n => fun (p : Int × Int × Int × List Bool) => f_laws_markBoolS.l0 n p.1 p.2.1 p.2.2.1 p.2.2.2) (fun _ => rfl) (fun n p => by kernel_rfl)
theorem E168 : ∀ x, funG fs X168 6 168 C168 x = C168.fn x := fun x => by kernel_rfl
theorem B168 : ConG Tryz.prog 168 C168 := ConG.make FS MIX TY (cons := K168) (L := L168) (ptrs := Q168) trivial trivial ⟨⟨⟨N, fun p => f_laws_markBoolS.l0.ok N p⟩, trivial⟩, trivial⟩ rfl (by kernel_rfl) E168
theorem S168 : ConS Tryz.prog 168 C168 := B168.call (by kernel_rfl)
/-! laws.markWaitS: function 169 -/
noncomputable def f_laws_markWaitS.l0 : Nat → Int → Int → Int → (List (Int × Bool)) → Option (Int × Int × (List (Int × Bool)))
  | 0, _, _, _, _ => none
  | n + 1, p638, p639, p640, p641 =>
    bif (decide (p640 < (p641.length : Int))) then
      bif ((decide ((0 : Int) ≤ p640)) && (decide (p640 < (p641.length : Int)))) then
      (some ((p641.set p640.toNat (p638, (p641.getD p640.toNat (0, false)).2)) : List (Int × Bool))).bind fun z642 =>
      bif ((decide ((0 : Int) ≤ p640)) && (decide (p640 < (z642.length : Int)))) then
      (some ((z642.set p640.toNat ((z642.getD p640.toNat (0, false)).1, (decide ((Int.tmod (IntKind.wrap .i64 (p638 + (1 : Int))) (3 : Int)) = (0 : Int))))) : List (Int × Bool))).bind fun z643 =>
      f_laws_markWaitS.l0 n (IntKind.wrap .i64 ((IntKind.wrap .i64 (p638 + (1 : Int))) + (1 : Int))) p639 (IntKind.wrap .i64 (p640 + (1 : Int))) z643
      else none
      else none
    else
      some (p638, p639, p641)
noncomputable def f_laws_markWaitS (x0 : List (Int × Bool)) (x1 : Int) : Option (Int × (List (Int × Bool))) :=
  (f_laws_markWaitS.l0 N x1 0 0 x0).bind fun r644 =>
  some (r644.1, r644.2.2)
noncomputable def C169 : Con := ⟨[(.I, false, [(.sl R3)]), (.B, false, [(.int .i64)])], [(false, [(.int .i64)])], [(.sl R3), (.int .i64)], [(.int .i64), (.sl R3)], fun (p : (List (Int × Bool)) × Int) => f_laws_markWaitS p.1 p.2⟩
noncomputable def f_laws_markWaitS.l0.c : LoopCon := ⟨1000, 6, [0, 1, 4, 5], ⟨[(0, .ref 0 [] none), (1, .int .i64 0), (4, .int .i64 0), (5, .int .i64 0)], [(0, .row R3 [])], 1000⟩, [(.int .i64), (.int .i64), (.int .i64), (.sl R3)], [⟨.exit 0, [1, 4], ⟨[(1, .int .i64 0), (4, .int .i64 0)], [(0, .row R3 [])], 1000⟩, [(.int .i64), (.int .i64), (.sl R3)]⟩], fun (p : Int × Int × Int × (List (Int × Bool))) => f_laws_markWaitS.l0 N p.1 p.2.1 p.2.2.1 p.2.2.2⟩
noncomputable abbrev K169 : Cons := []
noncomputable abbrev L169 : List (Nat × Loops) := [(169, [(2, f_laws_markWaitS.l0.c)])]
abbrev Q169 : List (Nat × List (Int × Nat) × Nat) := []
noncomputable abbrev X169 : Nat → Ctx := ctxOf tb K169 L169 Q169
theorem f_laws_markWaitS.l0.ok : ∀ n p, (fun (p : Int × Int × Int × (List (Int × Bool))) => f_laws_markWaitS.l0 n p.1 p.2.1 p.2.2.1 p.2.2.2) p = iterD (roundOf fs X169 6 169 2 false f_laws_markWaitS.l0.c) n p :=
  iter_of (l := fun n => fun (p : Int × Int × Int × (List (Int × Bool))) => f_laws_markWaitS.l0 n p.1 p.2.1 p.2.2.1 p.2.2.2) (fun _ => rfl) (fun n p => by kernel_rfl)
theorem E169 : ∀ x, funG fs X169 6 169 C169 x = C169.fn x := fun x => by kernel_rfl
theorem B169 : ConG Tryz.prog 169 C169 := ConG.make FS MIX TY (cons := K169) (L := L169) (ptrs := Q169) trivial trivial ⟨⟨⟨N, fun p => f_laws_markWaitS.l0.ok N p⟩, trivial⟩, trivial⟩ rfl (by kernel_rfl) E169
theorem S169 : ConS Tryz.prog 169 C169 := B169.call (by kernel_rfl)
/-! laws.markHomeS: function 92 -/
noncomputable def f_laws_markHomeS.l0 : Nat → Int → Int → Int → (List (List Int × Int × List Bool × Bool × Int × Bool × Int × (List (Int × Bool)))) → Option (Int × Int × (List (List Int × Int × List Bool × Bool × Int × Bool × Int × (List (Int × Bool)))))
  | 0, _, _, _, _ => none
  | n + 1, p645, p646, p647, p648 =>
    bif (decide (p647 < (p648.length : Int))) then
      bif ((decide ((0 : Int) ≤ p647)) && (decide (p647 < (p648.length : Int)))) then
      (f_laws_markIntS ((p648.getD p647.toNat ([], 0, [], false, 0, false, 0, [])).1) p645).bind fun y649 =>
      (some ((p648.set p647.toNat (y649.2, (p648.getD p647.toNat ([], 0, [], false, 0, false, 0, [])).2.1, (p648.getD p647.toNat ([], 0, [], false, 0, false, 0, [])).2.2.1, (p648.getD p647.toNat ([], 0, [], false, 0, false, 0, [])).2.2.2.1, (p648.getD p647.toNat ([], 0, [], false, 0, false, 0, [])).2.2.2.2.1, (p648.getD p647.toNat ([], 0, [], false, 0, false, 0, [])).2.2.2.2.2.1, (p648.getD p647.toNat ([], 0, [], false, 0, false, 0, [])).2.2.2.2.2.2.1, (p648.getD p647.toNat ([], 0, [], false, 0, false, 0, [])).2.2.2.2.2.2.2)) : List (List Int × Int × List Bool × Bool × Int × Bool × Int × (List (Int × Bool))))).bind fun z650 =>
      bif ((decide ((0 : Int) ≤ p647)) && (decide (p647 < (z650.length : Int)))) then
      (some ((z650.set p647.toNat ((z650.getD p647.toNat ([], 0, [], false, 0, false, 0, [])).1, y649.1, (z650.getD p647.toNat ([], 0, [], false, 0, false, 0, [])).2.2.1, (z650.getD p647.toNat ([], 0, [], false, 0, false, 0, [])).2.2.2.1, (z650.getD p647.toNat ([], 0, [], false, 0, false, 0, [])).2.2.2.2.1, (z650.getD p647.toNat ([], 0, [], false, 0, false, 0, [])).2.2.2.2.2.1, (z650.getD p647.toNat ([], 0, [], false, 0, false, 0, [])).2.2.2.2.2.2.1, (z650.getD p647.toNat ([], 0, [], false, 0, false, 0, [])).2.2.2.2.2.2.2)) : List (List Int × Int × List Bool × Bool × Int × Bool × Int × (List (Int × Bool))))).bind fun z651 =>
      bif ((decide ((0 : Int) ≤ p647)) && (decide (p647 < (z651.length : Int)))) then
      (f_laws_markBoolS ((z651.getD p647.toNat ([], 0, [], false, 0, false, 0, [])).2.2.1) (IntKind.wrap .i64 (y649.1 + (1 : Int)))).bind fun y652 =>
      (some ((z651.set p647.toNat ((z651.getD p647.toNat ([], 0, [], false, 0, false, 0, [])).1, (z651.getD p647.toNat ([], 0, [], false, 0, false, 0, [])).2.1, y652.2, (z651.getD p647.toNat ([], 0, [], false, 0, false, 0, [])).2.2.2.1, (z651.getD p647.toNat ([], 0, [], false, 0, false, 0, [])).2.2.2.2.1, (z651.getD p647.toNat ([], 0, [], false, 0, false, 0, [])).2.2.2.2.2.1, (z651.getD p647.toNat ([], 0, [], false, 0, false, 0, [])).2.2.2.2.2.2.1, (z651.getD p647.toNat ([], 0, [], false, 0, false, 0, [])).2.2.2.2.2.2.2)) : List (List Int × Int × List Bool × Bool × Int × Bool × Int × (List (Int × Bool))))).bind fun z653 =>
      bif ((decide ((0 : Int) ≤ p647)) && (decide (p647 < (z653.length : Int)))) then
      (some ((z653.set p647.toNat ((z653.getD p647.toNat ([], 0, [], false, 0, false, 0, [])).1, (z653.getD p647.toNat ([], 0, [], false, 0, false, 0, [])).2.1, (z653.getD p647.toNat ([], 0, [], false, 0, false, 0, [])).2.2.1, (decide ((Int.tmod y652.1 (3 : Int)) = (0 : Int))), (z653.getD p647.toNat ([], 0, [], false, 0, false, 0, [])).2.2.2.2.1, (z653.getD p647.toNat ([], 0, [], false, 0, false, 0, [])).2.2.2.2.2.1, (z653.getD p647.toNat ([], 0, [], false, 0, false, 0, [])).2.2.2.2.2.2.1, (z653.getD p647.toNat ([], 0, [], false, 0, false, 0, [])).2.2.2.2.2.2.2)) : List (List Int × Int × List Bool × Bool × Int × Bool × Int × (List (Int × Bool))))).bind fun z654 =>
      bif ((decide ((0 : Int) ≤ p647)) && (decide (p647 < (z654.length : Int)))) then
      (some ((z654.set p647.toNat ((z654.getD p647.toNat ([], 0, [], false, 0, false, 0, [])).1, (z654.getD p647.toNat ([], 0, [], false, 0, false, 0, [])).2.1, (z654.getD p647.toNat ([], 0, [], false, 0, false, 0, [])).2.2.1, (z654.getD p647.toNat ([], 0, [], false, 0, false, 0, [])).2.2.2.1, (IntKind.wrap .i64 (y652.1 + (1 : Int))), (z654.getD p647.toNat ([], 0, [], false, 0, false, 0, [])).2.2.2.2.2.1, (z654.getD p647.toNat ([], 0, [], false, 0, false, 0, [])).2.2.2.2.2.2.1, (z654.getD p647.toNat ([], 0, [], false, 0, false, 0, [])).2.2.2.2.2.2.2)) : List (List Int × Int × List Bool × Bool × Int × Bool × Int × (List (Int × Bool))))).bind fun z655 =>
      bif ((decide ((0 : Int) ≤ p647)) && (decide (p647 < (z655.length : Int)))) then
      (some ((z655.set p647.toNat ((z655.getD p647.toNat ([], 0, [], false, 0, false, 0, [])).1, (z655.getD p647.toNat ([], 0, [], false, 0, false, 0, [])).2.1, (z655.getD p647.toNat ([], 0, [], false, 0, false, 0, [])).2.2.1, (z655.getD p647.toNat ([], 0, [], false, 0, false, 0, [])).2.2.2.1, (z655.getD p647.toNat ([], 0, [], false, 0, false, 0, [])).2.2.2.2.1, (decide ((Int.tmod (IntKind.wrap .i64 ((IntKind.wrap .i64 (y652.1 + (1 : Int))) + (1 : Int))) (3 : Int)) = (0 : Int))), (z655.getD p647.toNat ([], 0, [], false, 0, false, 0, [])).2.2.2.2.2.2.1, (z655.getD p647.toNat ([], 0, [], false, 0, false, 0, [])).2.2.2.2.2.2.2)) : List (List Int × Int × List Bool × Bool × Int × Bool × Int × (List (Int × Bool))))).bind fun z656 =>
      bif ((decide ((0 : Int) ≤ p647)) && (decide (p647 < (z656.length : Int)))) then
      (some ((z656.set p647.toNat ((z656.getD p647.toNat ([], 0, [], false, 0, false, 0, [])).1, (z656.getD p647.toNat ([], 0, [], false, 0, false, 0, [])).2.1, (z656.getD p647.toNat ([], 0, [], false, 0, false, 0, [])).2.2.1, (z656.getD p647.toNat ([], 0, [], false, 0, false, 0, [])).2.2.2.1, (z656.getD p647.toNat ([], 0, [], false, 0, false, 0, [])).2.2.2.2.1, (z656.getD p647.toNat ([], 0, [], false, 0, false, 0, [])).2.2.2.2.2.1, (IntKind.wrap .i64 ((IntKind.wrap .i64 ((IntKind.wrap .i64 (y652.1 + (1 : Int))) + (1 : Int))) + (1 : Int))), (z656.getD p647.toNat ([], 0, [], false, 0, false, 0, [])).2.2.2.2.2.2.2)) : List (List Int × Int × List Bool × Bool × Int × Bool × Int × (List (Int × Bool))))).bind fun z657 =>
      bif ((decide ((0 : Int) ≤ p647)) && (decide (p647 < (z657.length : Int)))) then
      (f_laws_markWaitS ((z657.getD p647.toNat ([], 0, [], false, 0, false, 0, [])).2.2.2.2.2.2.2) (IntKind.wrap .i64 ((IntKind.wrap .i64 ((IntKind.wrap .i64 ((IntKind.wrap .i64 (y652.1 + (1 : Int))) + (1 : Int))) + (1 : Int))) + (1 : Int)))).bind fun y658 =>
      (some ((z657.set p647.toNat ((z657.getD p647.toNat ([], 0, [], false, 0, false, 0, [])).1, (z657.getD p647.toNat ([], 0, [], false, 0, false, 0, [])).2.1, (z657.getD p647.toNat ([], 0, [], false, 0, false, 0, [])).2.2.1, (z657.getD p647.toNat ([], 0, [], false, 0, false, 0, [])).2.2.2.1, (z657.getD p647.toNat ([], 0, [], false, 0, false, 0, [])).2.2.2.2.1, (z657.getD p647.toNat ([], 0, [], false, 0, false, 0, [])).2.2.2.2.2.1, (z657.getD p647.toNat ([], 0, [], false, 0, false, 0, [])).2.2.2.2.2.2.1, y658.2)) : List (List Int × Int × List Bool × Bool × Int × Bool × Int × (List (Int × Bool))))).bind fun z659 =>
      f_laws_markHomeS.l0 n y658.1 p646 (IntKind.wrap .i64 (p647 + (1 : Int))) z659
      else none
      else none
      else none
      else none
      else none
      else none
      else none
      else none
    else
      some (p645, p646, p648)
noncomputable def f_laws_markHomeS (x0 : List (List Int × Int × List Bool × Bool × Int × Bool × Int × (List (Int × Bool)))) (x1 : Int) : Option (Int × (List (List Int × Int × List Bool × Bool × Int × Bool × Int × (List (Int × Bool))))) :=
  (f_laws_markHomeS.l0 N x1 0 0 x0).bind fun r660 =>
  some (r660.1, r660.2.2)
noncomputable def C92 : Con := ⟨[(.I, false, [(.sl R4)]), (.B, false, [(.int .i64)])], [(false, [(.int .i64)])], [(.sl R4), (.int .i64)], [(.int .i64), (.sl R4)], fun (p : (List (List Int × Int × List Bool × Bool × Int × Bool × Int × (List (Int × Bool)))) × Int) => f_laws_markHomeS p.1 p.2⟩
noncomputable def f_laws_markHomeS.l0.c : LoopCon := ⟨1000, 6, [0, 1, 4, 5], ⟨[(0, .ref 0 [] none), (1, .int .i64 0), (4, .int .i64 0), (5, .int .i64 0)], [(0, .row R4 [])], 1000⟩, [(.int .i64), (.int .i64), (.int .i64), (.sl R4)], [⟨.exit 0, [1, 4], ⟨[(1, .int .i64 0), (4, .int .i64 0)], [(0, .row R4 [])], 1000⟩, [(.int .i64), (.int .i64), (.sl R4)]⟩], fun (p : Int × Int × Int × (List (List Int × Int × List Bool × Bool × Int × Bool × Int × (List (Int × Bool))))) => f_laws_markHomeS.l0 N p.1 p.2.1 p.2.2.1 p.2.2.2⟩
noncomputable abbrev K92 : Cons := [(40, C40), (168, C168), (169, C169)]
noncomputable abbrev L92 : List (Nat × Loops) := [(92, [(2, f_laws_markHomeS.l0.c)])]
abbrev Q92 : List (Nat × List (Int × Nat) × Nat) := []
noncomputable abbrev X92 : Nat → Ctx := ctxOf tb K92 L92 Q92
theorem f_laws_markHomeS.l0.ok : ∀ n p, (fun (p : Int × Int × Int × (List (List Int × Int × List Bool × Bool × Int × Bool × Int × (List (Int × Bool))))) => f_laws_markHomeS.l0 n p.1 p.2.1 p.2.2.1 p.2.2.2) p = iterD (roundOf fs X92 6 92 2 false f_laws_markHomeS.l0.c) n p :=
  iter_of (l := fun n => fun (p : Int × Int × Int × (List (List Int × Int × List Bool × Bool × Int × Bool × Int × (List (Int × Bool))))) => f_laws_markHomeS.l0 n p.1 p.2.1 p.2.2.1 p.2.2.2) (fun _ => rfl) (fun n p => by kernel_rfl)
theorem E92 : ∀ x, funG fs X92 6 92 C92 x = C92.fn x := fun x => by kernel_rfl
theorem B92 : ConG Tryz.prog 92 C92 := ConG.make FS MIX TY (cons := K92) (L := L92) (ptrs := Q92) ⟨S40, S168, S169, trivial⟩ trivial ⟨⟨⟨N, fun p => f_laws_markHomeS.l0.ok N p⟩, trivial⟩, trivial⟩ rfl (by kernel_rfl) E92
theorem S92 : ConS Tryz.prog 92 C92 := B92.call (by kernel_rfl)
/-! laws.markMsgS: function 29 -/
noncomputable def f_laws_markMsgS.l0 : Nat → Int → Int → Int → (List (Int × Int × Bool × List Int)) → Option (Int × Int × (List (Int × Int × Bool × List Int)))
  | 0, _, _, _, _ => none
  | n + 1, p661, p662, p663, p664 =>
    bif (decide (p663 < (p664.length : Int))) then
      bif ((decide ((0 : Int) ≤ p663)) && (decide (p663 < (p664.length : Int)))) then
      (some ((p664.set p663.toNat (p661, (p664.getD p663.toNat (0, 0, false, [])).2.1, (p664.getD p663.toNat (0, 0, false, [])).2.2.1, (p664.getD p663.toNat (0, 0, false, [])).2.2.2)) : List (Int × Int × Bool × List Int))).bind fun z665 =>
      bif ((decide ((0 : Int) ≤ p663)) && (decide (p663 < (z665.length : Int)))) then
      (some ((z665.set p663.toNat ((z665.getD p663.toNat (0, 0, false, [])).1, (IntKind.wrap .i64 (p661 + (1 : Int))), (z665.getD p663.toNat (0, 0, false, [])).2.2.1, (z665.getD p663.toNat (0, 0, false, [])).2.2.2)) : List (Int × Int × Bool × List Int))).bind fun z666 =>
      bif ((decide ((0 : Int) ≤ p663)) && (decide (p663 < (z666.length : Int)))) then
      (some ((z666.set p663.toNat ((z666.getD p663.toNat (0, 0, false, [])).1, (z666.getD p663.toNat (0, 0, false, [])).2.1, (decide ((Int.tmod (IntKind.wrap .i64 ((IntKind.wrap .i64 (p661 + (1 : Int))) + (1 : Int))) (3 : Int)) = (0 : Int))), (z666.getD p663.toNat (0, 0, false, [])).2.2.2)) : List (Int × Int × Bool × List Int))).bind fun z667 =>
      bif ((decide ((0 : Int) ≤ p663)) && (decide (p663 < (z667.length : Int)))) then
      (f_laws_markIntS ((z667.getD p663.toNat (0, 0, false, [])).2.2.2) (IntKind.wrap .i64 ((IntKind.wrap .i64 ((IntKind.wrap .i64 (p661 + (1 : Int))) + (1 : Int))) + (1 : Int)))).bind fun y668 =>
      (some ((z667.set p663.toNat ((z667.getD p663.toNat (0, 0, false, [])).1, (z667.getD p663.toNat (0, 0, false, [])).2.1, (z667.getD p663.toNat (0, 0, false, [])).2.2.1, y668.2)) : List (Int × Int × Bool × List Int))).bind fun z669 =>
      f_laws_markMsgS.l0 n y668.1 p662 (IntKind.wrap .i64 (p663 + (1 : Int))) z669
      else none
      else none
      else none
      else none
    else
      some (p661, p662, p664)
noncomputable def f_laws_markMsgS (x0 : List (Int × Int × Bool × List Int)) (x1 : Int) : Option (Int × (List (Int × Int × Bool × List Int))) :=
  (f_laws_markMsgS.l0 N x1 0 0 x0).bind fun r670 =>
  some (r670.1, r670.2.2)
noncomputable def C29 : Con := ⟨[(.I, false, [(.sl R5)]), (.B, false, [(.int .i64)])], [(false, [(.int .i64)])], [(.sl R5), (.int .i64)], [(.int .i64), (.sl R5)], fun (p : (List (Int × Int × Bool × List Int)) × Int) => f_laws_markMsgS p.1 p.2⟩
noncomputable def f_laws_markMsgS.l0.c : LoopCon := ⟨1000, 6, [0, 1, 4, 5], ⟨[(0, .ref 0 [] none), (1, .int .i64 0), (4, .int .i64 0), (5, .int .i64 0)], [(0, .row R5 [])], 1000⟩, [(.int .i64), (.int .i64), (.int .i64), (.sl R5)], [⟨.exit 0, [1, 4], ⟨[(1, .int .i64 0), (4, .int .i64 0)], [(0, .row R5 [])], 1000⟩, [(.int .i64), (.int .i64), (.sl R5)]⟩], fun (p : Int × Int × Int × (List (Int × Int × Bool × List Int))) => f_laws_markMsgS.l0 N p.1 p.2.1 p.2.2.1 p.2.2.2⟩
noncomputable abbrev K29 : Cons := [(40, C40)]
noncomputable abbrev L29 : List (Nat × Loops) := [(29, [(2, f_laws_markMsgS.l0.c)])]
abbrev Q29 : List (Nat × List (Int × Nat) × Nat) := []
noncomputable abbrev X29 : Nat → Ctx := ctxOf tb K29 L29 Q29
theorem f_laws_markMsgS.l0.ok : ∀ n p, (fun (p : Int × Int × Int × (List (Int × Int × Bool × List Int))) => f_laws_markMsgS.l0 n p.1 p.2.1 p.2.2.1 p.2.2.2) p = iterD (roundOf fs X29 6 29 2 false f_laws_markMsgS.l0.c) n p :=
  iter_of (l := fun n => fun (p : Int × Int × Int × (List (Int × Int × Bool × List Int))) => f_laws_markMsgS.l0 n p.1 p.2.1 p.2.2.1 p.2.2.2) (fun _ => rfl) (fun n p => by kernel_rfl)
theorem E29 : ∀ x, funG fs X29 6 29 C29 x = C29.fn x := fun x => by kernel_rfl
theorem B29 : ConG Tryz.prog 29 C29 := ConG.make FS MIX TY (cons := K29) (L := L29) (ptrs := Q29) ⟨S40, trivial⟩ trivial ⟨⟨⟨N, fun p => f_laws_markMsgS.l0.ok N p⟩, trivial⟩, trivial⟩ rfl (by kernel_rfl) E29
theorem S29 : ConS Tryz.prog 29 C29 := B29.call (by kernel_rfl)
/-! laws.markSenderS: function 93 -/
noncomputable def f_laws_markSenderS.l0 : Nat → Int → Int → Int → (List (Int × (List (Int × Int × Bool × List Int)))) → Option (Int × Int × (List (Int × (List (Int × Int × Bool × List Int)))))
  | 0, _, _, _, _ => none
  | n + 1, p671, p672, p673, p674 =>
    bif (decide (p673 < (p674.length : Int))) then
      bif ((decide ((0 : Int) ≤ p673)) && (decide (p673 < (p674.length : Int)))) then
      (some ((p674.set p673.toNat (p671, (p674.getD p673.toNat (0, [])).2)) : List (Int × (List (Int × Int × Bool × List Int))))).bind fun z675 =>
      bif ((decide ((0 : Int) ≤ p673)) && (decide (p673 < (z675.length : Int)))) then
      (f_laws_markMsgS ((z675.getD p673.toNat (0, [])).2) (IntKind.wrap .i64 (p671 + (1 : Int)))).bind fun y676 =>
      (some ((z675.set p673.toNat ((z675.getD p673.toNat (0, [])).1, y676.2)) : List (Int × (List (Int × Int × Bool × List Int))))).bind fun z677 =>
      f_laws_markSenderS.l0 n y676.1 p672 (IntKind.wrap .i64 (p673 + (1 : Int))) z677
      else none
      else none
    else
      some (p671, p672, p674)
noncomputable def f_laws_markSenderS (x0 : List (Int × (List (Int × Int × Bool × List Int)))) (x1 : Int) : Option (Int × (List (Int × (List (Int × Int × Bool × List Int))))) :=
  (f_laws_markSenderS.l0 N x1 0 0 x0).bind fun r678 =>
  some (r678.1, r678.2.2)
noncomputable def C93 : Con := ⟨[(.I, false, [(.sl R6)]), (.B, false, [(.int .i64)])], [(false, [(.int .i64)])], [(.sl R6), (.int .i64)], [(.int .i64), (.sl R6)], fun (p : (List (Int × (List (Int × Int × Bool × List Int)))) × Int) => f_laws_markSenderS p.1 p.2⟩
noncomputable def f_laws_markSenderS.l0.c : LoopCon := ⟨1000, 6, [0, 1, 4, 5], ⟨[(0, .ref 0 [] none), (1, .int .i64 0), (4, .int .i64 0), (5, .int .i64 0)], [(0, .row R6 [])], 1000⟩, [(.int .i64), (.int .i64), (.int .i64), (.sl R6)], [⟨.exit 0, [1, 4], ⟨[(1, .int .i64 0), (4, .int .i64 0)], [(0, .row R6 [])], 1000⟩, [(.int .i64), (.int .i64), (.sl R6)]⟩], fun (p : Int × Int × Int × (List (Int × (List (Int × Int × Bool × List Int))))) => f_laws_markSenderS.l0 N p.1 p.2.1 p.2.2.1 p.2.2.2⟩
noncomputable abbrev K93 : Cons := [(29, C29)]
noncomputable abbrev L93 : List (Nat × Loops) := [(93, [(2, f_laws_markSenderS.l0.c)])]
abbrev Q93 : List (Nat × List (Int × Nat) × Nat) := []
noncomputable abbrev X93 : Nat → Ctx := ctxOf tb K93 L93 Q93
theorem f_laws_markSenderS.l0.ok : ∀ n p, (fun (p : Int × Int × Int × (List (Int × (List (Int × Int × Bool × List Int))))) => f_laws_markSenderS.l0 n p.1 p.2.1 p.2.2.1 p.2.2.2) p = iterD (roundOf fs X93 6 93 2 false f_laws_markSenderS.l0.c) n p :=
  iter_of (l := fun n => fun (p : Int × Int × Int × (List (Int × (List (Int × Int × Bool × List Int))))) => f_laws_markSenderS.l0 n p.1 p.2.1 p.2.2.1 p.2.2.2) (fun _ => rfl) (fun n p => by kernel_rfl)
theorem E93 : ∀ x, funG fs X93 6 93 C93 x = C93.fn x := fun x => by kernel_rfl
theorem B93 : ConG Tryz.prog 93 C93 := ConG.make FS MIX TY (cons := K93) (L := L93) (ptrs := Q93) ⟨S29, trivial⟩ trivial ⟨⟨⟨N, fun p => f_laws_markSenderS.l0.ok N p⟩, trivial⟩, trivial⟩ rfl (by kernel_rfl) E93
theorem S93 : ConS Tryz.prog 93 C93 := B93.call (by kernel_rfl)
/-! laws.markReceiverS: function 94 -/
noncomputable def f_laws_markReceiverS.l0 : Nat → Int → Int → Int → (List Int) → Option (Int × Int × List Int)
  | 0, _, _, _, _ => none
  | n + 1, p679, p680, p681, p682 =>
    bif (decide (p681 < (p682.length : Int))) then
      bif ((decide ((0 : Int) ≤ p681)) && (decide (p681 < (p682.length : Int)))) then
      (some ((p682.set p681.toNat p679) : List Int)).bind fun z683 =>
      f_laws_markReceiverS.l0 n (IntKind.wrap .i64 (p679 + (1 : Int))) p680 (IntKind.wrap .i64 (p681 + (1 : Int))) z683
      else none
    else
      some (p679, p680, p682)
noncomputable def f_laws_markReceiverS (x0 : List Int) (x1 : Int) : Option (Int × List Int) :=
  (f_laws_markReceiverS.l0 N x1 0 0 x0).bind fun r684 =>
  some (r684.1, r684.2.2)
noncomputable def C94 : Con := ⟨[(.I, false, [(.sl R0)]), (.B, false, [(.int .i64)])], [(false, [(.int .i64)])], [(.sl R0), (.int .i64)], [(.int .i64), (.sl R0)], fun (p : List Int × Int) => f_laws_markReceiverS p.1 p.2⟩
noncomputable def f_laws_markReceiverS.l0.c : LoopCon := ⟨1000, 6, [0, 1, 4, 5], ⟨[(0, .ref 0 [] none), (1, .int .i64 0), (4, .int .i64 0), (5, .int .i64 0)], [(0, .row R0 [])], 1000⟩, [(.int .i64), (.int .i64), (.int .i64), (.sl R0)], [⟨.exit 0, [1, 4], ⟨[(1, .int .i64 0), (4, .int .i64 0)], [(0, .row R0 [])], 1000⟩, [(.int .i64), (.int .i64), (.sl R0)]⟩], fun (p : Int × Int × Int × List Int) => f_laws_markReceiverS.l0 N p.1 p.2.1 p.2.2.1 p.2.2.2⟩
noncomputable abbrev K94 : Cons := []
noncomputable abbrev L94 : List (Nat × Loops) := [(94, [(2, f_laws_markReceiverS.l0.c)])]
abbrev Q94 : List (Nat × List (Int × Nat) × Nat) := []
noncomputable abbrev X94 : Nat → Ctx := ctxOf tb K94 L94 Q94
theorem f_laws_markReceiverS.l0.ok : ∀ n p, (fun (p : Int × Int × Int × List Int) => f_laws_markReceiverS.l0 n p.1 p.2.1 p.2.2.1 p.2.2.2) p = iterD (roundOf fs X94 6 94 2 false f_laws_markReceiverS.l0.c) n p :=
  iter_of (l := fun n => fun (p : Int × Int × Int × List Int) => f_laws_markReceiverS.l0 n p.1 p.2.1 p.2.2.1 p.2.2.2) (fun _ => rfl) (fun n p => by kernel_rfl)
theorem E94 : ∀ x, funG fs X94 6 94 C94 x = C94.fn x := fun x => by kernel_rfl
theorem B94 : ConG Tryz.prog 94 C94 := ConG.make FS MIX TY (cons := K94) (L := L94) (ptrs := Q94) trivial trivial ⟨⟨⟨N, fun p => f_laws_markReceiverS.l0.ok N p⟩, trivial⟩, trivial⟩ rfl (by kernel_rfl) E94
theorem S94 : ConS Tryz.prog 94 C94 := B94.call (by kernel_rfl)
/-! laws.markNodeS: function 102 -/
noncomputable def f_laws_markNodeS.l0 : Nat → Int → Int → Int → (List (Int × (List (Int × List Int × Bool)) × (List (List Int × Int × List Bool × Bool × Int × Bool × Int × (List (Int × Bool)))) × (List (Int × (List (Int × Int × Bool × List Int)))) × List Int)) → Option (Int × Int × (List (Int × (List (Int × List Int × Bool)) × (List (List Int × Int × List Bool × Bool × Int × Bool × Int × (List (Int × Bool)))) × (List (Int × (List (Int × Int × Bool × List Int)))) × List Int)))
  | 0, _, _, _, _ => none
  | n + 1, p685, p686, p687, p688 =>
    bif (decide (p687 < (p688.length : Int))) then
      bif ((decide ((0 : Int) ≤ p687)) && (decide (p687 < (p688.length : Int)))) then
      (some ((p688.set p687.toNat (p685, (p688.getD p687.toNat (0, [], [], [], [])).2.1, (p688.getD p687.toNat (0, [], [], [], [])).2.2.1, (p688.getD p687.toNat (0, [], [], [], [])).2.2.2.1, (p688.getD p687.toNat (0, [], [], [], [])).2.2.2.2)) : List (Int × (List (Int × List Int × Bool)) × (List (List Int × Int × List Bool × Bool × Int × Bool × Int × (List (Int × Bool)))) × (List (Int × (List (Int × Int × Bool × List Int)))) × List Int))).bind fun z689 =>
      bif ((decide ((0 : Int) ≤ p687)) && (decide (p687 < (z689.length : Int)))) then
      (f_laws_markFrameS ((z689.getD p687.toNat (0, [], [], [], [])).2.1) (IntKind.wrap .i64 (p685 + (1 : Int)))).bind fun y690 =>
      (some ((z689.set p687.toNat ((z689.getD p687.toNat (0, [], [], [], [])).1, y690.2, (z689.getD p687.toNat (0, [], [], [], [])).2.2.1, (z689.getD p687.toNat (0, [], [], [], [])).2.2.2.1, (z689.getD p687.toNat (0, [], [], [], [])).2.2.2.2)) : List (Int × (List (Int × List Int × Bool)) × (List (List Int × Int × List Bool × Bool × Int × Bool × Int × (List (Int × Bool)))) × (List (Int × (List (Int × Int × Bool × List Int)))) × List Int))).bind fun z691 =>
      bif ((decide ((0 : Int) ≤ p687)) && (decide (p687 < (z691.length : Int)))) then
      (f_laws_markHomeS ((z691.getD p687.toNat (0, [], [], [], [])).2.2.1) y690.1).bind fun y692 =>
      (some ((z691.set p687.toNat ((z691.getD p687.toNat (0, [], [], [], [])).1, (z691.getD p687.toNat (0, [], [], [], [])).2.1, y692.2, (z691.getD p687.toNat (0, [], [], [], [])).2.2.2.1, (z691.getD p687.toNat (0, [], [], [], [])).2.2.2.2)) : List (Int × (List (Int × List Int × Bool)) × (List (List Int × Int × List Bool × Bool × Int × Bool × Int × (List (Int × Bool)))) × (List (Int × (List (Int × Int × Bool × List Int)))) × List Int))).bind fun z693 =>
      bif ((decide ((0 : Int) ≤ p687)) && (decide (p687 < (z693.length : Int)))) then
      (f_laws_markSenderS ((z693.getD p687.toNat (0, [], [], [], [])).2.2.2.1) y692.1).bind fun y694 =>
      (some ((z693.set p687.toNat ((z693.getD p687.toNat (0, [], [], [], [])).1, (z693.getD p687.toNat (0, [], [], [], [])).2.1, (z693.getD p687.toNat (0, [], [], [], [])).2.2.1, y694.2, (z693.getD p687.toNat (0, [], [], [], [])).2.2.2.2)) : List (Int × (List (Int × List Int × Bool)) × (List (List Int × Int × List Bool × Bool × Int × Bool × Int × (List (Int × Bool)))) × (List (Int × (List (Int × Int × Bool × List Int)))) × List Int))).bind fun z695 =>
      bif ((decide ((0 : Int) ≤ p687)) && (decide (p687 < (z695.length : Int)))) then
      (f_laws_markReceiverS ((z695.getD p687.toNat (0, [], [], [], [])).2.2.2.2) y694.1).bind fun y696 =>
      (some ((z695.set p687.toNat ((z695.getD p687.toNat (0, [], [], [], [])).1, (z695.getD p687.toNat (0, [], [], [], [])).2.1, (z695.getD p687.toNat (0, [], [], [], [])).2.2.1, (z695.getD p687.toNat (0, [], [], [], [])).2.2.2.1, y696.2)) : List (Int × (List (Int × List Int × Bool)) × (List (List Int × Int × List Bool × Bool × Int × Bool × Int × (List (Int × Bool)))) × (List (Int × (List (Int × Int × Bool × List Int)))) × List Int))).bind fun z697 =>
      f_laws_markNodeS.l0 n y696.1 p686 (IntKind.wrap .i64 (p687 + (1 : Int))) z697
      else none
      else none
      else none
      else none
      else none
    else
      some (p685, p686, p688)
noncomputable def f_laws_markNodeS (x0 : List (Int × (List (Int × List Int × Bool)) × (List (List Int × Int × List Bool × Bool × Int × Bool × Int × (List (Int × Bool)))) × (List (Int × (List (Int × Int × Bool × List Int)))) × List Int)) (x1 : Int) : Option (Int × (List (Int × (List (Int × List Int × Bool)) × (List (List Int × Int × List Bool × Bool × Int × Bool × Int × (List (Int × Bool)))) × (List (Int × (List (Int × Int × Bool × List Int)))) × List Int))) :=
  (f_laws_markNodeS.l0 N x1 0 0 x0).bind fun r698 =>
  some (r698.1, r698.2.2)
noncomputable def C102 : Con := ⟨[(.I, false, [(.sl R7)]), (.B, false, [(.int .i64)])], [(false, [(.int .i64)])], [(.sl R7), (.int .i64)], [(.int .i64), (.sl R7)], fun (p : (List (Int × (List (Int × List Int × Bool)) × (List (List Int × Int × List Bool × Bool × Int × Bool × Int × (List (Int × Bool)))) × (List (Int × (List (Int × Int × Bool × List Int)))) × List Int)) × Int) => f_laws_markNodeS p.1 p.2⟩
noncomputable def f_laws_markNodeS.l0.c : LoopCon := ⟨1000, 6, [0, 1, 4, 5], ⟨[(0, .ref 0 [] none), (1, .int .i64 0), (4, .int .i64 0), (5, .int .i64 0)], [(0, .row R7 [])], 1000⟩, [(.int .i64), (.int .i64), (.int .i64), (.sl R7)], [⟨.exit 0, [1, 4], ⟨[(1, .int .i64 0), (4, .int .i64 0)], [(0, .row R7 [])], 1000⟩, [(.int .i64), (.int .i64), (.sl R7)]⟩], fun (p : Int × Int × Int × (List (Int × (List (Int × List Int × Bool)) × (List (List Int × Int × List Bool × Bool × Int × Bool × Int × (List (Int × Bool)))) × (List (Int × (List (Int × Int × Bool × List Int)))) × List Int))) => f_laws_markNodeS.l0 N p.1 p.2.1 p.2.2.1 p.2.2.2⟩
noncomputable abbrev K102 : Cons := [(91, C91), (92, C92), (93, C93), (94, C94)]
noncomputable abbrev L102 : List (Nat × Loops) := [(102, [(2, f_laws_markNodeS.l0.c)])]
abbrev Q102 : List (Nat × List (Int × Nat) × Nat) := []
noncomputable abbrev X102 : Nat → Ctx := ctxOf tb K102 L102 Q102
theorem f_laws_markNodeS.l0.ok : ∀ n p, (fun (p : Int × Int × Int × (List (Int × (List (Int × List Int × Bool)) × (List (List Int × Int × List Bool × Bool × Int × Bool × Int × (List (Int × Bool)))) × (List (Int × (List (Int × Int × Bool × List Int)))) × List Int))) => f_laws_markNodeS.l0 n p.1 p.2.1 p.2.2.1 p.2.2.2) p = iterD (roundOf fs X102 6 102 2 false f_laws_markNodeS.l0.c) n p :=
  iter_of (l := fun n => fun (p : Int × Int × Int × (List (Int × (List (Int × List Int × Bool)) × (List (List Int × Int × List Bool × Bool × Int × Bool × Int × (List (Int × Bool)))) × (List (Int × (List (Int × Int × Bool × List Int)))) × List Int))) => f_laws_markNodeS.l0 n p.1 p.2.1 p.2.2.1 p.2.2.2) (fun _ => rfl) (fun n p => by kernel_rfl)
theorem E102 : ∀ x, funG fs X102 6 102 C102 x = C102.fn x := fun x => by kernel_rfl
theorem B102 : ConG Tryz.prog 102 C102 := ConG.make FS MIX TY (cons := K102) (L := L102) (ptrs := Q102) ⟨S91, S92, S93, S94, trivial⟩ trivial ⟨⟨⟨N, fun p => f_laws_markNodeS.l0.ok N p⟩, trivial⟩, trivial⟩ rfl (by kernel_rfl) E102
theorem S102 : ConS Tryz.prog 102 C102 := B102.call (by kernel_rfl)
/-! laws.markPacketS: function 103 -/
noncomputable def f_laws_markPacketS.l0 : Nat → Int → Int → Int → (List (Int × Int × Bool × Int × Int × Int × Bool × List Int)) → Option (Int × Int × (List (Int × Int × Bool × Int × Int × Int × Bool × List Int)))
  | 0, _, _, _, _ => none
  | n + 1, p699, p700, p701, p702 =>
    bif (decide (p701 < (p702.length : Int))) then
      bif ((decide ((0 : Int) ≤ p701)) && (decide (p701 < (p702.length : Int)))) then
      (some ((p702.set p701.toNat (p699, (p702.getD p701.toNat (0, 0, false, 0, 0, 0, false, [])).2.1, (p702.getD p701.toNat (0, 0, false, 0, 0, 0, false, [])).2.2.1, (p702.getD p701.toNat (0, 0, false, 0, 0, 0, false, [])).2.2.2.1, (p702.getD p701.toNat (0, 0, false, 0, 0, 0, false, [])).2.2.2.2.1, (p702.getD p701.toNat (0, 0, false, 0, 0, 0, false, [])).2.2.2.2.2.1, (p702.getD p701.toNat (0, 0, false, 0, 0, 0, false, [])).2.2.2.2.2.2.1, (p702.getD p701.toNat (0, 0, false, 0, 0, 0, false, [])).2.2.2.2.2.2.2)) : List (Int × Int × Bool × Int × Int × Int × Bool × List Int))).bind fun z703 =>
      bif ((decide ((0 : Int) ≤ p701)) && (decide (p701 < (z703.length : Int)))) then
      (some ((z703.set p701.toNat ((z703.getD p701.toNat (0, 0, false, 0, 0, 0, false, [])).1, (IntKind.wrap .i64 (p699 + (1 : Int))), (z703.getD p701.toNat (0, 0, false, 0, 0, 0, false, [])).2.2.1, (z703.getD p701.toNat (0, 0, false, 0, 0, 0, false, [])).2.2.2.1, (z703.getD p701.toNat (0, 0, false, 0, 0, 0, false, [])).2.2.2.2.1, (z703.getD p701.toNat (0, 0, false, 0, 0, 0, false, [])).2.2.2.2.2.1, (z703.getD p701.toNat (0, 0, false, 0, 0, 0, false, [])).2.2.2.2.2.2.1, (z703.getD p701.toNat (0, 0, false, 0, 0, 0, false, [])).2.2.2.2.2.2.2)) : List (Int × Int × Bool × Int × Int × Int × Bool × List Int))).bind fun z704 =>
      bif ((decide ((0 : Int) ≤ p701)) && (decide (p701 < (z704.length : Int)))) then
      (some ((z704.set p701.toNat ((z704.getD p701.toNat (0, 0, false, 0, 0, 0, false, [])).1, (z704.getD p701.toNat (0, 0, false, 0, 0, 0, false, [])).2.1, (decide ((Int.tmod (IntKind.wrap .i64 ((IntKind.wrap .i64 (p699 + (1 : Int))) + (1 : Int))) (3 : Int)) = (0 : Int))), (z704.getD p701.toNat (0, 0, false, 0, 0, 0, false, [])).2.2.2.1, (z704.getD p701.toNat (0, 0, false, 0, 0, 0, false, [])).2.2.2.2.1, (z704.getD p701.toNat (0, 0, false, 0, 0, 0, false, [])).2.2.2.2.2.1, (z704.getD p701.toNat (0, 0, false, 0, 0, 0, false, [])).2.2.2.2.2.2.1, (z704.getD p701.toNat (0, 0, false, 0, 0, 0, false, [])).2.2.2.2.2.2.2)) : List (Int × Int × Bool × Int × Int × Int × Bool × List Int))).bind fun z705 =>
      bif ((decide ((0 : Int) ≤ p701)) && (decide (p701 < (z705.length : Int)))) then
      (some ((z705.set p701.toNat ((z705.getD p701.toNat (0, 0, false, 0, 0, 0, false, [])).1, (z705.getD p701.toNat (0, 0, false, 0, 0, 0, false, [])).2.1, (z705.getD p701.toNat (0, 0, false, 0, 0, 0, false, [])).2.2.1, (IntKind.wrap .i64 ((IntKind.wrap .i64 ((IntKind.wrap .i64 (p699 + (1 : Int))) + (1 : Int))) + (1 : Int))), (z705.getD p701.toNat (0, 0, false, 0, 0, 0, false, [])).2.2.2.2.1, (z705.getD p701.toNat (0, 0, false, 0, 0, 0, false, [])).2.2.2.2.2.1, (z705.getD p701.toNat (0, 0, false, 0, 0, 0, false, [])).2.2.2.2.2.2.1, (z705.getD p701.toNat (0, 0, false, 0, 0, 0, false, [])).2.2.2.2.2.2.2)) : List (Int × Int × Bool × Int × Int × Int × Bool × List Int))).bind fun z706 =>
      bif ((decide ((0 : Int) ≤ p701)) && (decide (p701 < (z706.length : Int)))) then
      (some ((z706.set p701.toNat ((z706.getD p701.toNat (0, 0, false, 0, 0, 0, false, [])).1, (z706.getD p701.toNat (0, 0, false, 0, 0, 0, false, [])).2.1, (z706.getD p701.toNat (0, 0, false, 0, 0, 0, false, [])).2.2.1, (z706.getD p701.toNat (0, 0, false, 0, 0, 0, false, [])).2.2.2.1, (IntKind.wrap .i64 ((IntKind.wrap .i64 ((IntKind.wrap .i64 ((IntKind.wrap .i64 (p699 + (1 : Int))) + (1 : Int))) + (1 : Int))) + (1 : Int))), (z706.getD p701.toNat (0, 0, false, 0, 0, 0, false, [])).2.2.2.2.2.1, (z706.getD p701.toNat (0, 0, false, 0, 0, 0, false, [])).2.2.2.2.2.2.1, (z706.getD p701.toNat (0, 0, false, 0, 0, 0, false, [])).2.2.2.2.2.2.2)) : List (Int × Int × Bool × Int × Int × Int × Bool × List Int))).bind fun z707 =>
      bif ((decide ((0 : Int) ≤ p701)) && (decide (p701 < (z707.length : Int)))) then
      (some ((z707.set p701.toNat ((z707.getD p701.toNat (0, 0, false, 0, 0, 0, false, [])).1, (z707.getD p701.toNat (0, 0, false, 0, 0, 0, false, [])).2.1, (z707.getD p701.toNat (0, 0, false, 0, 0, 0, false, [])).2.2.1, (z707.getD p701.toNat (0, 0, false, 0, 0, 0, false, [])).2.2.2.1, (z707.getD p701.toNat (0, 0, false, 0, 0, 0, false, [])).2.2.2.2.1, (IntKind.wrap .i64 ((IntKind.wrap .i64 ((IntKind.wrap .i64 ((IntKind.wrap .i64 ((IntKind.wrap .i64 (p699 + (1 : Int))) + (1 : Int))) + (1 : Int))) + (1 : Int))) + (1 : Int))), (z707.getD p701.toNat (0, 0, false, 0, 0, 0, false, [])).2.2.2.2.2.2.1, (z707.getD p701.toNat (0, 0, false, 0, 0, 0, false, [])).2.2.2.2.2.2.2)) : List (Int × Int × Bool × Int × Int × Int × Bool × List Int))).bind fun z708 =>
      bif ((decide ((0 : Int) ≤ p701)) && (decide (p701 < (z708.length : Int)))) then
      (some ((z708.set p701.toNat ((z708.getD p701.toNat (0, 0, false, 0, 0, 0, false, [])).1, (z708.getD p701.toNat (0, 0, false, 0, 0, 0, false, [])).2.1, (z708.getD p701.toNat (0, 0, false, 0, 0, 0, false, [])).2.2.1, (z708.getD p701.toNat (0, 0, false, 0, 0, 0, false, [])).2.2.2.1, (z708.getD p701.toNat (0, 0, false, 0, 0, 0, false, [])).2.2.2.2.1, (z708.getD p701.toNat (0, 0, false, 0, 0, 0, false, [])).2.2.2.2.2.1, (decide ((Int.tmod (IntKind.wrap .i64 ((IntKind.wrap .i64 ((IntKind.wrap .i64 ((IntKind.wrap .i64 ((IntKind.wrap .i64 ((IntKind.wrap .i64 (p699 + (1 : Int))) + (1 : Int))) + (1 : Int))) + (1 : Int))) + (1 : Int))) + (1 : Int))) (3 : Int)) = (0 : Int))), (z708.getD p701.toNat (0, 0, false, 0, 0, 0, false, [])).2.2.2.2.2.2.2)) : List (Int × Int × Bool × Int × Int × Int × Bool × List Int))).bind fun z709 =>
      bif ((decide ((0 : Int) ≤ p701)) && (decide (p701 < (z709.length : Int)))) then
      (f_laws_markIntS ((z709.getD p701.toNat (0, 0, false, 0, 0, 0, false, [])).2.2.2.2.2.2.2) (IntKind.wrap .i64 ((IntKind.wrap .i64 ((IntKind.wrap .i64 ((IntKind.wrap .i64 ((IntKind.wrap .i64 ((IntKind.wrap .i64 ((IntKind.wrap .i64 (p699 + (1 : Int))) + (1 : Int))) + (1 : Int))) + (1 : Int))) + (1 : Int))) + (1 : Int))) + (1 : Int)))).bind fun y710 =>
      (some ((z709.set p701.toNat ((z709.getD p701.toNat (0, 0, false, 0, 0, 0, false, [])).1, (z709.getD p701.toNat (0, 0, false, 0, 0, 0, false, [])).2.1, (z709.getD p701.toNat (0, 0, false, 0, 0, 0, false, [])).2.2.1, (z709.getD p701.toNat (0, 0, false, 0, 0, 0, false, [])).2.2.2.1, (z709.getD p701.toNat (0, 0, false, 0, 0, 0, false, [])).2.2.2.2.1, (z709.getD p701.toNat (0, 0, false, 0, 0, 0, false, [])).2.2.2.2.2.1, (z709.getD p701.toNat (0, 0, false, 0, 0, 0, false, [])).2.2.2.2.2.2.1, y710.2)) : List (Int × Int × Bool × Int × Int × Int × Bool × List Int))).bind fun z711 =>
      f_laws_markPacketS.l0 n y710.1 p700 (IntKind.wrap .i64 (p701 + (1 : Int))) z711
      else none
      else none
      else none
      else none
      else none
      else none
      else none
      else none
    else
      some (p699, p700, p702)
noncomputable def f_laws_markPacketS (x0 : List (Int × Int × Bool × Int × Int × Int × Bool × List Int)) (x1 : Int) : Option (Int × (List (Int × Int × Bool × Int × Int × Int × Bool × List Int))) :=
  (f_laws_markPacketS.l0 N x1 0 0 x0).bind fun r712 =>
  some (r712.1, r712.2.2)
noncomputable def C103 : Con := ⟨[(.I, false, [(.sl R8)]), (.B, false, [(.int .i64)])], [(false, [(.int .i64)])], [(.sl R8), (.int .i64)], [(.int .i64), (.sl R8)], fun (p : (List (Int × Int × Bool × Int × Int × Int × Bool × List Int)) × Int) => f_laws_markPacketS p.1 p.2⟩
noncomputable def f_laws_markPacketS.l0.c : LoopCon := ⟨1000, 6, [0, 1, 4, 5], ⟨[(0, .ref 0 [] none), (1, .int .i64 0), (4, .int .i64 0), (5, .int .i64 0)], [(0, .row R8 [])], 1000⟩, [(.int .i64), (.int .i64), (.int .i64), (.sl R8)], [⟨.exit 0, [1, 4], ⟨[(1, .int .i64 0), (4, .int .i64 0)], [(0, .row R8 [])], 1000⟩, [(.int .i64), (.int .i64), (.sl R8)]⟩], fun (p : Int × Int × Int × (List (Int × Int × Bool × Int × Int × Int × Bool × List Int))) => f_laws_markPacketS.l0 N p.1 p.2.1 p.2.2.1 p.2.2.2⟩
noncomputable abbrev K103 : Cons := [(40, C40)]
noncomputable abbrev L103 : List (Nat × Loops) := [(103, [(2, f_laws_markPacketS.l0.c)])]
abbrev Q103 : List (Nat × List (Int × Nat) × Nat) := []
noncomputable abbrev X103 : Nat → Ctx := ctxOf tb K103 L103 Q103
theorem f_laws_markPacketS.l0.ok : ∀ n p, (fun (p : Int × Int × Int × (List (Int × Int × Bool × Int × Int × Int × Bool × List Int))) => f_laws_markPacketS.l0 n p.1 p.2.1 p.2.2.1 p.2.2.2) p = iterD (roundOf fs X103 6 103 2 false f_laws_markPacketS.l0.c) n p :=
  iter_of (l := fun n => fun (p : Int × Int × Int × (List (Int × Int × Bool × Int × Int × Int × Bool × List Int))) => f_laws_markPacketS.l0 n p.1 p.2.1 p.2.2.1 p.2.2.2) (fun _ => rfl) (fun n p => by kernel_rfl)
theorem E103 : ∀ x, funG fs X103 6 103 C103 x = C103.fn x := fun x => by kernel_rfl
theorem B103 : ConG Tryz.prog 103 C103 := ConG.make FS MIX TY (cons := K103) (L := L103) (ptrs := Q103) ⟨S40, trivial⟩ trivial ⟨⟨⟨N, fun p => f_laws_markPacketS.l0.ok N p⟩, trivial⟩, trivial⟩ rfl (by kernel_rfl) E103
theorem S103 : ConS Tryz.prog 103 C103 := B103.call (by kernel_rfl)
/-! laws.markWorld: function 28 -/
noncomputable def f_laws_markWorld (x0 : Int) (x1 : List (Int × (List (Int × List Int × Bool)) × (List (List Int × Int × List Bool × Bool × Int × Bool × Int × (List (Int × Bool)))) × (List (Int × (List (Int × Int × Bool × List Int)))) × List Int)) (x2 : List (Int × Int × Bool × Int × Int × Int × Bool × List Int)) (x3 : Int) : Option (Int × (List (Int × (List (Int × List Int × Bool)) × (List (List Int × Int × List Bool × Bool × Int × Bool × Int × (List (Int × Bool)))) × (List (Int × (List (Int × Int × Bool × List Int)))) × List Int)) × (List (Int × Int × Bool × Int × Int × Int × Bool × List Int))) :=
  (f_laws_markNodeS x1 x3).bind fun y713 =>
  (some (y713.2 : List (Int × (List (Int × List Int × Bool)) × (List (List Int × Int × List Bool × Bool × Int × Bool × Int × (List (Int × Bool)))) × (List (Int × (List (Int × Int × Bool × List Int)))) × List Int))).bind fun z714 =>
  (f_laws_markPacketS x2 y713.1).bind fun y715 =>
  (some (y715.2 : List (Int × Int × Bool × Int × Int × Int × Bool × List Int))).bind fun z716 =>
  some (y715.1, z714, z716)
noncomputable def C28 : Con := ⟨[(.I, true, [(.int .i64), (.sl R7), (.sl R8)]), (.B, false, [(.int .i64)])], [(false, [(.int .i64)])], [(.int .i64), (.sl R7), (.sl R8), (.int .i64)], [(.int .i64), (.sl R7), (.sl R8)], fun (p : Int × (List (Int × (List (Int × List Int × Bool)) × (List (List Int × Int × List Bool × Bool × Int × Bool × Int × (List (Int × Bool)))) × (List (Int × (List (Int × Int × Bool × List Int)))) × List Int)) × (List (Int × Int × Bool × Int × Int × Int × Bool × List Int)) × Int) => f_laws_markWorld p.1 p.2.1 p.2.2.1 p.2.2.2⟩
noncomputable abbrev K28 : Cons := [(102, C102), (103, C103)]
noncomputable abbrev L28 : List (Nat × Loops) := []
abbrev Q28 : List (Nat × List (Int × Nat) × Nat) := []
noncomputable abbrev X28 : Nat → Ctx := ctxOf tb K28 L28 Q28
theorem E28 : ∀ x, funG fs X28 6 28 C28 x = C28.fn x := fun x => by kernel_rfl
theorem B28 : ConG Tryz.prog 28 C28 := ConG.make FS MIX TY (cons := K28) (L := L28) (ptrs := Q28) ⟨S102, S103, trivial⟩ trivial trivial rfl (by kernel_rfl) E28
theorem S28 : ConS Tryz.prog 28 C28 := B28.call (by kernel_rfl)
/-! laws.heldIntS: function 41 -/
noncomputable def f_laws_heldIntS.l0 : Nat → (List Int) → Int → Int → Int → Option ((Int) ⊕ (Int × Int))
  | 0, _, _, _, _ => none
  | n + 1, p717, p718, p719, p720 =>
    bif (decide (p720 < (p717.length : Int))) then
      bif ((decide ((0 : Int) ≤ p720)) && (decide (p720 < (p717.length : Int)))) then
      bif (!(decide ((p717.getD p720.toNat 0) = p718))) then
        some (.inl (-1))
      else
        f_laws_heldIntS.l0 n p717 (IntKind.wrap .i64 (p718 + (1 : Int))) p719 (IntKind.wrap .i64 (p720 + (1 : Int)))
      else none
    else
      some (.inr (p718, p719))
noncomputable def f_laws_heldIntS (x0 : List Int) (x1 : Int) : Option (Int) :=
  (f_laws_heldIntS.l0 N x0 x1 0 0).bind fun r721 =>
  cs r721 (fun a722 =>
    some a722) (fun b723 =>
    some b723.1)
noncomputable def C41 : Con := ⟨[(.B, false, [(.sl R0)]), (.B, false, [(.int .i64)])], [(false, [(.int .i64)])], [(.sl R0), (.int .i64)], [(.int .i64)], fun (p : List Int × Int) => f_laws_heldIntS p.1 p.2⟩
noncomputable def f_laws_heldIntS.l0.c : LoopCon := ⟨1000, 6, [0, 1, 4, 5], ⟨[(0, .bor none R0 []), (1, .int .i64 0), (4, .int .i64 0), (5, .int .i64 0)], [], 1000⟩, [(.sl R0), (.int .i64), (.int .i64), (.int .i64)], [⟨.ret, [4], ⟨[(4, .int .i64 0)], [], 1000⟩, [(.int .i64)]⟩, ⟨.exit 0, [1, 4], ⟨[(1, .int .i64 0), (4, .int .i64 0)], [], 1000⟩, [(.int .i64), (.int .i64)]⟩], fun (p : List Int × Int × Int × Int) => f_laws_heldIntS.l0 N p.1 p.2.1 p.2.2.1 p.2.2.2⟩
noncomputable abbrev K41 : Cons := []
noncomputable abbrev L41 : List (Nat × Loops) := [(41, [(2, f_laws_heldIntS.l0.c)])]
abbrev Q41 : List (Nat × List (Int × Nat) × Nat) := []
noncomputable abbrev X41 : Nat → Ctx := ctxOf tb K41 L41 Q41
theorem f_laws_heldIntS.l0.ok : ∀ n p, (fun (p : List Int × Int × Int × Int) => f_laws_heldIntS.l0 n p.1 p.2.1 p.2.2.1 p.2.2.2) p = iterD (roundOf fs X41 6 41 2 false f_laws_heldIntS.l0.c) n p :=
  iter_of (l := fun n => fun (p : List Int × Int × Int × Int) => f_laws_heldIntS.l0 n p.1 p.2.1 p.2.2.1 p.2.2.2) (fun _ => rfl) (fun n p => by kernel_rfl)
theorem E41 : ∀ x, funRun fs X41 6 41 C41 x = C41.fn x := fun x => by kernel_rfl
theorem B41 : ConB Tryz.prog 41 C41 := ConB.make FS MIX TY (cons := K41) (L := L41) (ptrs := Q41) trivial trivial ⟨⟨⟨N, fun p => f_laws_heldIntS.l0.ok N p⟩, trivial⟩, trivial⟩ rfl rfl E41
theorem S41 : ConS Tryz.prog 41 C41 := B41.call rfl
/-! laws.heldMsgS: function 30 -/
noncomputable def f_laws_heldMsgS.l0 : Nat → (List (Int × Int × Bool × List Int)) → Int → Int → Int → Option ((Int) ⊕ (Int × Int))
  | 0, _, _, _, _ => none
  | n + 1, p724, p725, p726, p727 =>
    bif (decide (p727 < (p724.length : Int))) then
      bif ((decide ((0 : Int) ≤ p727)) && (decide (p727 < (p724.length : Int)))) then
      bif (!(decide (((p724.getD p727.toNat (0, 0, false, [])).1) = p725))) then
        some (.inl (-1))
      else
        bif ((decide ((0 : Int) ≤ p727)) && (decide (p727 < (p724.length : Int)))) then
        bif (!(decide (((p724.getD p727.toNat (0, 0, false, [])).2.1) = (IntKind.wrap .i64 (p725 + (1 : Int)))))) then
          some (.inl (-1))
        else
          bif ((decide ((0 : Int) ≤ p727)) && (decide (p727 < (p724.length : Int)))) then
          bif (!(((p724.getD p727.toNat (0, 0, false, [])).2.2.1) == (decide ((Int.tmod (IntKind.wrap .i64 ((IntKind.wrap .i64 (p725 + (1 : Int))) + (1 : Int))) (3 : Int)) = (0 : Int))))) then
            some (.inl (-1))
          else
            bif ((decide ((0 : Int) ≤ p727)) && (decide (p727 < (p724.length : Int)))) then
            (f_laws_heldIntS ((p724.getD p727.toNat (0, 0, false, [])).2.2.2) (IntKind.wrap .i64 ((IntKind.wrap .i64 ((IntKind.wrap .i64 (p725 + (1 : Int))) + (1 : Int))) + (1 : Int)))).bind fun y728 =>
            bif (decide (y728 < (0 : Int))) then
              some (.inl (-1))
            else
              f_laws_heldMsgS.l0 n p724 y728 p726 (IntKind.wrap .i64 (p727 + (1 : Int)))
            else none
          else none
        else none
      else none
    else
      some (.inr (p725, p726))
noncomputable def f_laws_heldMsgS (x0 : List (Int × Int × Bool × List Int)) (x1 : Int) : Option (Int) :=
  (f_laws_heldMsgS.l0 N x0 x1 0 0).bind fun r729 =>
  cs r729 (fun a730 =>
    some a730) (fun b731 =>
    some b731.1)
noncomputable def C30 : Con := ⟨[(.B, false, [(.sl R5)]), (.B, false, [(.int .i64)])], [(false, [(.int .i64)])], [(.sl R5), (.int .i64)], [(.int .i64)], fun (p : (List (Int × Int × Bool × List Int)) × Int) => f_laws_heldMsgS p.1 p.2⟩
noncomputable def f_laws_heldMsgS.l0.c : LoopCon := ⟨1000, 6, [0, 1, 4, 5], ⟨[(0, .bor none R5 []), (1, .int .i64 0), (4, .int .i64 0), (5, .int .i64 0)], [], 1000⟩, [(.sl R5), (.int .i64), (.int .i64), (.int .i64)], [⟨.ret, [4], ⟨[(4, .int .i64 0)], [], 1000⟩, [(.int .i64)]⟩, ⟨.exit 0, [1, 4], ⟨[(1, .int .i64 0), (4, .int .i64 0)], [], 1000⟩, [(.int .i64), (.int .i64)]⟩], fun (p : (List (Int × Int × Bool × List Int)) × Int × Int × Int) => f_laws_heldMsgS.l0 N p.1 p.2.1 p.2.2.1 p.2.2.2⟩
noncomputable abbrev K30 : Cons := [(41, C41)]
noncomputable abbrev L30 : List (Nat × Loops) := [(30, [(2, f_laws_heldMsgS.l0.c)])]
abbrev Q30 : List (Nat × List (Int × Nat) × Nat) := []
noncomputable abbrev X30 : Nat → Ctx := ctxOf tb K30 L30 Q30
theorem f_laws_heldMsgS.l0.ok : ∀ n p, (fun (p : (List (Int × Int × Bool × List Int)) × Int × Int × Int) => f_laws_heldMsgS.l0 n p.1 p.2.1 p.2.2.1 p.2.2.2) p = iterD (roundOf fs X30 6 30 2 false f_laws_heldMsgS.l0.c) n p :=
  iter_of (l := fun n => fun (p : (List (Int × Int × Bool × List Int)) × Int × Int × Int) => f_laws_heldMsgS.l0 n p.1 p.2.1 p.2.2.1 p.2.2.2) (fun _ => rfl) (fun n p => by kernel_rfl)
theorem E30 : ∀ x, funRun fs X30 6 30 C30 x = C30.fn x := fun x => by kernel_rfl
theorem B30 : ConB Tryz.prog 30 C30 := ConB.make FS MIX TY (cons := K30) (L := L30) (ptrs := Q30) ⟨S41, trivial⟩ trivial ⟨⟨⟨N, fun p => f_laws_heldMsgS.l0.ok N p⟩, trivial⟩, trivial⟩ rfl rfl E30
theorem S30 : ConS Tryz.prog 30 C30 := B30.call rfl
/-! laws.FnExactComing: function 6 -/
noncomputable def f_laws_FnExactComing (x0 : Int) (x1 : List (Int × (List (Int × List Int × Bool)) × (List (List Int × Int × List Bool × Bool × Int × Bool × Int × (List (Int × Bool)))) × (List (Int × (List (Int × Int × Bool × List Int)))) × List Int)) (x2 : List (Int × Int × Bool × Int × Int × Int × Bool × List Int)) (x3 : Int) (x4 : Int) : Option (Bool) :=
  (f_laws_szWorld x0 x1 x2 1048576).bind fun y732 =>
  bif (decide (y732 < (0 : Int))) then
    some true
  else
    (f_laws_toWorld x0 x1 x2).bind fun y733 =>
    (f_spec_Coming y733.1 y733.2.1 y733.2.2 x3 x4).bind fun y734 =>
    (f_laws_toWorld x0 x1 x2).bind fun y735 =>
    (f_impl_Coming y735.1 y735.2.1 y735.2.2 x3 x4).bind fun y736 =>
    (f_laws_eqMsgS y736 y734).bind fun y737 =>
    bif (!y737) then
      some false
    else
      (f_laws_toWorld x0 x1 x2).bind fun y738 =>
      (f_laws_eqWorld y735.1 y735.2.1 y735.2.2 y738.1 y738.2.1 y738.2.2).bind fun y739 =>
      bif (!y739) then
        some false
      else
        (f_laws_markWorld y735.1 y735.2.1 y735.2.2 1).bind fun y740 =>
        (some (y740.2.1 : List (Int × (List (Int × List Int × Bool)) × (List (List Int × Int × List Bool × Bool × Int × Bool × Int × (List (Int × Bool)))) × (List (Int × (List (Int × Int × Bool × List Int)))) × List Int))).bind fun z741 =>
        (some (y740.2.2 : List (Int × Int × Bool × Int × Int × Int × Bool × List Int))).bind fun z742 =>
        bif (decide (y740.1 < (0 : Int))) then
          some false
        else
          (f_laws_eqMsgS y736 y734).bind fun y743 =>
          bif (!y743) then
            some false
          else
            (f_laws_markMsgS y736 1).bind fun y744 =>
            (some (y744.2 : List (Int × Int × Bool × List Int))).bind fun z745 =>
            (f_laws_heldMsgS z745 1).bind fun y746 =>
            bif (decide (y746 < (0 : Int))) then
              some false
            else
              bif (!(decide (y746 = y744.1))) then
                some false
              else
                (f_laws_toWorld x0 x1 x2).bind fun y747 =>
                (f_impl_Coming y747.1 y747.2.1 y747.2.2 x3 x4).bind fun y748 =>
                (f_laws_eqMsgS y748 y734).bind fun y749 =>
                bif (!y749) then
                  some false
                else
                  (f_laws_heldMsgS z745 1).bind fun y750 =>
                  bif (decide (y750 < (0 : Int))) then
                    some false
                  else
                    bif (!(decide (y750 = y744.1))) then
                      some false
                    else
                      some true
noncomputable def C6 : Con := ⟨[(.B, true, [(.int .i64), (.sl R7), (.sl R8)]), (.B, false, [(.int .i64)]), (.B, false, [(.int .i64)])], [(false, [.bool])], [(.int .i64), (.sl R7), (.sl R8), (.int .i64), (.int .i64)], [.bool], fun (p : Int × (List (Int × (List (Int × List Int × Bool)) × (List (List Int × Int × List Bool × Bool × Int × Bool × Int × (List (Int × Bool)))) × (List (Int × (List (Int × Int × Bool × List Int)))) × List Int)) × (List (Int × Int × Bool × Int × Int × Int × Bool × List Int)) × Int × Int) => f_laws_FnExactComing p.1 p.2.1 p.2.2.1 p.2.2.2.1 p.2.2.2.2⟩
noncomputable abbrev K6 : Cons := [(11, C11), (13, C13), (15, C15), (25, C25), (26, C26), (27, C27), (28, C28), (29, C29), (30, C30)]
noncomputable abbrev L6 : List (Nat × Loops) := []
abbrev Q6 : List (Nat × List (Int × Nat) × Nat) := []
noncomputable abbrev X6 : Nat → Ctx := ctxOf tb K6 L6 Q6
theorem E6 : ∀ x, funRun fs X6 6 6 C6 x = C6.fn x := fun x => by kernel_rfl
theorem B6 : ConB Tryz.prog 6 C6 := ConB.make FS MIX TY (cons := K6) (L := L6) (ptrs := Q6) ⟨S11, S13, S15, S25, S26, S27, S28, S29, S30, trivial⟩ trivial trivial rfl rfl E6
theorem S6 : ConS Tryz.prog 6 C6 := B6.call rfl
/-- What is left: the plain law. -/
def Pure : Prop := ∀ x : Tup [(.int .i64), (.sl R7), (.sl R8), (.int .i64), (.int .i64)], WfT [(.int .i64), (.sl R7), (.sl R8), (.int .i64), (.int .i64)] x → C6.fn x = some (true : Bool)
end
end Go.Abs
