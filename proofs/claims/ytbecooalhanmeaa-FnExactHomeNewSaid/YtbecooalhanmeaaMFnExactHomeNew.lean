import Derived.Test.YtbecooalhanmeaaProg
import Derived.Test.YtbecooalhanmeaaAbsD
import Derived.KernelRfl
namespace Go.Abs
open Go.Proofs
set_option linter.unusedVariables false
set_option maxRecDepth 100000
noncomputable section
abbrev N : Nat := 1152921504606846976
abbrev R0 : RT := .one (.int .i64)
abbrev R1 : RT := .one .bool
abbrev R2 : RT := .cons (.int .i64) (.one .bool)
noncomputable def tb : Tb := [(0, ⟨false, [], [], 0, 0⟩),
  (3, ⟨false, [(.int .i64)], [], 0, 8⟩),
  (4, ⟨false, [.bool], [], 0, 1⟩),
  (22, ⟨false, [(.sl R0)], [], 3, 24⟩),
  (61, ⟨false, [(.sl R1)], [], 4, 24⟩),
  (63, ⟨true, [(.int .i64), .bool], [(0, 3), (1, 4)], 0, 16⟩),
  (64, ⟨false, [(.sl R2)], [], 63, 24⟩),
  (66, ⟨true, [(.sl R0), (.int .i64), (.sl R1), .bool, (.int .i64), .bool, (.int .i64), (.sl R2)], [(0, 22), (1, 3), (2, 61), (3, 4), (4, 63), (6, 3), (7, 64)], 0, 112⟩)]
noncomputable def fsL : List (Nat × Func) := [(69, Try.f69), (39, Try.f39), (71, Try.f71), (40, Try.f40), (29, Try.f29), (88, Try.f88), (89, Try.f89), (90, Try.f90), (41, Try.f41), (84, Try.f84), (91, Try.f91), (92, Try.f92), (42, Try.f42), (85, Try.f85), (93, Try.f93), (94, Try.f94), (43, Try.f43), (8, Try.f8)]
noncomputable def fs : Nat → Option Func := getF fsL
theorem MIX : Try.prog.follows .mixedOrders = true := by kernel_rfl
theorem TY : tyCheck Try.prog tb = true := by kernel_rfl
theorem CAT : catCheck tb = true := by kernel_rfl
theorem FSP : FsP Try.prog fsL := ⟨Try.func69, Try.func39, Try.func71, Try.func40, Try.func29, Try.func88, Try.func89, Try.func90, Try.func41, Try.func84, Try.func91, Try.func92, Try.func42, Try.func85, Try.func93, Try.func94, Try.func43, Try.func8, trivial⟩
theorem FSC : (fsL.all fun p => fnChk p.2) = true := by kernel_rfl
theorem FS : FsS Try.prog fs := FsS.of FSP FSC
/-! spec.l1In: function 69 -/
noncomputable def f_spec_l1In (x0 : Int) (x1 : Int) (x2 : Int) : Option (Bool) :=
  bif (decide (x1 ≤ x0)) then
    some (decide (x0 ≤ x2))
  else
    some false
noncomputable def C69 : Con := ⟨[(.B, false, [(.int .i64)]), (.B, false, [(.int .i64)]), (.B, false, [(.int .i64)])], [(false, [.bool])], [(.int .i64), (.int .i64), (.int .i64)], [.bool], fun (p : Int × Int × Int) => f_spec_l1In p.1 p.2.1 p.2.2⟩
noncomputable abbrev K69 : Cons := []
noncomputable abbrev L69 : List (Nat × Loops) := []
abbrev Q69 : List (Nat × List (Int × Nat) × Nat) := []
noncomputable abbrev X69 : Nat → Ctx := ctxOf tb K69 L69 Q69
theorem E69 : ∀ x, funRun fs X69 6 69 C69 x = C69.fn x := fun x => by kernel_rfl
theorem B69 : ConB Try.prog 69 C69 := ConB.make FS MIX TY (cons := K69) (L := L69) (ptrs := Q69) trivial trivial trivial rfl rfl E69
theorem S69 : ConS Try.prog 69 C69 := B69.call rfl
/-! spec.HomeNew: function 39 -/
noncomputable def f_spec_HomeNew (x0 : Int) : Option (List Int × Int × List Bool × Bool × Int × Bool × Int × (List (Int × Bool))) :=
  (f_spec_l1In x0 1 4).bind fun y1 =>
  bif (!y1) then
    some ([], 0, [], false, 0, false, 0, [])
  else
    bif (decide ((0 : Int) ≤ x0) && Nat.ble x0.toNat 140737488355328) then
    some ((List.replicate 4 0), -1, (List.replicate x0.toNat false), false, 0, false, 0, [])
    else none
noncomputable def C39 : Con := ⟨[(.B, false, [(.int .i64)])], [(true, [(.sl R0), (.int .i64), (.sl R1), .bool, (.int .i64), .bool, (.int .i64), (.sl R2)])], [(.int .i64)], [(.sl R0), (.int .i64), (.sl R1), .bool, (.int .i64), .bool, (.int .i64), (.sl R2)], fun (p : Int) => f_spec_HomeNew p⟩
noncomputable abbrev K39 : Cons := [(69, C69)]
noncomputable abbrev L39 : List (Nat × Loops) := []
abbrev Q39 : List (Nat × List (Int × Nat) × Nat) := []
noncomputable abbrev X39 : Nat → Ctx := ctxOf tb K39 L39 Q39
theorem E39 : ∀ x, funRun fs X39 6 39 C39 x = C39.fn x := fun x => by kernel_rfl
theorem B39 : ConB Try.prog 39 C39 := ConB.make FS MIX TY (cons := K39) (L := L39) (ptrs := Q39) ⟨S69, trivial⟩ trivial trivial rfl rfl E39
theorem S39 : ConS Try.prog 39 C39 := B39.call rfl
/-! impl.from: function 71 -/
noncomputable def f_impl_from (x0 : Int) (x1 : Int) (x2 : Int) : Option (Bool) :=
  bif (decide (x1 ≤ x0)) then
    some (decide (x0 ≤ x2))
  else
    some false
noncomputable def C71 : Con := ⟨[(.B, false, [(.int .i64)]), (.B, false, [(.int .i64)]), (.B, false, [(.int .i64)])], [(false, [.bool])], [(.int .i64), (.int .i64), (.int .i64)], [.bool], fun (p : Int × Int × Int) => f_impl_from p.1 p.2.1 p.2.2⟩
noncomputable abbrev K71 : Cons := []
noncomputable abbrev L71 : List (Nat × Loops) := []
abbrev Q71 : List (Nat × List (Int × Nat) × Nat) := []
noncomputable abbrev X71 : Nat → Ctx := ctxOf tb K71 L71 Q71
theorem E71 : ∀ x, funRun fs X71 6 71 C71 x = C71.fn x := fun x => by kernel_rfl
theorem B71 : ConB Try.prog 71 C71 := ConB.make FS MIX TY (cons := K71) (L := L71) (ptrs := Q71) trivial trivial trivial rfl rfl E71
theorem S71 : ConS Try.prog 71 C71 := B71.call rfl
/-! impl.HomeNew: function 40 -/
noncomputable def f_impl_HomeNew (x0 : Int) : Option (List Int × Int × List Bool × Bool × Int × Bool × Int × (List (Int × Bool))) :=
  (f_impl_from x0 1 4).bind fun y2 =>
  bif (!y2) then
    some ([], 0, [], false, 0, false, 0, [])
  else
    bif (decide ((0 : Int) ≤ x0) && Nat.ble x0.toNat 140737488355328) then
    some ((List.replicate 4 0), -1, (List.replicate x0.toNat false), false, 0, false, 0, [])
    else none
noncomputable def C40 : Con := ⟨[(.B, false, [(.int .i64)])], [(true, [(.sl R0), (.int .i64), (.sl R1), .bool, (.int .i64), .bool, (.int .i64), (.sl R2)])], [(.int .i64)], [(.sl R0), (.int .i64), (.sl R1), .bool, (.int .i64), .bool, (.int .i64), (.sl R2)], fun (p : Int) => f_impl_HomeNew p⟩
noncomputable abbrev K40 : Cons := [(71, C71)]
noncomputable abbrev L40 : List (Nat × Loops) := []
abbrev Q40 : List (Nat × List (Int × Nat) × Nat) := []
noncomputable abbrev X40 : Nat → Ctx := ctxOf tb K40 L40 Q40
theorem E40 : ∀ x, funRun fs X40 6 40 C40 x = C40.fn x := fun x => by kernel_rfl
theorem B40 : ConB Try.prog 40 C40 := ConB.make FS MIX TY (cons := K40) (L := L40) (ptrs := Q40) ⟨S71, trivial⟩ trivial trivial rfl rfl E40
theorem S40 : ConS Try.prog 40 C40 := B40.call rfl
/-! laws.eqIntS: function 29 -/
noncomputable def f_laws_eqIntS.l0 : Nat → (List Int) → (List Int) → Bool → Int → Option ((Bool) ⊕ (Bool))
  | 0, _, _, _, _ => none
  | n + 1, p3, p4, p5, p6 =>
    bif (decide (p6 < (p3.length : Int))) then
      bif ((decide ((0 : Int) ≤ p6)) && (decide (p6 < (p3.length : Int)))) then
      bif ((decide ((0 : Int) ≤ p6)) && (decide (p6 < (p4.length : Int)))) then
      bif (!(decide ((p3.getD p6.toNat 0) = (p4.getD p6.toNat 0)))) then
        some (.inl false)
      else
        f_laws_eqIntS.l0 n p3 p4 p5 (IntKind.wrap .i64 (p6 + (1 : Int)))
      else none
      else none
    else
      some (.inr p5)
noncomputable def f_laws_eqIntS (x0 : List Int) (x1 : List Int) : Option (Bool) :=
  bif (!(decide ((x0.length : Int) = (x1.length : Int)))) then
    some false
  else
    (f_laws_eqIntS.l0 N x0 x1 false 0).bind fun r7 =>
    cs r7 (fun a8 =>
      some a8) (fun b9 =>
      some true)
noncomputable def C29 : Con := ⟨[(.B, false, [(.sl R0)]), (.B, false, [(.sl R0)])], [(false, [.bool])], [(.sl R0), (.sl R0)], [.bool], fun (p : List Int × List Int) => f_laws_eqIntS p.1 p.2⟩
noncomputable def f_laws_eqIntS.l0.c : LoopCon := ⟨1000, 6, [0, 1, 4, 5], ⟨[(0, .bor none R0 []), (1, .bor none R0 []), (4, .bool false), (5, .int .i64 0)], [], 1000⟩, [(.sl R0), (.sl R0), .bool, (.int .i64)], [⟨.ret, [4], ⟨[(4, .bool false)], [], 1000⟩, [.bool]⟩, ⟨.exit 0, [4], ⟨[(4, .bool false)], [], 1000⟩, [.bool]⟩], fun (p : List Int × List Int × Bool × Int) => f_laws_eqIntS.l0 N p.1 p.2.1 p.2.2.1 p.2.2.2⟩
noncomputable abbrev K29 : Cons := []
noncomputable abbrev L29 : List (Nat × Loops) := [(29, [(4, f_laws_eqIntS.l0.c)])]
abbrev Q29 : List (Nat × List (Int × Nat) × Nat) := []
noncomputable abbrev X29 : Nat → Ctx := ctxOf tb K29 L29 Q29
theorem f_laws_eqIntS.l0.ok : ∀ n p, (fun (p : List Int × List Int × Bool × Int) => f_laws_eqIntS.l0 n p.1 p.2.1 p.2.2.1 p.2.2.2) p = iterD (roundOf fs X29 6 29 4 false f_laws_eqIntS.l0.c) n p :=
  iter_of (l := fun n => fun (p : List Int × List Int × Bool × Int) => f_laws_eqIntS.l0 n p.1 p.2.1 p.2.2.1 p.2.2.2) (fun _ => rfl) (fun n p => by kernel_rfl)
theorem E29 : ∀ x, funRun fs X29 6 29 C29 x = C29.fn x := fun x => by kernel_rfl
theorem B29 : ConB Try.prog 29 C29 := ConB.make FS MIX TY (cons := K29) (L := L29) (ptrs := Q29) trivial trivial ⟨⟨⟨N, fun p => f_laws_eqIntS.l0.ok N p⟩, trivial⟩, trivial⟩ rfl rfl E29
theorem S29 : ConS Try.prog 29 C29 := B29.call rfl
/-! laws.eqBoolS: function 88 -/
noncomputable def f_laws_eqBoolS.l0 : Nat → (List Bool) → (List Bool) → Bool → Int → Option ((Bool) ⊕ (Bool))
  | 0, _, _, _, _ => none
  | n + 1, p10, p11, p12, p13 =>
    bif (decide (p13 < (p10.length : Int))) then
      bif ((decide ((0 : Int) ≤ p13)) && (decide (p13 < (p10.length : Int)))) then
      bif ((decide ((0 : Int) ≤ p13)) && (decide (p13 < (p11.length : Int)))) then
      bif (!((p10.getD p13.toNat false) == (p11.getD p13.toNat false))) then
        some (.inl false)
      else
        f_laws_eqBoolS.l0 n p10 p11 p12 (IntKind.wrap .i64 (p13 + (1 : Int)))
      else none
      else none
    else
      some (.inr p12)
noncomputable def f_laws_eqBoolS (x0 : List Bool) (x1 : List Bool) : Option (Bool) :=
  bif (!(decide ((x0.length : Int) = (x1.length : Int)))) then
    some false
  else
    (f_laws_eqBoolS.l0 N x0 x1 false 0).bind fun r14 =>
    cs r14 (fun a15 =>
      some a15) (fun b16 =>
      some true)
noncomputable def C88 : Con := ⟨[(.B, false, [(.sl R1)]), (.B, false, [(.sl R1)])], [(false, [.bool])], [(.sl R1), (.sl R1)], [.bool], fun (p : List Bool × List Bool) => f_laws_eqBoolS p.1 p.2⟩
noncomputable def f_laws_eqBoolS.l0.c : LoopCon := ⟨1000, 6, [0, 1, 4, 5], ⟨[(0, .bor none R1 []), (1, .bor none R1 []), (4, .bool false), (5, .int .i64 0)], [], 1000⟩, [(.sl R1), (.sl R1), .bool, (.int .i64)], [⟨.ret, [4], ⟨[(4, .bool false)], [], 1000⟩, [.bool]⟩, ⟨.exit 0, [4], ⟨[(4, .bool false)], [], 1000⟩, [.bool]⟩], fun (p : List Bool × List Bool × Bool × Int) => f_laws_eqBoolS.l0 N p.1 p.2.1 p.2.2.1 p.2.2.2⟩
noncomputable abbrev K88 : Cons := []
noncomputable abbrev L88 : List (Nat × Loops) := [(88, [(4, f_laws_eqBoolS.l0.c)])]
abbrev Q88 : List (Nat × List (Int × Nat) × Nat) := []
noncomputable abbrev X88 : Nat → Ctx := ctxOf tb K88 L88 Q88
theorem f_laws_eqBoolS.l0.ok : ∀ n p, (fun (p : List Bool × List Bool × Bool × Int) => f_laws_eqBoolS.l0 n p.1 p.2.1 p.2.2.1 p.2.2.2) p = iterD (roundOf fs X88 6 88 4 false f_laws_eqBoolS.l0.c) n p :=
  iter_of (l := fun n => fun (p : List Bool × List Bool × Bool × Int) => f_laws_eqBoolS.l0 n p.1 p.2.1 p.2.2.1 p.2.2.2) (fun _ => rfl) (fun n p => by kernel_rfl)
theorem E88 : ∀ x, funRun fs X88 6 88 C88 x = C88.fn x := fun x => by kernel_rfl
theorem B88 : ConB Try.prog 88 C88 := ConB.make FS MIX TY (cons := K88) (L := L88) (ptrs := Q88) trivial trivial ⟨⟨⟨N, fun p => f_laws_eqBoolS.l0.ok N p⟩, trivial⟩, trivial⟩ rfl rfl E88
theorem S88 : ConS Try.prog 88 C88 := B88.call rfl
/-! laws.eqWait: function 89 -/
noncomputable def f_laws_eqWait (x0 : Int) (x1 : Bool) (x2 : Int) (x3 : Bool) : Option (Bool) :=
  bif (!(decide (x0 = x2))) then
    some false
  else
    bif (!(x1 == x3)) then
      some false
    else
      some true
noncomputable def C89 : Con := ⟨[(.B, true, [(.int .i64), .bool]), (.B, true, [(.int .i64), .bool])], [(false, [.bool])], [(.int .i64), .bool, (.int .i64), .bool], [.bool], fun (p : Int × Bool × Int × Bool) => f_laws_eqWait p.1 p.2.1 p.2.2.1 p.2.2.2⟩
noncomputable abbrev K89 : Cons := []
noncomputable abbrev L89 : List (Nat × Loops) := []
abbrev Q89 : List (Nat × List (Int × Nat) × Nat) := []
noncomputable abbrev X89 : Nat → Ctx := ctxOf tb K89 L89 Q89
theorem E89 : ∀ x, funRun fs X89 6 89 C89 x = C89.fn x := fun x => by kernel_rfl
theorem B89 : ConB Try.prog 89 C89 := ConB.make FS MIX TY (cons := K89) (L := L89) (ptrs := Q89) trivial trivial trivial rfl rfl E89
theorem S89 : ConS Try.prog 89 C89 := B89.call rfl
/-! laws.eqWaitS: function 90 -/
noncomputable def f_laws_eqWaitS.l0 : Nat → (List (Int × Bool)) → (List (Int × Bool)) → Bool → Int → Option ((Bool) ⊕ (Bool))
  | 0, _, _, _, _ => none
  | n + 1, p17, p18, p19, p20 =>
    bif (decide (p20 < (p17.length : Int))) then
      bif ((decide ((0 : Int) ≤ p20)) && (decide (p20 < (p17.length : Int)))) then
      bif ((decide ((0 : Int) ≤ p20)) && (decide (p20 < (p18.length : Int)))) then
      (f_laws_eqWait ((p17.getD p20.toNat (0, false)).1) ((p17.getD p20.toNat (0, false)).2) ((p18.getD p20.toNat (0, false)).1) ((p18.getD p20.toNat (0, false)).2)).bind fun y21 =>
      bif (!y21) then
        some (.inl false)
      else
        f_laws_eqWaitS.l0 n p17 p18 p19 (IntKind.wrap .i64 (p20 + (1 : Int)))
      else none
      else none
    else
      some (.inr p19)
noncomputable def f_laws_eqWaitS (x0 : List (Int × Bool)) (x1 : List (Int × Bool)) : Option (Bool) :=
  bif (!(decide ((x0.length : Int) = (x1.length : Int)))) then
    some false
  else
    (f_laws_eqWaitS.l0 N x0 x1 false 0).bind fun r22 =>
    cs r22 (fun a23 =>
      some a23) (fun b24 =>
      some true)
noncomputable def C90 : Con := ⟨[(.B, false, [(.sl R2)]), (.B, false, [(.sl R2)])], [(false, [.bool])], [(.sl R2), (.sl R2)], [.bool], fun (p : (List (Int × Bool)) × (List (Int × Bool))) => f_laws_eqWaitS p.1 p.2⟩
noncomputable def f_laws_eqWaitS.l0.c : LoopCon := ⟨1000, 6, [0, 1, 4, 5], ⟨[(0, .bor none R2 []), (1, .bor none R2 []), (4, .bool false), (5, .int .i64 0)], [], 1000⟩, [(.sl R2), (.sl R2), .bool, (.int .i64)], [⟨.ret, [4], ⟨[(4, .bool false)], [], 1000⟩, [.bool]⟩, ⟨.exit 0, [4], ⟨[(4, .bool false)], [], 1000⟩, [.bool]⟩], fun (p : (List (Int × Bool)) × (List (Int × Bool)) × Bool × Int) => f_laws_eqWaitS.l0 N p.1 p.2.1 p.2.2.1 p.2.2.2⟩
noncomputable abbrev K90 : Cons := [(89, C89)]
noncomputable abbrev L90 : List (Nat × Loops) := [(90, [(4, f_laws_eqWaitS.l0.c)])]
abbrev Q90 : List (Nat × List (Int × Nat) × Nat) := []
noncomputable abbrev X90 : Nat → Ctx := ctxOf tb K90 L90 Q90
theorem f_laws_eqWaitS.l0.ok : ∀ n p, (fun (p : (List (Int × Bool)) × (List (Int × Bool)) × Bool × Int) => f_laws_eqWaitS.l0 n p.1 p.2.1 p.2.2.1 p.2.2.2) p = iterD (roundOf fs X90 6 90 4 false f_laws_eqWaitS.l0.c) n p :=
  iter_of (l := fun n => fun (p : (List (Int × Bool)) × (List (Int × Bool)) × Bool × Int) => f_laws_eqWaitS.l0 n p.1 p.2.1 p.2.2.1 p.2.2.2) (fun _ => rfl) (fun n p => by kernel_rfl)
theorem E90 : ∀ x, funRun fs X90 6 90 C90 x = C90.fn x := fun x => by kernel_rfl
theorem B90 : ConB Try.prog 90 C90 := ConB.make FS MIX TY (cons := K90) (L := L90) (ptrs := Q90) ⟨S89, trivial⟩ trivial ⟨⟨⟨N, fun p => f_laws_eqWaitS.l0.ok N p⟩, trivial⟩, trivial⟩ rfl rfl E90
theorem S90 : ConS Try.prog 90 C90 := B90.call rfl
/-! laws.eqHome: function 41 -/
noncomputable def f_laws_eqHome (x0 : List Int) (x1 : Int) (x2 : List Bool) (x3 : Bool) (x4 : Int) (x5 : Bool) (x6 : Int) (x7 : List (Int × Bool)) (x8 : List Int) (x9 : Int) (x10 : List Bool) (x11 : Bool) (x12 : Int) (x13 : Bool) (x14 : Int) (x15 : List (Int × Bool)) : Option (Bool) :=
  (f_laws_eqIntS x0 x8).bind fun y25 =>
  bif (!y25) then
    some false
  else
    bif (!(decide (x1 = x9))) then
      some false
    else
      (f_laws_eqBoolS x2 x10).bind fun y26 =>
      bif (!y26) then
        some false
      else
        bif (!(x3 == x11)) then
          some false
        else
          (f_laws_eqWait x4 x5 x12 x13).bind fun y27 =>
          bif (!y27) then
            some false
          else
            bif (!(decide (x6 = x14))) then
              some false
            else
              (f_laws_eqWaitS x7 x15).bind fun y28 =>
              bif (!y28) then
                some false
              else
                some true
noncomputable def C41 : Con := ⟨[(.B, true, [(.sl R0), (.int .i64), (.sl R1), .bool, (.int .i64), .bool, (.int .i64), (.sl R2)]), (.B, true, [(.sl R0), (.int .i64), (.sl R1), .bool, (.int .i64), .bool, (.int .i64), (.sl R2)])], [(false, [.bool])], [(.sl R0), (.int .i64), (.sl R1), .bool, (.int .i64), .bool, (.int .i64), (.sl R2), (.sl R0), (.int .i64), (.sl R1), .bool, (.int .i64), .bool, (.int .i64), (.sl R2)], [.bool], fun (p : List Int × Int × List Bool × Bool × Int × Bool × Int × (List (Int × Bool)) × List Int × Int × List Bool × Bool × Int × Bool × Int × (List (Int × Bool))) => f_laws_eqHome p.1 p.2.1 p.2.2.1 p.2.2.2.1 p.2.2.2.2.1 p.2.2.2.2.2.1 p.2.2.2.2.2.2.1 p.2.2.2.2.2.2.2.1 p.2.2.2.2.2.2.2.2.1 p.2.2.2.2.2.2.2.2.2.1 p.2.2.2.2.2.2.2.2.2.2.1 p.2.2.2.2.2.2.2.2.2.2.2.1 p.2.2.2.2.2.2.2.2.2.2.2.2.1 p.2.2.2.2.2.2.2.2.2.2.2.2.2.1 p.2.2.2.2.2.2.2.2.2.2.2.2.2.2.1 p.2.2.2.2.2.2.2.2.2.2.2.2.2.2.2⟩
noncomputable abbrev K41 : Cons := [(29, C29), (88, C88), (89, C89), (90, C90)]
noncomputable abbrev L41 : List (Nat × Loops) := []
abbrev Q41 : List (Nat × List (Int × Nat) × Nat) := []
noncomputable abbrev X41 : Nat → Ctx := ctxOf tb K41 L41 Q41
theorem E41 : ∀ x, funRun fs X41 6 41 C41 x = C41.fn x := fun x => by kernel_rfl
theorem B41 : ConB Try.prog 41 C41 := ConB.make FS MIX TY (cons := K41) (L := L41) (ptrs := Q41) ⟨S29, S88, S89, S90, trivial⟩ trivial trivial rfl rfl E41
theorem S41 : ConS Try.prog 41 C41 := B41.call rfl
/-! laws.markIntS: function 84 -/
noncomputable def f_laws_markIntS.l0 : Nat → Int → Int → Int → (List Int) → Option (Int × Int × List Int)
  | 0, _, _, _, _ => none
  | n + 1, p29, p30, p31, p32 =>
    bif (decide (p31 < (p32.length : Int))) then
      bif ((decide ((0 : Int) ≤ p31)) && (decide (p31 < (p32.length : Int)))) then
      (some ((p32.set p31.toNat p29) : List Int)).bind fun z33 =>
      f_laws_markIntS.l0 n (IntKind.wrap .i64 (p29 + (1 : Int))) p30 (IntKind.wrap .i64 (p31 + (1 : Int))) z33
      else none
    else
      some (p29, p30, p32)
noncomputable def f_laws_markIntS (x0 : List Int) (x1 : Int) : Option (Int × List Int) :=
  (f_laws_markIntS.l0 N x1 0 0 x0).bind fun r34 =>
  some (r34.1, r34.2.2)
noncomputable def C84 : Con := ⟨[(.I, false, [(.sl R0)]), (.B, false, [(.int .i64)])], [(false, [(.int .i64)])], [(.sl R0), (.int .i64)], [(.int .i64), (.sl R0)], fun (p : List Int × Int) => f_laws_markIntS p.1 p.2⟩
noncomputable def f_laws_markIntS.l0.c : LoopCon := ⟨1000, 6, [0, 1, 4, 5], ⟨[(0, .ref 0 [] none), (1, .int .i64 0), (4, .int .i64 0), (5, .int .i64 0)], [(0, .row R0 [])], 1000⟩, [(.int .i64), (.int .i64), (.int .i64), (.sl R0)], [⟨.exit 0, [1, 4], ⟨[(1, .int .i64 0), (4, .int .i64 0)], [(0, .row R0 [])], 1000⟩, [(.int .i64), (.int .i64), (.sl R0)]⟩], fun (p : Int × Int × Int × List Int) => f_laws_markIntS.l0 N p.1 p.2.1 p.2.2.1 p.2.2.2⟩
noncomputable abbrev K84 : Cons := []
noncomputable abbrev L84 : List (Nat × Loops) := [(84, [(2, f_laws_markIntS.l0.c)])]
abbrev Q84 : List (Nat × List (Int × Nat) × Nat) := []
noncomputable abbrev X84 : Nat → Ctx := ctxOf tb K84 L84 Q84
theorem f_laws_markIntS.l0.ok : ∀ n p, (fun (p : Int × Int × Int × List Int) => f_laws_markIntS.l0 n p.1 p.2.1 p.2.2.1 p.2.2.2) p = iterD (roundOf fs X84 6 84 2 false f_laws_markIntS.l0.c) n p :=
  iter_of (l := fun n => fun (p : Int × Int × Int × List Int) => f_laws_markIntS.l0 n p.1 p.2.1 p.2.2.1 p.2.2.2) (fun _ => rfl) (fun n p => by kernel_rfl)
theorem E84 : ∀ x, funG fs X84 6 84 C84 x = C84.fn x := fun x => by kernel_rfl
theorem B84 : ConG Try.prog 84 C84 := ConG.make FS MIX TY (cons := K84) (L := L84) (ptrs := Q84) trivial trivial ⟨⟨⟨N, fun p => f_laws_markIntS.l0.ok N p⟩, trivial⟩, trivial⟩ rfl (by kernel_rfl) E84
theorem S84 : ConS Try.prog 84 C84 := B84.call (by kernel_rfl)
/-! laws.markBoolS: function 91 -/
noncomputable def f_laws_markBoolS.l0 : Nat → Int → Int → Int → (List Bool) → Option (Int × Int × List Bool)
  | 0, _, _, _, _ => none
  | n + 1, p35, p36, p37, p38 =>
    bif (decide (p37 < (p38.length : Int))) then
      bif ((decide ((0 : Int) ≤ p37)) && (decide (p37 < (p38.length : Int)))) then
      (some ((p38.set p37.toNat (decide ((Int.tmod p35 (3 : Int)) = (0 : Int)))) : List Bool)).bind fun z39 =>
      f_laws_markBoolS.l0 n (IntKind.wrap .i64 (p35 + (1 : Int))) p36 (IntKind.wrap .i64 (p37 + (1 : Int))) z39
      else none
    else
      some (p35, p36, p38)
noncomputable def f_laws_markBoolS (x0 : List Bool) (x1 : Int) : Option (Int × List Bool) :=
  (f_laws_markBoolS.l0 N x1 0 0 x0).bind fun r40 =>
  some (r40.1, r40.2.2)
noncomputable def C91 : Con := ⟨[(.I, false, [(.sl R1)]), (.B, false, [(.int .i64)])], [(false, [(.int .i64)])], [(.sl R1), (.int .i64)], [(.int .i64), (.sl R1)], fun (p : List Bool × Int) => f_laws_markBoolS p.1 p.2⟩
noncomputable def f_laws_markBoolS.l0.c : LoopCon := ⟨1000, 6, [0, 1, 4, 5], ⟨[(0, .ref 0 [] none), (1, .int .i64 0), (4, .int .i64 0), (5, .int .i64 0)], [(0, .row R1 [])], 1000⟩, [(.int .i64), (.int .i64), (.int .i64), (.sl R1)], [⟨.exit 0, [1, 4], ⟨[(1, .int .i64 0), (4, .int .i64 0)], [(0, .row R1 [])], 1000⟩, [(.int .i64), (.int .i64), (.sl R1)]⟩], fun (p : Int × Int × Int × List Bool) => f_laws_markBoolS.l0 N p.1 p.2.1 p.2.2.1 p.2.2.2⟩
noncomputable abbrev K91 : Cons := []
noncomputable abbrev L91 : List (Nat × Loops) := [(91, [(2, f_laws_markBoolS.l0.c)])]
abbrev Q91 : List (Nat × List (Int × Nat) × Nat) := []
noncomputable abbrev X91 : Nat → Ctx := ctxOf tb K91 L91 Q91
theorem f_laws_markBoolS.l0.ok : ∀ n p, (fun (p : Int × Int × Int × List Bool) => f_laws_markBoolS.l0 n p.1 p.2.1 p.2.2.1 p.2.2.2) p = iterD (roundOf fs X91 6 91 2 false f_laws_markBoolS.l0.c) n p :=
  iter_of (l := fun n => fun (p : Int × Int × Int × List Bool) => f_laws_markBoolS.l0 n p.1 p.2.1 p.2.2.1 p.2.2.2) (fun _ => rfl) (fun n p => by kernel_rfl)
theorem E91 : ∀ x, funG fs X91 6 91 C91 x = C91.fn x := fun x => by kernel_rfl
theorem B91 : ConG Try.prog 91 C91 := ConG.make FS MIX TY (cons := K91) (L := L91) (ptrs := Q91) trivial trivial ⟨⟨⟨N, fun p => f_laws_markBoolS.l0.ok N p⟩, trivial⟩, trivial⟩ rfl (by kernel_rfl) E91
theorem S91 : ConS Try.prog 91 C91 := B91.call (by kernel_rfl)
/-! laws.markWaitS: function 92 -/
noncomputable def f_laws_markWaitS.l0 : Nat → Int → Int → Int → (List (Int × Bool)) → Option (Int × Int × (List (Int × Bool)))
  | 0, _, _, _, _ => none
  | n + 1, p41, p42, p43, p44 =>
    bif (decide (p43 < (p44.length : Int))) then
      bif ((decide ((0 : Int) ≤ p43)) && (decide (p43 < (p44.length : Int)))) then
      (some ((p44.set p43.toNat (p41, (p44.getD p43.toNat (0, false)).2)) : List (Int × Bool))).bind fun z45 =>
      bif ((decide ((0 : Int) ≤ p43)) && (decide (p43 < (z45.length : Int)))) then
      (some ((z45.set p43.toNat ((z45.getD p43.toNat (0, false)).1, (decide ((Int.tmod (IntKind.wrap .i64 (p41 + (1 : Int))) (3 : Int)) = (0 : Int))))) : List (Int × Bool))).bind fun z46 =>
      f_laws_markWaitS.l0 n (IntKind.wrap .i64 ((IntKind.wrap .i64 (p41 + (1 : Int))) + (1 : Int))) p42 (IntKind.wrap .i64 (p43 + (1 : Int))) z46
      else none
      else none
    else
      some (p41, p42, p44)
noncomputable def f_laws_markWaitS (x0 : List (Int × Bool)) (x1 : Int) : Option (Int × (List (Int × Bool))) :=
  (f_laws_markWaitS.l0 N x1 0 0 x0).bind fun r47 =>
  some (r47.1, r47.2.2)
noncomputable def C92 : Con := ⟨[(.I, false, [(.sl R2)]), (.B, false, [(.int .i64)])], [(false, [(.int .i64)])], [(.sl R2), (.int .i64)], [(.int .i64), (.sl R2)], fun (p : (List (Int × Bool)) × Int) => f_laws_markWaitS p.1 p.2⟩
noncomputable def f_laws_markWaitS.l0.c : LoopCon := ⟨1000, 6, [0, 1, 4, 5], ⟨[(0, .ref 0 [] none), (1, .int .i64 0), (4, .int .i64 0), (5, .int .i64 0)], [(0, .row R2 [])], 1000⟩, [(.int .i64), (.int .i64), (.int .i64), (.sl R2)], [⟨.exit 0, [1, 4], ⟨[(1, .int .i64 0), (4, .int .i64 0)], [(0, .row R2 [])], 1000⟩, [(.int .i64), (.int .i64), (.sl R2)]⟩], fun (p : Int × Int × Int × (List (Int × Bool))) => f_laws_markWaitS.l0 N p.1 p.2.1 p.2.2.1 p.2.2.2⟩
noncomputable abbrev K92 : Cons := []
noncomputable abbrev L92 : List (Nat × Loops) := [(92, [(2, f_laws_markWaitS.l0.c)])]
abbrev Q92 : List (Nat × List (Int × Nat) × Nat) := []
noncomputable abbrev X92 : Nat → Ctx := ctxOf tb K92 L92 Q92
theorem f_laws_markWaitS.l0.ok : ∀ n p, (fun (p : Int × Int × Int × (List (Int × Bool))) => f_laws_markWaitS.l0 n p.1 p.2.1 p.2.2.1 p.2.2.2) p = iterD (roundOf fs X92 6 92 2 false f_laws_markWaitS.l0.c) n p :=
  iter_of (l := fun n => fun (p : Int × Int × Int × (List (Int × Bool))) => f_laws_markWaitS.l0 n p.1 p.2.1 p.2.2.1 p.2.2.2) (fun _ => rfl) (fun n p => by kernel_rfl)
theorem E92 : ∀ x, funG fs X92 6 92 C92 x = C92.fn x := fun x => by kernel_rfl
theorem B92 : ConG Try.prog 92 C92 := ConG.make FS MIX TY (cons := K92) (L := L92) (ptrs := Q92) trivial trivial ⟨⟨⟨N, fun p => f_laws_markWaitS.l0.ok N p⟩, trivial⟩, trivial⟩ rfl (by kernel_rfl) E92
theorem S92 : ConS Try.prog 92 C92 := B92.call (by kernel_rfl)
/-! laws.markHome: function 42 -/
noncomputable def f_laws_markHome (x0 : List Int) (x1 : Int) (x2 : List Bool) (x3 : Bool) (x4 : Int) (x5 : Bool) (x6 : Int) (x7 : List (Int × Bool)) (x8 : Int) : Option (Int × List Int × List Bool × (List (Int × Bool))) :=
  (f_laws_markIntS x0 x8).bind fun y48 =>
  (some (y48.2 : List Int)).bind fun z49 =>
  (f_laws_markBoolS x2 y48.1).bind fun y50 =>
  (some (y50.2 : List Bool)).bind fun z51 =>
  (f_laws_markWaitS x7 y50.1).bind fun y52 =>
  (some (y52.2 : List (Int × Bool))).bind fun z53 =>
  some (y52.1, z49, z51, z53)
noncomputable def C42 : Con := ⟨[(.I, true, [(.sl R0), (.int .i64), (.sl R1), .bool, (.int .i64), .bool, (.int .i64), (.sl R2)]), (.B, false, [(.int .i64)])], [(false, [(.int .i64)])], [(.sl R0), (.int .i64), (.sl R1), .bool, (.int .i64), .bool, (.int .i64), (.sl R2), (.int .i64)], [(.int .i64), (.sl R0), (.sl R1), (.sl R2)], fun (p : List Int × Int × List Bool × Bool × Int × Bool × Int × (List (Int × Bool)) × Int) => f_laws_markHome p.1 p.2.1 p.2.2.1 p.2.2.2.1 p.2.2.2.2.1 p.2.2.2.2.2.1 p.2.2.2.2.2.2.1 p.2.2.2.2.2.2.2.1 p.2.2.2.2.2.2.2.2⟩
noncomputable abbrev K42 : Cons := [(84, C84), (91, C91), (92, C92)]
noncomputable abbrev L42 : List (Nat × Loops) := []
abbrev Q42 : List (Nat × List (Int × Nat) × Nat) := []
noncomputable abbrev X42 : Nat → Ctx := ctxOf tb K42 L42 Q42
theorem E42 : ∀ x, funG fs X42 6 42 C42 x = C42.fn x := fun x => by kernel_rfl
theorem B42 : ConG Try.prog 42 C42 := ConG.make FS MIX TY (cons := K42) (L := L42) (ptrs := Q42) ⟨S84, S91, S92, trivial⟩ trivial trivial rfl (by kernel_rfl) E42
theorem S42 : ConS Try.prog 42 C42 := B42.call (by kernel_rfl)
/-! laws.heldIntS: function 85 -/
noncomputable def f_laws_heldIntS.l0 : Nat → (List Int) → Int → Int → Int → Option ((Int) ⊕ (Int × Int))
  | 0, _, _, _, _ => none
  | n + 1, p54, p55, p56, p57 =>
    bif (decide (p57 < (p54.length : Int))) then
      bif ((decide ((0 : Int) ≤ p57)) && (decide (p57 < (p54.length : Int)))) then
      bif (!(decide ((p54.getD p57.toNat 0) = p55))) then
        some (.inl (-1))
      else
        f_laws_heldIntS.l0 n p54 (IntKind.wrap .i64 (p55 + (1 : Int))) p56 (IntKind.wrap .i64 (p57 + (1 : Int)))
      else none
    else
      some (.inr (p55, p56))
noncomputable def f_laws_heldIntS (x0 : List Int) (x1 : Int) : Option (Int) :=
  (f_laws_heldIntS.l0 N x0 x1 0 0).bind fun r58 =>
  cs r58 (fun a59 =>
    some a59) (fun b60 =>
    some b60.1)
noncomputable def C85 : Con := ⟨[(.B, false, [(.sl R0)]), (.B, false, [(.int .i64)])], [(false, [(.int .i64)])], [(.sl R0), (.int .i64)], [(.int .i64)], fun (p : List Int × Int) => f_laws_heldIntS p.1 p.2⟩
noncomputable def f_laws_heldIntS.l0.c : LoopCon := ⟨1000, 6, [0, 1, 4, 5], ⟨[(0, .bor none R0 []), (1, .int .i64 0), (4, .int .i64 0), (5, .int .i64 0)], [], 1000⟩, [(.sl R0), (.int .i64), (.int .i64), (.int .i64)], [⟨.ret, [4], ⟨[(4, .int .i64 0)], [], 1000⟩, [(.int .i64)]⟩, ⟨.exit 0, [1, 4], ⟨[(1, .int .i64 0), (4, .int .i64 0)], [], 1000⟩, [(.int .i64), (.int .i64)]⟩], fun (p : List Int × Int × Int × Int) => f_laws_heldIntS.l0 N p.1 p.2.1 p.2.2.1 p.2.2.2⟩
noncomputable abbrev K85 : Cons := []
noncomputable abbrev L85 : List (Nat × Loops) := [(85, [(2, f_laws_heldIntS.l0.c)])]
abbrev Q85 : List (Nat × List (Int × Nat) × Nat) := []
noncomputable abbrev X85 : Nat → Ctx := ctxOf tb K85 L85 Q85
theorem f_laws_heldIntS.l0.ok : ∀ n p, (fun (p : List Int × Int × Int × Int) => f_laws_heldIntS.l0 n p.1 p.2.1 p.2.2.1 p.2.2.2) p = iterD (roundOf fs X85 6 85 2 false f_laws_heldIntS.l0.c) n p :=
  iter_of (l := fun n => fun (p : List Int × Int × Int × Int) => f_laws_heldIntS.l0 n p.1 p.2.1 p.2.2.1 p.2.2.2) (fun _ => rfl) (fun n p => by kernel_rfl)
theorem E85 : ∀ x, funRun fs X85 6 85 C85 x = C85.fn x := fun x => by kernel_rfl
theorem B85 : ConB Try.prog 85 C85 := ConB.make FS MIX TY (cons := K85) (L := L85) (ptrs := Q85) trivial trivial ⟨⟨⟨N, fun p => f_laws_heldIntS.l0.ok N p⟩, trivial⟩, trivial⟩ rfl rfl E85
theorem S85 : ConS Try.prog 85 C85 := B85.call rfl
/-! laws.heldBoolS: function 93 -/
noncomputable def f_laws_heldBoolS.l0 : Nat → (List Bool) → Int → Int → Int → Option ((Int) ⊕ (Int × Int))
  | 0, _, _, _, _ => none
  | n + 1, p61, p62, p63, p64 =>
    bif (decide (p64 < (p61.length : Int))) then
      bif ((decide ((0 : Int) ≤ p64)) && (decide (p64 < (p61.length : Int)))) then
      bif (!((p61.getD p64.toNat false) == (decide ((Int.tmod p62 (3 : Int)) = (0 : Int))))) then
        some (.inl (-1))
      else
        f_laws_heldBoolS.l0 n p61 (IntKind.wrap .i64 (p62 + (1 : Int))) p63 (IntKind.wrap .i64 (p64 + (1 : Int)))
      else none
    else
      some (.inr (p62, p63))
noncomputable def f_laws_heldBoolS (x0 : List Bool) (x1 : Int) : Option (Int) :=
  (f_laws_heldBoolS.l0 N x0 x1 0 0).bind fun r65 =>
  cs r65 (fun a66 =>
    some a66) (fun b67 =>
    some b67.1)
noncomputable def C93 : Con := ⟨[(.B, false, [(.sl R1)]), (.B, false, [(.int .i64)])], [(false, [(.int .i64)])], [(.sl R1), (.int .i64)], [(.int .i64)], fun (p : List Bool × Int) => f_laws_heldBoolS p.1 p.2⟩
noncomputable def f_laws_heldBoolS.l0.c : LoopCon := ⟨1000, 6, [0, 1, 4, 5], ⟨[(0, .bor none R1 []), (1, .int .i64 0), (4, .int .i64 0), (5, .int .i64 0)], [], 1000⟩, [(.sl R1), (.int .i64), (.int .i64), (.int .i64)], [⟨.ret, [4], ⟨[(4, .int .i64 0)], [], 1000⟩, [(.int .i64)]⟩, ⟨.exit 0, [1, 4], ⟨[(1, .int .i64 0), (4, .int .i64 0)], [], 1000⟩, [(.int .i64), (.int .i64)]⟩], fun (p : List Bool × Int × Int × Int) => f_laws_heldBoolS.l0 N p.1 p.2.1 p.2.2.1 p.2.2.2⟩
noncomputable abbrev K93 : Cons := []
noncomputable abbrev L93 : List (Nat × Loops) := [(93, [(2, f_laws_heldBoolS.l0.c)])]
abbrev Q93 : List (Nat × List (Int × Nat) × Nat) := []
noncomputable abbrev X93 : Nat → Ctx := ctxOf tb K93 L93 Q93
theorem f_laws_heldBoolS.l0.ok : ∀ n p, (fun (p : List Bool × Int × Int × Int) => f_laws_heldBoolS.l0 n p.1 p.2.1 p.2.2.1 p.2.2.2) p = iterD (roundOf fs X93 6 93 2 false f_laws_heldBoolS.l0.c) n p :=
  iter_of (l := fun n => fun (p : List Bool × Int × Int × Int) => f_laws_heldBoolS.l0 n p.1 p.2.1 p.2.2.1 p.2.2.2) (fun _ => rfl) (fun n p => by kernel_rfl)
theorem E93 : ∀ x, funRun fs X93 6 93 C93 x = C93.fn x := fun x => by kernel_rfl
theorem B93 : ConB Try.prog 93 C93 := ConB.make FS MIX TY (cons := K93) (L := L93) (ptrs := Q93) trivial trivial ⟨⟨⟨N, fun p => f_laws_heldBoolS.l0.ok N p⟩, trivial⟩, trivial⟩ rfl rfl E93
theorem S93 : ConS Try.prog 93 C93 := B93.call rfl
/-! laws.heldWaitS: function 94 -/
noncomputable def f_laws_heldWaitS.l0 : Nat → (List (Int × Bool)) → Int → Int → Int → Option ((Int) ⊕ (Int × Int))
  | 0, _, _, _, _ => none
  | n + 1, p68, p69, p70, p71 =>
    bif (decide (p71 < (p68.length : Int))) then
      bif ((decide ((0 : Int) ≤ p71)) && (decide (p71 < (p68.length : Int)))) then
      bif (!(decide (((p68.getD p71.toNat (0, false)).1) = p69))) then
        some (.inl (-1))
      else
        bif ((decide ((0 : Int) ≤ p71)) && (decide (p71 < (p68.length : Int)))) then
        bif (!(((p68.getD p71.toNat (0, false)).2) == (decide ((Int.tmod (IntKind.wrap .i64 (p69 + (1 : Int))) (3 : Int)) = (0 : Int))))) then
          some (.inl (-1))
        else
          f_laws_heldWaitS.l0 n p68 (IntKind.wrap .i64 ((IntKind.wrap .i64 (p69 + (1 : Int))) + (1 : Int))) p70 (IntKind.wrap .i64 (p71 + (1 : Int)))
        else none
      else none
    else
      some (.inr (p69, p70))
noncomputable def f_laws_heldWaitS (x0 : List (Int × Bool)) (x1 : Int) : Option (Int) :=
  (f_laws_heldWaitS.l0 N x0 x1 0 0).bind fun r72 =>
  cs r72 (fun a73 =>
    some a73) (fun b74 =>
    some b74.1)
noncomputable def C94 : Con := ⟨[(.B, false, [(.sl R2)]), (.B, false, [(.int .i64)])], [(false, [(.int .i64)])], [(.sl R2), (.int .i64)], [(.int .i64)], fun (p : (List (Int × Bool)) × Int) => f_laws_heldWaitS p.1 p.2⟩
noncomputable def f_laws_heldWaitS.l0.c : LoopCon := ⟨1000, 6, [0, 1, 4, 5], ⟨[(0, .bor none R2 []), (1, .int .i64 0), (4, .int .i64 0), (5, .int .i64 0)], [], 1000⟩, [(.sl R2), (.int .i64), (.int .i64), (.int .i64)], [⟨.ret, [4], ⟨[(4, .int .i64 0)], [], 1000⟩, [(.int .i64)]⟩, ⟨.exit 0, [1, 4], ⟨[(1, .int .i64 0), (4, .int .i64 0)], [], 1000⟩, [(.int .i64), (.int .i64)]⟩], fun (p : (List (Int × Bool)) × Int × Int × Int) => f_laws_heldWaitS.l0 N p.1 p.2.1 p.2.2.1 p.2.2.2⟩
noncomputable abbrev K94 : Cons := []
noncomputable abbrev L94 : List (Nat × Loops) := [(94, [(2, f_laws_heldWaitS.l0.c)])]
abbrev Q94 : List (Nat × List (Int × Nat) × Nat) := []
noncomputable abbrev X94 : Nat → Ctx := ctxOf tb K94 L94 Q94
theorem f_laws_heldWaitS.l0.ok : ∀ n p, (fun (p : (List (Int × Bool)) × Int × Int × Int) => f_laws_heldWaitS.l0 n p.1 p.2.1 p.2.2.1 p.2.2.2) p = iterD (roundOf fs X94 6 94 2 false f_laws_heldWaitS.l0.c) n p :=
  iter_of (l := fun n => fun (p : (List (Int × Bool)) × Int × Int × Int) => f_laws_heldWaitS.l0 n p.1 p.2.1 p.2.2.1 p.2.2.2) (fun _ => rfl) (fun n p => by kernel_rfl)
theorem E94 : ∀ x, funRun fs X94 6 94 C94 x = C94.fn x := fun x => by kernel_rfl
theorem B94 : ConB Try.prog 94 C94 := ConB.make FS MIX TY (cons := K94) (L := L94) (ptrs := Q94) trivial trivial ⟨⟨⟨N, fun p => f_laws_heldWaitS.l0.ok N p⟩, trivial⟩, trivial⟩ rfl rfl E94
theorem S94 : ConS Try.prog 94 C94 := B94.call rfl
/-! laws.heldHome: function 43 -/
noncomputable def f_laws_heldHome (x0 : List Int) (x1 : Int) (x2 : List Bool) (x3 : Bool) (x4 : Int) (x5 : Bool) (x6 : Int) (x7 : List (Int × Bool)) (x8 : Int) : Option (Int) :=
  (f_laws_heldIntS x0 x8).bind fun y75 =>
  bif (decide (y75 < (0 : Int))) then
    some (-1)
  else
    (f_laws_heldBoolS x2 y75).bind fun y76 =>
    bif (decide (y76 < (0 : Int))) then
      some (-1)
    else
      (f_laws_heldWaitS x7 y76).bind fun y77 =>
      bif (decide (y77 < (0 : Int))) then
        some (-1)
      else
        some y77
noncomputable def C43 : Con := ⟨[(.B, true, [(.sl R0), (.int .i64), (.sl R1), .bool, (.int .i64), .bool, (.int .i64), (.sl R2)]), (.B, false, [(.int .i64)])], [(false, [(.int .i64)])], [(.sl R0), (.int .i64), (.sl R1), .bool, (.int .i64), .bool, (.int .i64), (.sl R2), (.int .i64)], [(.int .i64)], fun (p : List Int × Int × List Bool × Bool × Int × Bool × Int × (List (Int × Bool)) × Int) => f_laws_heldHome p.1 p.2.1 p.2.2.1 p.2.2.2.1 p.2.2.2.2.1 p.2.2.2.2.2.1 p.2.2.2.2.2.2.1 p.2.2.2.2.2.2.2.1 p.2.2.2.2.2.2.2.2⟩
noncomputable abbrev K43 : Cons := [(85, C85), (93, C93), (94, C94)]
noncomputable abbrev L43 : List (Nat × Loops) := []
abbrev Q43 : List (Nat × List (Int × Nat) × Nat) := []
noncomputable abbrev X43 : Nat → Ctx := ctxOf tb K43 L43 Q43
theorem E43 : ∀ x, funRun fs X43 6 43 C43 x = C43.fn x := fun x => by kernel_rfl
theorem B43 : ConB Try.prog 43 C43 := ConB.make FS MIX TY (cons := K43) (L := L43) (ptrs := Q43) ⟨S85, S93, S94, trivial⟩ trivial trivial rfl rfl E43
theorem S43 : ConS Try.prog 43 C43 := B43.call rfl
/-! laws.FnExactHomeNew: function 8 -/
noncomputable def f_laws_FnExactHomeNew (x0 : Int) : Option (Bool) :=
  (f_spec_HomeNew x0).bind fun y78 =>
  (f_impl_HomeNew x0).bind fun y79 =>
  (f_laws_eqHome y79.1 y79.2.1 y79.2.2.1 y79.2.2.2.1 y79.2.2.2.2.1 y79.2.2.2.2.2.1 y79.2.2.2.2.2.2.1 y79.2.2.2.2.2.2.2 y78.1 y78.2.1 y78.2.2.1 y78.2.2.2.1 y78.2.2.2.2.1 y78.2.2.2.2.2.1 y78.2.2.2.2.2.2.1 y78.2.2.2.2.2.2.2).bind fun y80 =>
  bif (!y80) then
    some false
  else
    (f_laws_markHome y79.1 y79.2.1 y79.2.2.1 y79.2.2.2.1 y79.2.2.2.2.1 y79.2.2.2.2.2.1 y79.2.2.2.2.2.2.1 y79.2.2.2.2.2.2.2 1).bind fun y81 =>
    (some (y81.2.1 : List Int)).bind fun z82 =>
    (some (y81.2.2.1 : List Bool)).bind fun z83 =>
    (some (y81.2.2.2 : List (Int × Bool))).bind fun z84 =>
    (f_laws_heldHome z82 y79.2.1 z83 y79.2.2.2.1 y79.2.2.2.2.1 y79.2.2.2.2.2.1 y79.2.2.2.2.2.2.1 z84 1).bind fun y85 =>
    bif (decide (y85 < (0 : Int))) then
      some false
    else
      bif (!(decide (y85 = y81.1))) then
        some false
      else
        (f_impl_HomeNew x0).bind fun y86 =>
        (f_laws_eqHome y86.1 y86.2.1 y86.2.2.1 y86.2.2.2.1 y86.2.2.2.2.1 y86.2.2.2.2.2.1 y86.2.2.2.2.2.2.1 y86.2.2.2.2.2.2.2 y78.1 y78.2.1 y78.2.2.1 y78.2.2.2.1 y78.2.2.2.2.1 y78.2.2.2.2.2.1 y78.2.2.2.2.2.2.1 y78.2.2.2.2.2.2.2).bind fun y87 =>
        bif (!y87) then
          some false
        else
          (f_laws_heldHome z82 y79.2.1 z83 y79.2.2.2.1 y79.2.2.2.2.1 y79.2.2.2.2.2.1 y79.2.2.2.2.2.2.1 z84 1).bind fun y88 =>
          bif (decide (y88 < (0 : Int))) then
            some false
          else
            bif (!(decide (y88 = y81.1))) then
              some false
            else
              some true
noncomputable def C8 : Con := ⟨[(.B, false, [(.int .i64)])], [(false, [.bool])], [(.int .i64)], [.bool], fun (p : Int) => f_laws_FnExactHomeNew p⟩
noncomputable abbrev K8 : Cons := [(39, C39), (40, C40), (41, C41), (42, C42), (43, C43)]
noncomputable abbrev L8 : List (Nat × Loops) := []
abbrev Q8 : List (Nat × List (Int × Nat) × Nat) := []
noncomputable abbrev X8 : Nat → Ctx := ctxOf tb K8 L8 Q8
theorem E8 : ∀ x, funRun fs X8 6 8 C8 x = C8.fn x := fun x => by kernel_rfl
theorem B8 : ConB Try.prog 8 C8 := ConB.make FS MIX TY (cons := K8) (L := L8) (ptrs := Q8) ⟨S39, S40, S41, S42, S43, trivial⟩ trivial trivial rfl rfl E8
theorem S8 : ConS Try.prog 8 C8 := B8.call rfl
/-- What is left: the plain law. -/
def Pure : Prop := ∀ x : Tup [(.int .i64)], WfT [(.int .i64)] x → C8.fn x = some (true : Bool)
end
end Go.Abs
