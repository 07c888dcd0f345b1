import Derived.Test.YtbecooalhanmeaaProg
import Derived.Test.YtbecooalhanmeaaAbsC
import Derived.KernelRfl
namespace Go.Abs
open Go.Proofs
set_option linter.unusedVariables false
set_option maxRecDepth 100000
noncomputable section
abbrev N : Nat := 1152921504606846976
abbrev R0 : RT := .cons (.int .i64) (.cons (.int .i64) (.cons (.int .i64) (.cons (.int .i64) (.one (.int .i64)))))
abbrev R1 : RT := .one (.int .i64)
noncomputable def tb : Tb := [(0, ⟨false, [], [], 0, 0⟩),
  (3, ⟨false, [(.int .i64)], [], 0, 8⟩),
  (4, ⟨false, [.bool], [], 0, 1⟩),
  (5, ⟨false, [(.int .u8)], [], 0, 1⟩),
  (9, ⟨false, [.str], [], 0, 16⟩),
  (22, ⟨false, [(.sl R1)], [], 3, 24⟩),
  (41, ⟨true, [(.int .i64), (.int .i64), (.int .i64), (.int .i64), (.int .i64)], [(0, 3), (1, 3), (2, 3), (3, 3), (4, 3)], 0, 40⟩),
  (43, ⟨true, [(.int .i64), (.int .i64), (.int .i64), (.int .i64), (.int .i64)], [(0, 3), (1, 3), (2, 3), (3, 3), (4, 3)], 0, 40⟩),
  (71, ⟨false, [(.sl R0)], [], 41, 24⟩),
  (73, ⟨true, [(.int .i64), (.sl R0)], [(0, 3), (1, 71)], 0, 32⟩),
  (76, ⟨false, [(.sl R0)], [], 43, 24⟩),
  (78, ⟨true, [(.int .i64), (.sl R0)], [(0, 3), (1, 76)], 0, 32⟩),
  (141, ⟨false, [], [], 0, 0⟩),
  (143, ⟨false, [], [], 0, 8⟩),
  (148, ⟨false, [], [], 0, 8⟩)]
noncomputable def fsL : List (Nat × Func) := [(95, Try.f95), (44, Try.f44), (26, Try.f26), (97, Try.f97), (46, Try.f46), (69, Try.f69), (115, Try.f115), (116, Try.f116), (76, Try.f76), (96, Try.f96), (45, Try.f45), (57, Try.f57), (71, Try.f71), (98, Try.f98), (117, Try.f117), (118, Try.f118), (78, Try.f78), (99, Try.f99), (47, Try.f47), (58, Try.f58), (56, Try.f56), (100, Try.f100), (48, Try.f48), (12, Try.f12)]
noncomputable def fs : Nat → Option Func := getF fsL
theorem MIX : Try.prog.follows .mixedOrders = true := by kernel_rfl
theorem TY : tyCheck Try.prog tb = true := by kernel_rfl
theorem CAT : catCheck tb = true := by kernel_rfl
theorem FSP : FsP Try.prog fsL := ⟨Try.func95, Try.func44, Try.func26, Try.func97, Try.func46, Try.func69, Try.func115, Try.func116, Try.func76, Try.func96, Try.func45, Try.func57, Try.func71, Try.func98, Try.func117, Try.func118, Try.func78, Try.func99, Try.func47, Try.func58, Try.func56, Try.func100, Try.func48, Try.func12, trivial⟩
theorem FSC : (fsL.all fun p => fnChk p.2) = true := by kernel_rfl
theorem FS : FsS Try.prog fs := FsS.of FSP FSC
theorem PT118 : PtrS Try.prog 118 [(82, 1), (65, 2), (66, 3)] 4 := PtrS.make FS MIX TY (cons := []) (L := []) (ptrs := []) trivial trivial trivial rfl (fun l => by kernel_rfl)
/-! laws.szInsS: function 95 -/
noncomputable def f_laws_szInsS (x0 : List (Int × Int × Int × Int × Int)) (x1 : Int) : Option (Int) :=
  bif (decide ((IntKind.wrap .i64 (x1 - (x0.length : Int))) < (0 : Int))) then
    some (-1)
  else
    some (IntKind.wrap .i64 (x1 - (x0.length : Int)))
noncomputable def C95 : Con := ⟨[(.B, false, [(.sl R0)]), (.B, false, [(.int .i64)])], [(false, [(.int .i64)])], [(.sl R0), (.int .i64)], [(.int .i64)], fun (p : (List (Int × Int × Int × Int × Int)) × Int) => f_laws_szInsS p.1 p.2⟩
noncomputable abbrev K95 : Cons := []
noncomputable abbrev L95 : List (Nat × Loops) := []
abbrev Q95 : List (Nat × List (Int × Nat) × Nat) := []
noncomputable abbrev X95 : Nat → Ctx := ctxOf tb K95 L95 Q95
theorem E95 : ∀ x, funRun fs X95 6 95 C95 x = C95.fn x := fun x => by kernel_rfl
theorem B95 : ConB Try.prog 95 C95 := ConB.make FS MIX TY (cons := K95) (L := L95) (ptrs := Q95) trivial trivial trivial rfl rfl E95
theorem S95 : ConS Try.prog 95 C95 := B95.call rfl
/-! laws.szBlock: function 44 -/
noncomputable def f_laws_szBlock (x0 : Int) (x1 : List (Int × Int × Int × Int × Int)) (x2 : Int) : Option (Int) :=
  (f_laws_szInsS x1 x2).bind fun y1 =>
  bif (decide (y1 < (0 : Int))) then
    some (-1)
  else
    some y1
noncomputable def C44 : Con := ⟨[(.B, true, [(.int .i64), (.sl R0)]), (.B, false, [(.int .i64)])], [(false, [(.int .i64)])], [(.int .i64), (.sl R0), (.int .i64)], [(.int .i64)], fun (p : Int × (List (Int × Int × Int × Int × Int)) × Int) => f_laws_szBlock p.1 p.2.1 p.2.2⟩
noncomputable abbrev K44 : Cons := [(95, C95)]
noncomputable abbrev L44 : List (Nat × Loops) := []
abbrev Q44 : List (Nat × List (Int × Nat) × Nat) := []
noncomputable abbrev X44 : Nat → Ctx := ctxOf tb K44 L44 Q44
theorem E44 : ∀ x, funRun fs X44 6 44 C44 x = C44.fn x := fun x => by kernel_rfl
theorem B44 : ConB Try.prog 44 C44 := ConB.make FS MIX TY (cons := K44) (L := L44) (ptrs := Q44) ⟨S95, trivial⟩ trivial trivial rfl rfl E44
theorem S44 : ConS Try.prog 44 C44 := B44.call rfl
/-! laws.toIns: function 26 -/
noncomputable def f_laws_toIns (x0 : Int) (x1 : Int) (x2 : Int) (x3 : Int) (x4 : Int) : Option (Int × Int × Int × Int × Int) :=
  some (x0, x1, x2, x3, x4)
noncomputable def C26 : Con := ⟨[(.B, true, [(.int .i64), (.int .i64), (.int .i64), (.int .i64), (.int .i64)])], [(true, [(.int .i64), (.int .i64), (.int .i64), (.int .i64), (.int .i64)])], [(.int .i64), (.int .i64), (.int .i64), (.int .i64), (.int .i64)], [(.int .i64), (.int .i64), (.int .i64), (.int .i64), (.int .i64)], fun (p : Int × Int × Int × Int × Int) => f_laws_toIns p.1 p.2.1 p.2.2.1 p.2.2.2.1 p.2.2.2.2⟩
noncomputable abbrev K26 : Cons := []
noncomputable abbrev L26 : List (Nat × Loops) := []
abbrev Q26 : List (Nat × List (Int × Nat) × Nat) := []
noncomputable abbrev X26 : Nat → Ctx := ctxOf tb K26 L26 Q26
theorem E26 : ∀ x, funRun fs X26 6 26 C26 x = C26.fn x := fun x => by kernel_rfl
theorem B26 : ConB Try.prog 26 C26 := ConB.make FS MIX TY (cons := K26) (L := L26) (ptrs := Q26) trivial trivial trivial rfl rfl E26
theorem S26 : ConS Try.prog 26 C26 := B26.call rfl
/-! laws.toInsS: function 97 -/
noncomputable def f_laws_toInsS.l0 : Nat → (List (Int × Int × Int × Int × Int)) → Int → (List (Int × Int × Int × Int × Int)) → Option ((List (Int × Int × Int × Int × Int)))
  | 0, _, _, _ => none
  | n + 1, p2, p3, p4 =>
    bif (decide (p3 < (p2.length : Int))) then
      bif ((decide ((0 : Int) ≤ p3)) && (decide (p3 < (p2.length : Int)))) then
      (f_laws_toIns ((p2.getD p3.toNat (0, 0, 0, 0, 0)).1) ((p2.getD p3.toNat (0, 0, 0, 0, 0)).2.1) ((p2.getD p3.toNat (0, 0, 0, 0, 0)).2.2.1) ((p2.getD p3.toNat (0, 0, 0, 0, 0)).2.2.2.1) ((p2.getD p3.toNat (0, 0, 0, 0, 0)).2.2.2.2)).bind fun y5 =>
      bif ((decide ((0 : Int) ≤ p3)) && (decide (p3 < (p4.length : Int)))) then
      (some ((p4.set p3.toNat (y5.1, y5.2.1, y5.2.2.1, y5.2.2.2.1, y5.2.2.2.2)) : List (Int × Int × Int × Int × Int))).bind fun z6 =>
      f_laws_toInsS.l0 n p2 (IntKind.wrap .i64 (p3 + (1 : Int))) z6
      else none
      else none
    else
      some p4
noncomputable def f_laws_toInsS (x0 : List (Int × Int × Int × Int × Int)) : Option ((List (Int × Int × Int × Int × Int))) :=
  bif (decide ((0 : Int) ≤ (x0.length : Int)) && Nat.ble (x0.length : Int).toNat 3518437208883) then
  (f_laws_toInsS.l0 N x0 0 (List.replicate (x0.length : Int).toNat (0, 0, 0, 0, 0))).bind fun r7 =>
  some r7
  else none
noncomputable def C97 : Con := ⟨[(.B, false, [(.sl R0)])], [(false, [(.sl R0)])], [(.sl R0)], [(.sl R0)], fun (p : (List (Int × Int × Int × Int × Int))) => f_laws_toInsS p⟩
noncomputable def f_laws_toInsS.l0.c : LoopCon := ⟨1000, 6, [0, 2, 3, 4], ⟨[(0, .bor none R0 []), (2, .nil (some R0)), (3, .ref 1000 [] none), (4, .int .i64 0)], [(1000, .row R0 [])], 1001⟩, [(.sl R0), (.int .i64), (.sl R0)], [⟨.exit 0, [2, 3], ⟨[(2, .nil (some R0)), (3, .ref 1000 [] none)], [(1000, .row R0 [])], 1001⟩, [(.sl R0)]⟩], fun (p : (List (Int × Int × Int × Int × Int)) × Int × (List (Int × Int × Int × Int × Int))) => f_laws_toInsS.l0 N p.1 p.2.1 p.2.2⟩
noncomputable abbrev K97 : Cons := [(26, C26)]
noncomputable abbrev L97 : List (Nat × Loops) := [(97, [(3, f_laws_toInsS.l0.c)])]
abbrev Q97 : List (Nat × List (Int × Nat) × Nat) := []
noncomputable abbrev X97 : Nat → Ctx := ctxOf tb K97 L97 Q97
theorem f_laws_toInsS.l0.ok : ∀ n p, (fun (p : (List (Int × Int × Int × Int × Int)) × Int × (List (Int × Int × Int × Int × Int))) => f_laws_toInsS.l0 n p.1 p.2.1 p.2.2) p = iterD (roundOf fs X97 6 97 3 false f_laws_toInsS.l0.c) n p :=
  iter_of (l := fun n => fun (p : (List (Int × Int × Int × Int × Int)) × Int × (List (Int × Int × Int × Int × Int))) => f_laws_toInsS.l0 n p.1 p.2.1 p.2.2) (fun _ => rfl) (fun n p => by kernel_rfl)
theorem E97 : ∀ x, funRun fs X97 6 97 C97 x = C97.fn x := fun x => by kernel_rfl
theorem B97 : ConB Try.prog 97 C97 := ConB.make FS MIX TY (cons := K97) (L := L97) (ptrs := Q97) ⟨S26, trivial⟩ trivial ⟨⟨⟨N, fun p => f_laws_toInsS.l0.ok N p⟩, trivial⟩, trivial⟩ rfl rfl E97
theorem S97 : ConS Try.prog 97 C97 := B97.call rfl
/-! laws.toBlock: function 46 -/
noncomputable def f_laws_toBlock (x0 : Int) (x1 : List (Int × Int × Int × Int × Int)) : Option (Int × (List (Int × Int × Int × Int × Int))) :=
  (f_laws_toInsS x1).bind fun y8 =>
  some (x0, y8)
noncomputable def C46 : Con := ⟨[(.B, true, [(.int .i64), (.sl R0)])], [(true, [(.int .i64), (.sl R0)])], [(.int .i64), (.sl R0)], [(.int .i64), (.sl R0)], fun (p : Int × (List (Int × Int × Int × Int × Int))) => f_laws_toBlock p.1 p.2⟩
noncomputable abbrev K46 : Cons := [(97, C97)]
noncomputable abbrev L46 : List (Nat × Loops) := []
abbrev Q46 : List (Nat × List (Int × Nat) × Nat) := []
noncomputable abbrev X46 : Nat → Ctx := ctxOf tb K46 L46 Q46
theorem E46 : ∀ x, funRun fs X46 6 46 C46 x = C46.fn x := fun x => by kernel_rfl
theorem B46 : ConB Try.prog 46 C46 := ConB.make FS MIX TY (cons := K46) (L := L46) (ptrs := Q46) ⟨S97, trivial⟩ trivial trivial rfl rfl E46
theorem S46 : ConS Try.prog 46 C46 := B46.call rfl
/-! spec.l1In: function 69 -/
noncomputable def f_spec_l1In (x0 : Int) (x1 : Int) (x2 : Int) : Option (Bool) :=
  bif (decide (x1 ≤ x0)) then
    some (decide (x0 ≤ x2))
  else
    some false
noncomputable def C69 : Con := ⟨[(.B, false, [(.int .i64)]), (.B, false, [(.int .i64)]), (.B, false, [(.int .i64)])], [(false, [.bool])], [(.int .i64), (.int .i64), (.int .i64)], [.bool], fun (p : Int × Int × Int) => f_spec_l1In p.1 p.2.1 p.2.2⟩
noncomputable abbrev K69 : Cons := []
noncomputable abbrev L69 : List (Nat × Loops) := []
abbrev Q69 : List (Nat × List (Int × Nat) × Nat) := []
noncomputable abbrev X69 : Nat → Ctx := ctxOf tb K69 L69 Q69
theorem E69 : ∀ x, funRun fs X69 6 69 C69 x = C69.fn x := fun x => by kernel_rfl
theorem B69 : ConB Try.prog 69 C69 := ConB.make FS MIX TY (cons := K69) (L := L69) (ptrs := Q69) trivial trivial trivial rfl rfl E69
theorem S69 : ConS Try.prog 69 C69 := B69.call rfl
/-! spec.l8Has: function 115 -/
noncomputable def f_spec_l8Has (x0 : Int) : Option (Int) :=
  (f_spec_l1In x0 1 10).bind fun y9 =>
  bif (!y9) then
    some 0
  else
    bif ((decide ((0 : Int) ≤ x0)) && (decide (x0 < (([0, 9, 7, 11, 11, 14, 15, 10, 8, 0, 7] : List Int).length : Int)))) then
    some (([0, 9, 7, 11, 11, 14, 15, 10, 8, 0, 7] : List Int).getD x0.toNat 0)
    else none
noncomputable def C115 : Con := ⟨[(.B, false, [(.int .i64)])], [(false, [(.int .i64)])], [(.int .i64)], [(.int .i64)], fun (p : Int) => f_spec_l8Has p⟩
noncomputable abbrev K115 : Cons := [(69, C69)]
noncomputable abbrev L115 : List (Nat × Loops) := []
abbrev Q115 : List (Nat × List (Int × Nat) × Nat) := []
noncomputable abbrev X115 : Nat → Ctx := ctxOf tb K115 L115 Q115
theorem E115 : ∀ x, funRun fs X115 6 115 C115 x = C115.fn x := fun x => by kernel_rfl
theorem B115 : ConB Try.prog 115 C115 := ConB.make FS MIX TY (cons := K115) (L := L115) (ptrs := Q115) ⟨S69, trivial⟩ trivial trivial rfl rfl E115
theorem S115 : ConS Try.prog 115 C115 := B115.call rfl
/-! spec.l8Field: function 116 -/
noncomputable def f_spec_l8Field (x0 : Int) (x1 : Int) (x2 : Bool) : Option (Bool) :=
  (f_spec_l1In x0 0 x1).bind fun y10 =>
  bif y10 then
    bif x2 then
      some true
    else
      some (decide (x0 = (0 : Int)))
  else
    some false
noncomputable def C116 : Con := ⟨[(.B, false, [(.int .i64)]), (.B, false, [(.int .i64)]), (.B, false, [.bool])], [(false, [.bool])], [(.int .i64), (.int .i64), .bool], [.bool], fun (p : Int × Int × Bool) => f_spec_l8Field p.1 p.2.1 p.2.2⟩
noncomputable abbrev K116 : Cons := [(69, C69)]
noncomputable abbrev L116 : List (Nat × Loops) := []
abbrev Q116 : List (Nat × List (Int × Nat) × Nat) := []
noncomputable abbrev X116 : Nat → Ctx := ctxOf tb K116 L116 Q116
theorem E116 : ∀ x, funRun fs X116 6 116 C116 x = C116.fn x := fun x => by kernel_rfl
theorem B116 : ConB Try.prog 116 C116 := ConB.make FS MIX TY (cons := K116) (L := L116) (ptrs := Q116) ⟨S69, trivial⟩ trivial trivial rfl rfl E116
theorem S116 : ConS Try.prog 116 C116 := B116.call rfl
/-! spec.InsOk: function 76 -/
noncomputable def f_spec_InsOk (x0 : Int) (x1 : Int) (x2 : Int) (x3 : Int) (x4 : Int) : Option (Bool) :=
  (f_spec_l8Has x0).bind fun y11 =>
  (f_spec_l1In x0 1 10).bind fun y12 =>
  bif y12 then
    (f_spec_l8Field x1 3 (!(decide ((bitI .and .i64 y11 (1 : Int)) = (0 : Int))))).bind fun y13 =>
    bif y13 then
      (f_spec_l8Field x2 3 (!(decide ((bitI .and .i64 y11 (2 : Int)) = (0 : Int))))).bind fun y14 =>
      bif y14 then
        (f_spec_l8Field x3 3 (!(decide ((bitI .and .i64 y11 (4 : Int)) = (0 : Int))))).bind fun y15 =>
        bif y15 then
          (f_spec_l8Field x4 63 (!(decide ((bitI .and .i64 y11 (8 : Int)) = (0 : Int))))).bind fun y16 =>
          some y16
        else
          some false
      else
        some false
    else
      some false
  else
    some false
noncomputable def C76 : Con := ⟨[(.B, true, [(.int .i64), (.int .i64), (.int .i64), (.int .i64), (.int .i64)])], [(false, [.bool])], [(.int .i64), (.int .i64), (.int .i64), (.int .i64), (.int .i64)], [.bool], fun (p : Int × Int × Int × Int × Int) => f_spec_InsOk p.1 p.2.1 p.2.2.1 p.2.2.2.1 p.2.2.2.2⟩
noncomputable abbrev K76 : Cons := [(69, C69), (115, C115), (116, C116)]
noncomputable abbrev L76 : List (Nat × Loops) := []
abbrev Q76 : List (Nat × List (Int × Nat) × Nat) := []
noncomputable abbrev X76 : Nat → Ctx := ctxOf tb K76 L76 Q76
theorem E76 : ∀ x, funRun fs X76 6 76 C76 x = C76.fn x := fun x => by kernel_rfl
theorem B76 : ConB Try.prog 76 C76 := ConB.make FS MIX TY (cons := K76) (L := L76) (ptrs := Q76) ⟨S69, S115, S116, trivial⟩ trivial trivial rfl rfl E76
theorem S76 : ConS Try.prog 76 C76 := B76.call rfl
/-! spec.Ends: function 96 -/
noncomputable def f_spec_Ends (x0 : Int) (x1 : Int) (x2 : Int) (x3 : Int) (x4 : Int) : Option (Bool) :=
  (f_spec_InsOk x0 x1 x2 x3 x4).bind fun y17 =>
  bif (!y17) then
    some true
  else
    bif (decide (x0 = (7 : Int))) then
      some true
    else
      bif (decide (x0 = (8 : Int))) then
        some true
      else
        some (decide (x0 = (9 : Int)))
noncomputable def C96 : Con := ⟨[(.B, true, [(.int .i64), (.int .i64), (.int .i64), (.int .i64), (.int .i64)])], [(false, [.bool])], [(.int .i64), (.int .i64), (.int .i64), (.int .i64), (.int .i64)], [.bool], fun (p : Int × Int × Int × Int × Int) => f_spec_Ends p.1 p.2.1 p.2.2.1 p.2.2.2.1 p.2.2.2.2⟩
noncomputable abbrev K96 : Cons := [(76, C76)]
noncomputable abbrev L96 : List (Nat × Loops) := []
abbrev Q96 : List (Nat × List (Int × Nat) × Nat) := []
noncomputable abbrev X96 : Nat → Ctx := ctxOf tb K96 L96 Q96
theorem E96 : ∀ x, funRun fs X96 6 96 C96 x = C96.fn x := fun x => by kernel_rfl
theorem B96 : ConB Try.prog 96 C96 := ConB.make FS MIX TY (cons := K96) (L := L96) (ptrs := Q96) ⟨S76, trivial⟩ trivial trivial rfl rfl E96
theorem S96 : ConS Try.prog 96 C96 := B96.call rfl
/-! spec.BlockOk: function 45 -/
noncomputable def f_spec_BlockOk.l0 : Nat → Bool → Int → Int → (List (Int × Int × Int × Int × Int)) → Option ((Bool) ⊕ (Bool))
  | 0, _, _, _, _ => none
  | n + 1, p20, p21, p22, p23 =>
    bif (decide (p21 < (p23.length : Int))) then
      bif ((decide ((0 : Int) ≤ p21)) && (decide (p21 < (p23.length : Int)))) then
      (f_spec_InsOk ((p23.getD p21.toNat (0, 0, 0, 0, 0)).1) ((p23.getD p21.toNat (0, 0, 0, 0, 0)).2.1) ((p23.getD p21.toNat (0, 0, 0, 0, 0)).2.2.1) ((p23.getD p21.toNat (0, 0, 0, 0, 0)).2.2.2.1) ((p23.getD p21.toNat (0, 0, 0, 0, 0)).2.2.2.2)).bind fun y24 =>
      bif (!y24) then
        bif (!((decide (((p23.getD p21.toNat (0, 0, 0, 0, 0)).1) = (0 : Int))) && ((decide (((p23.getD p21.toNat (0, 0, 0, 0, 0)).2.1) = (0 : Int))) && ((decide (((p23.getD p21.toNat (0, 0, 0, 0, 0)).2.2.1) = (0 : Int))) && ((decide (((p23.getD p21.toNat (0, 0, 0, 0, 0)).2.2.2.1) = (0 : Int))) && (decide (((p23.getD p21.toNat (0, 0, 0, 0, 0)).2.2.2.2) = (0 : Int)))))))) then
          some (.inl false)
        else
          bif (decide (p21 < (IntKind.wrap .i64 ((p23.length : Int) - (1 : Int))))) then
            (f_spec_Ends ((p23.getD p21.toNat (0, 0, 0, 0, 0)).1) ((p23.getD p21.toNat (0, 0, 0, 0, 0)).2.1) ((p23.getD p21.toNat (0, 0, 0, 0, 0)).2.2.1) ((p23.getD p21.toNat (0, 0, 0, 0, 0)).2.2.2.1) ((p23.getD p21.toNat (0, 0, 0, 0, 0)).2.2.2.2)).bind fun y25 =>
            bif y25 then
              some (.inl false)
            else
              f_spec_BlockOk.l0 n p20 (IntKind.wrap .i64 (p21 + (1 : Int))) p22 p23
          else
            f_spec_BlockOk.l0 n p20 (IntKind.wrap .i64 (p21 + (1 : Int))) p22 p23
      else
        bif (decide (p21 < (IntKind.wrap .i64 ((p23.length : Int) - (1 : Int))))) then
          (f_spec_Ends ((p23.getD p21.toNat (0, 0, 0, 0, 0)).1) ((p23.getD p21.toNat (0, 0, 0, 0, 0)).2.1) ((p23.getD p21.toNat (0, 0, 0, 0, 0)).2.2.1) ((p23.getD p21.toNat (0, 0, 0, 0, 0)).2.2.2.1) ((p23.getD p21.toNat (0, 0, 0, 0, 0)).2.2.2.2)).bind fun y26 =>
          bif y26 then
            some (.inl false)
          else
            f_spec_BlockOk.l0 n p20 (IntKind.wrap .i64 (p21 + (1 : Int))) p22 p23
        else
          f_spec_BlockOk.l0 n p20 (IntKind.wrap .i64 (p21 + (1 : Int))) p22 p23
      else none
    else
      some (.inr p20)
noncomputable def f_spec_BlockOk (x0 : Int) (x1 : List (Int × Int × Int × Int × Int)) : Option (Bool) :=
  (f_spec_l1In x0 0 23).bind fun y18 =>
  bif (!y18) then
    some false
  else
    (f_spec_l1In (x1.length : Int) 1 (IntKind.wrap .i64 ((4 : Int) - (Int.tmod x0 (4 : Int))))).bind fun y19 =>
    bif (!y19) then
      some false
    else
      (f_spec_BlockOk.l0 N false 0 x0 x1).bind fun r27 =>
      cs r27 (fun a28 =>
        some a28) (fun b29 =>
        some true)
noncomputable def C45 : Con := ⟨[(.B, true, [(.int .i64), (.sl R0)])], [(false, [.bool])], [(.int .i64), (.sl R0)], [.bool], fun (p : Int × (List (Int × Int × Int × Int × Int))) => f_spec_BlockOk p.1 p.2⟩
noncomputable def f_spec_BlockOk.l0.c : LoopCon := ⟨1000, 6, [1, 2, 3], ⟨[(1, .ptr 1000 0), (2, .bool false), (3, .int .i64 0)], [(1000, .box [.int .i64 0, .bor none R0 []])], 1001⟩, [.bool, (.int .i64), (.int .i64), (.sl R0)], [⟨.ret, [2], ⟨[(2, .bool false)], [], 1000⟩, [.bool]⟩, ⟨.exit 0, [2], ⟨[(2, .bool false)], [], 1000⟩, [.bool]⟩], fun (p : Bool × Int × Int × (List (Int × Int × Int × Int × Int))) => f_spec_BlockOk.l0 N p.1 p.2.1 p.2.2.1 p.2.2.2⟩
noncomputable abbrev K45 : Cons := [(69, C69), (76, C76), (96, C96)]
noncomputable abbrev L45 : List (Nat × Loops) := [(45, [(4, f_spec_BlockOk.l0.c)])]
abbrev Q45 : List (Nat × List (Int × Nat) × Nat) := []
noncomputable abbrev X45 : Nat → Ctx := ctxOf tb K45 L45 Q45
theorem f_spec_BlockOk.l0.ok : ∀ n p, (fun (p : Bool × Int × Int × (List (Int × Int × Int × Int × Int))) => f_spec_BlockOk.l0 n p.1 p.2.1 p.2.2.1 p.2.2.2) p = iterD (roundOf fs X45 6 45 4 false f_spec_BlockOk.l0.c) n p :=
  iter_of (l := fun n => fun (p : Bool × Int × Int × (List (Int × Int × Int × Int × Int))) => f_spec_BlockOk.l0 n p.1 p.2.1 p.2.2.1 p.2.2.2) (fun _ => rfl) (fun n p => by kernel_rfl)
theorem E45 : ∀ x, funRun fs X45 6 45 C45 x = C45.fn x := fun x => by kernel_rfl
theorem B45 : ConB Try.prog 45 C45 := ConB.make FS MIX TY (cons := K45) (L := L45) (ptrs := Q45) ⟨S69, S76, S96, trivial⟩ trivial ⟨⟨⟨N, fun p => f_spec_BlockOk.l0.ok N p⟩, trivial⟩, trivial⟩ rfl rfl E45
theorem S45 : ConS Try.prog 45 C45 := B45.call rfl
/-! spec.PageOf: function 57 -/
noncomputable def f_spec_PageOf (x0 : Int) (x1 : List (Int × Int × Int × Int × Int)) : Option (Int) :=
  (f_spec_BlockOk x0 x1).bind fun y30 =>
  bif (!y30) then
    some (-1)
  else
    some (IntKind.wrap .i64 (Int.tdiv x0 (4 : Int)))
noncomputable def C57 : Con := ⟨[(.B, true, [(.int .i64), (.sl R0)])], [(false, [(.int .i64)])], [(.int .i64), (.sl R0)], [(.int .i64)], fun (p : Int × (List (Int × Int × Int × Int × Int))) => f_spec_PageOf p.1 p.2⟩
noncomputable abbrev K57 : Cons := [(45, C45)]
noncomputable abbrev L57 : List (Nat × Loops) := []
abbrev Q57 : List (Nat × List (Int × Nat) × Nat) := []
noncomputable abbrev X57 : Nat → Ctx := ctxOf tb K57 L57 Q57
theorem E57 : ∀ x, funRun fs X57 6 57 C57 x = C57.fn x := fun x => by kernel_rfl
theorem B57 : ConB Try.prog 57 C57 := ConB.make FS MIX TY (cons := K57) (L := L57) (ptrs := Q57) ⟨S45, trivial⟩ trivial trivial rfl rfl E57
theorem S57 : ConS Try.prog 57 C57 := B57.call rfl
/-! impl.from: function 71 -/
noncomputable def f_impl_from (x0 : Int) (x1 : Int) (x2 : Int) : Option (Bool) :=
  bif (decide (x1 ≤ x0)) then
    some (decide (x0 ≤ x2))
  else
    some false
noncomputable def C71 : Con := ⟨[(.B, false, [(.int .i64)]), (.B, false, [(.int .i64)]), (.B, false, [(.int .i64)])], [(false, [.bool])], [(.int .i64), (.int .i64), (.int .i64)], [.bool], fun (p : Int × Int × Int) => f_impl_from p.1 p.2.1 p.2.2⟩
noncomputable abbrev K71 : Cons := []
noncomputable abbrev L71 : List (Nat × Loops) := []
abbrev Q71 : List (Nat × List (Int × Nat) × Nat) := []
noncomputable abbrev X71 : Nat → Ctx := ctxOf tb K71 L71 Q71
theorem E71 : ∀ x, funRun fs X71 6 71 C71 x = C71.fn x := fun x => by kernel_rfl
theorem B71 : ConB Try.prog 71 C71 := ConB.make FS MIX TY (cons := K71) (L := L71) (ptrs := Q71) trivial trivial trivial rfl rfl E71
theorem S71 : ConS Try.prog 71 C71 := B71.call rfl
/-! impl.isCell: function 98 -/
noncomputable def f_impl_isCell (x0 : Int) : Option (Bool) :=
  (f_impl_from x0 0 23).bind fun y31 =>
  some y31
noncomputable def C98 : Con := ⟨[(.B, false, [(.int .i64)])], [(false, [.bool])], [(.int .i64)], [.bool], fun (p : Int) => f_impl_isCell p⟩
noncomputable abbrev K98 : Cons := [(71, C71)]
noncomputable abbrev L98 : List (Nat × Loops) := []
abbrev Q98 : List (Nat × List (Int × Nat) × Nat) := []
noncomputable abbrev X98 : Nat → Ctx := ctxOf tb K98 L98 Q98
theorem E98 : ∀ x, funRun fs X98 6 98 C98 x = C98.fn x := fun x => by kernel_rfl
theorem B98 : ConB Try.prog 98 C98 := ConB.make FS MIX TY (cons := K98) (L := L98) (ptrs := Q98) ⟨S71, trivial⟩ trivial trivial rfl rfl E98
theorem S98 : ConS Try.prog 98 C98 := B98.call rfl
/-! impl.form: function 117 -/
noncomputable def f_impl_form (x0 : Int) : Option (ByteArray × Bool) :=
  bif (decide (x0 = (1 : Int))) then
    some ((⟨#[82, 78]⟩ : ByteArray), true)
  else
    bif (decide (x0 = (2 : Int))) then
      some ((⟨#[82, 65, 66]⟩ : ByteArray), true)
    else
      bif (decide (x0 = (10 : Int))) then
        some ((⟨#[82, 65, 66]⟩ : ByteArray), true)
      else
        bif (decide (x0 = (3 : Int))) then
          some ((⟨#[82, 65, 78]⟩ : ByteArray), true)
        else
          bif (decide (x0 = (4 : Int))) then
            some ((⟨#[82, 65, 78]⟩ : ByteArray), true)
          else
            bif (decide (x0 = (5 : Int))) then
              some ((⟨#[65, 66, 78]⟩ : ByteArray), true)
            else
              bif (decide (x0 = (6 : Int))) then
                some ((⟨#[82, 65, 66, 78]⟩ : ByteArray), true)
              else
                bif (decide (x0 = (7 : Int))) then
                  some ((⟨#[65, 78]⟩ : ByteArray), true)
                else
                  bif (decide (x0 = (8 : Int))) then
                    some ((⟨#[78]⟩ : ByteArray), true)
                  else
                    bif (decide (x0 = (9 : Int))) then
                      some ((⟨#[]⟩ : ByteArray), true)
                    else
                      some ((⟨#[]⟩ : ByteArray), false)
noncomputable def C117 : Con := ⟨[(.B, false, [(.int .i64)])], [(false, [.str]), (false, [.bool])], [(.int .i64)], [.str, .bool], fun (p : Int) => f_impl_form p⟩
noncomputable abbrev K117 : Cons := []
noncomputable abbrev L117 : List (Nat × Loops) := []
abbrev Q117 : List (Nat × List (Int × Nat) × Nat) := []
noncomputable abbrev X117 : Nat → Ctx := ctxOf tb K117 L117 Q117
theorem E117 : ∀ x, funRun fs X117 6 117 C117 x = C117.fn x := fun x => by kernel_rfl
theorem B117 : ConB Try.prog 117 C117 := ConB.make FS MIX TY (cons := K117) (L := L117) (ptrs := Q117) trivial trivial trivial rfl rfl E117
theorem S117 : ConS Try.prog 117 C117 := B117.call rfl
/-! impl.InsOk: function 78 -/
noncomputable def f_impl_InsOk.l0 : Nat → Bool → ByteArray → Bool → Int → Int → Int → Int → Int → Int → Int → Int → Int → Int → Int → Int → Option (Bool × Bool × Int × Int × Int × Int × Int × Int × Int × Int × Int × Int)
  | 0, _, _, _, _, _, _, _, _, _, _, _, _, _, _, _ => none
  | n + 1, p33, p34, p35, p36, p37, p38, p39, p40, p41, p42, p43, p44, p45, p46, p47 =>
    bif (decide (p37 < p36)) then
      bif ((decide ((0 : Int) ≤ p37)) && (decide (p37 < (p34.size : Int)))) then
      bif (decide (((p34.data.getD p37.toNat 0).toNat : Int) = (82 : Int))) then
        bif ((decide ((0 : Int) ≤ p37)) && (decide (p37 < (p34.size : Int)))) then
        bif (decide (((p34.data.getD p37.toNat 0).toNat : Int) = (82 : Int))) then
          f_impl_InsOk.l0 n p33 p34 p35 p36 (IntKind.wrap .i64 (p37 + (1 : Int))) p38 p39 p40 p41 p42 p43 p39 p45 p46 p47
        else
          bif (decide (((p34.data.getD p37.toNat 0).toNat : Int) = (65 : Int))) then
            f_impl_InsOk.l0 n p33 p34 p35 p36 (IntKind.wrap .i64 (p37 + (1 : Int))) p38 p39 p40 p41 p42 p43 p40 p45 p46 p47
          else
            bif (decide (((p34.data.getD p37.toNat 0).toNat : Int) = (66 : Int))) then
              f_impl_InsOk.l0 n p33 p34 p35 p36 (IntKind.wrap .i64 (p37 + (1 : Int))) p38 p39 p40 p41 p42 p43 p41 p45 p46 p47
            else
              f_impl_InsOk.l0 n p33 p34 p35 p36 (IntKind.wrap .i64 (p37 + (1 : Int))) p38 p39 p40 p41 p42 p43 p42 p45 p46 p47
        else none
      else
        bif (decide (((p34.data.getD p37.toNat 0).toNat : Int) = (65 : Int))) then
          bif ((decide ((0 : Int) ≤ p37)) && (decide (p37 < (p34.size : Int)))) then
          bif (decide (((p34.data.getD p37.toNat 0).toNat : Int) = (82 : Int))) then
            f_impl_InsOk.l0 n p33 p34 p35 p36 (IntKind.wrap .i64 (p37 + (1 : Int))) p38 p39 p40 p41 p42 p43 p44 p39 p46 p47
          else
            bif (decide (((p34.data.getD p37.toNat 0).toNat : Int) = (65 : Int))) then
              f_impl_InsOk.l0 n p33 p34 p35 p36 (IntKind.wrap .i64 (p37 + (1 : Int))) p38 p39 p40 p41 p42 p43 p44 p40 p46 p47
            else
              bif (decide (((p34.data.getD p37.toNat 0).toNat : Int) = (66 : Int))) then
                f_impl_InsOk.l0 n p33 p34 p35 p36 (IntKind.wrap .i64 (p37 + (1 : Int))) p38 p39 p40 p41 p42 p43 p44 p41 p46 p47
              else
                f_impl_InsOk.l0 n p33 p34 p35 p36 (IntKind.wrap .i64 (p37 + (1 : Int))) p38 p39 p40 p41 p42 p43 p44 p42 p46 p47
          else none
        else
          bif (decide (((p34.data.getD p37.toNat 0).toNat : Int) = (66 : Int))) then
            bif ((decide ((0 : Int) ≤ p37)) && (decide (p37 < (p34.size : Int)))) then
            bif (decide (((p34.data.getD p37.toNat 0).toNat : Int) = (82 : Int))) then
              f_impl_InsOk.l0 n p33 p34 p35 p36 (IntKind.wrap .i64 (p37 + (1 : Int))) p38 p39 p40 p41 p42 p43 p44 p45 p39 p47
            else
              bif (decide (((p34.data.getD p37.toNat 0).toNat : Int) = (65 : Int))) then
                f_impl_InsOk.l0 n p33 p34 p35 p36 (IntKind.wrap .i64 (p37 + (1 : Int))) p38 p39 p40 p41 p42 p43 p44 p45 p40 p47
              else
                bif (decide (((p34.data.getD p37.toNat 0).toNat : Int) = (66 : Int))) then
                  f_impl_InsOk.l0 n p33 p34 p35 p36 (IntKind.wrap .i64 (p37 + (1 : Int))) p38 p39 p40 p41 p42 p43 p44 p45 p41 p47
                else
                  f_impl_InsOk.l0 n p33 p34 p35 p36 (IntKind.wrap .i64 (p37 + (1 : Int))) p38 p39 p40 p41 p42 p43 p44 p45 p42 p47
            else none
          else
            bif ((decide ((0 : Int) ≤ p37)) && (decide (p37 < (p34.size : Int)))) then
            bif (decide (((p34.data.getD p37.toNat 0).toNat : Int) = (82 : Int))) then
              f_impl_InsOk.l0 n p33 p34 p35 p36 (IntKind.wrap .i64 (p37 + (1 : Int))) p38 p39 p40 p41 p42 p43 p44 p45 p46 p39
            else
              bif (decide (((p34.data.getD p37.toNat 0).toNat : Int) = (65 : Int))) then
                f_impl_InsOk.l0 n p33 p34 p35 p36 (IntKind.wrap .i64 (p37 + (1 : Int))) p38 p39 p40 p41 p42 p43 p44 p45 p46 p40
              else
                bif (decide (((p34.data.getD p37.toNat 0).toNat : Int) = (66 : Int))) then
                  f_impl_InsOk.l0 n p33 p34 p35 p36 (IntKind.wrap .i64 (p37 + (1 : Int))) p38 p39 p40 p41 p42 p43 p44 p45 p46 p41
                else
                  f_impl_InsOk.l0 n p33 p34 p35 p36 (IntKind.wrap .i64 (p37 + (1 : Int))) p38 p39 p40 p41 p42 p43 p44 p45 p46 p42
            else none
      else none
    else
      some (p33, p35, p38, p39, p40, p41, p42, p43, p44, p45, p46, p47)
noncomputable def f_impl_InsOk (x0 : Int) (x1 : Int) (x2 : Int) (x3 : Int) (x4 : Int) : Option (Bool) :=
  (f_impl_form x0).bind fun y32 =>
  (f_impl_InsOk.l0 N false y32.1 y32.2 (y32.1.size : Int) 0 x0 x1 x2 x3 x4 x0 0 0 0 0).bind fun r48 =>
  bif r48.2.1 then
    bif ((decide (r48.2.2.2.2.2.2.2.1 = r48.2.2.1)) && ((decide (r48.2.2.2.2.2.2.2.2.1 = r48.2.2.2.1)) && ((decide (r48.2.2.2.2.2.2.2.2.2.1 = r48.2.2.2.2.1)) && ((decide (r48.2.2.2.2.2.2.2.2.2.2.1 = r48.2.2.2.2.2.1)) && (decide (r48.2.2.2.2.2.2.2.2.2.2.2 = r48.2.2.2.2.2.2.1)))))) then
      (f_impl_from r48.2.2.2.1 0 3).bind fun y49 =>
      bif y49 then
        (f_impl_from r48.2.2.2.2.1 0 3).bind fun y50 =>
        bif y50 then
          (f_impl_from r48.2.2.2.2.2.1 0 3).bind fun y51 =>
          bif y51 then
            (f_impl_from r48.2.2.2.2.2.2.1 0 63).bind fun y52 =>
            some y52
          else
            some false
        else
          some false
      else
        some false
    else
      some false
  else
    some false
noncomputable def C78 : Con := ⟨[(.B, true, [(.int .i64), (.int .i64), (.int .i64), (.int .i64), (.int .i64)])], [(false, [.bool])], [(.int .i64), (.int .i64), (.int .i64), (.int .i64), (.int .i64)], [.bool], fun (p : Int × Int × Int × Int × Int) => f_impl_InsOk p.1 p.2.1 p.2.2.1 p.2.2.2.1 p.2.2.2.2⟩
noncomputable def f_impl_InsOk.l0.c : LoopCon := ⟨1000, 6, [1, 2, 3, 4, 5, 17, 18], ⟨[(1, .ptr 1000 0), (2, .bool false), (3, .str ⟨#[]⟩), (4, .bool false), (5, .ptr 1001 0), (17, .int .i64 0), (18, .int .i64 0)], [(1000, .box [.int .i64 0, .int .i64 0, .int .i64 0, .int .i64 0, .int .i64 0]), (1001, .box [.int .i64 0, .int .i64 0, .int .i64 0, .int .i64 0, .int .i64 0])], 1002⟩, [.bool, .str, .bool, (.int .i64), (.int .i64), (.int .i64), (.int .i64), (.int .i64), (.int .i64), (.int .i64), (.int .i64), (.int .i64), (.int .i64), (.int .i64), (.int .i64)], [⟨.exit 0, [1, 2, 4, 5], ⟨[(1, .ptr 1000 0), (2, .bool false), (4, .bool false), (5, .ptr 1001 0)], [(1000, .box [.int .i64 0, .int .i64 0, .int .i64 0, .int .i64 0, .int .i64 0]), (1001, .box [.int .i64 0, .int .i64 0, .int .i64 0, .int .i64 0, .int .i64 0])], 1002⟩, [.bool, .bool, (.int .i64), (.int .i64), (.int .i64), (.int .i64), (.int .i64), (.int .i64), (.int .i64), (.int .i64), (.int .i64), (.int .i64)]⟩], fun (p : Bool × ByteArray × Bool × Int × Int × Int × Int × Int × Int × Int × Int × Int × Int × Int × Int) => f_impl_InsOk.l0 N p.1 p.2.1 p.2.2.1 p.2.2.2.1 p.2.2.2.2.1 p.2.2.2.2.2.1 p.2.2.2.2.2.2.1 p.2.2.2.2.2.2.2.1 p.2.2.2.2.2.2.2.2.1 p.2.2.2.2.2.2.2.2.2.1 p.2.2.2.2.2.2.2.2.2.2.1 p.2.2.2.2.2.2.2.2.2.2.2.1 p.2.2.2.2.2.2.2.2.2.2.2.2.1 p.2.2.2.2.2.2.2.2.2.2.2.2.2.1 p.2.2.2.2.2.2.2.2.2.2.2.2.2.2⟩
noncomputable abbrev K78 : Cons := [(71, C71), (117, C117)]
noncomputable abbrev L78 : List (Nat × Loops) := [(78, [(4, f_impl_InsOk.l0.c)])]
abbrev Q78 : List (Nat × List (Int × Nat) × Nat) := [(118, [(82, 1), (65, 2), (66, 3)], 4)]
noncomputable abbrev X78 : Nat → Ctx := ctxOf tb K78 L78 Q78
theorem f_impl_InsOk.l0.ok : ∀ n p, (fun (p : Bool × ByteArray × Bool × Int × Int × Int × Int × Int × Int × Int × Int × Int × Int × Int × Int) => f_impl_InsOk.l0 n p.1 p.2.1 p.2.2.1 p.2.2.2.1 p.2.2.2.2.1 p.2.2.2.2.2.1 p.2.2.2.2.2.2.1 p.2.2.2.2.2.2.2.1 p.2.2.2.2.2.2.2.2.1 p.2.2.2.2.2.2.2.2.2.1 p.2.2.2.2.2.2.2.2.2.2.1 p.2.2.2.2.2.2.2.2.2.2.2.1 p.2.2.2.2.2.2.2.2.2.2.2.2.1 p.2.2.2.2.2.2.2.2.2.2.2.2.2.1 p.2.2.2.2.2.2.2.2.2.2.2.2.2.2) p = iterD (roundOf fs X78 6 78 4 false f_impl_InsOk.l0.c) n p :=
  iter_of (l := fun n => fun (p : Bool × ByteArray × Bool × Int × Int × Int × Int × Int × Int × Int × Int × Int × Int × Int × Int) => f_impl_InsOk.l0 n p.1 p.2.1 p.2.2.1 p.2.2.2.1 p.2.2.2.2.1 p.2.2.2.2.2.1 p.2.2.2.2.2.2.1 p.2.2.2.2.2.2.2.1 p.2.2.2.2.2.2.2.2.1 p.2.2.2.2.2.2.2.2.2.1 p.2.2.2.2.2.2.2.2.2.2.1 p.2.2.2.2.2.2.2.2.2.2.2.1 p.2.2.2.2.2.2.2.2.2.2.2.2.1 p.2.2.2.2.2.2.2.2.2.2.2.2.2.1 p.2.2.2.2.2.2.2.2.2.2.2.2.2.2) (fun _ => rfl) (fun n p => by kernel_rfl)
theorem E78 : ∀ x, funRun fs X78 6 78 C78 x = C78.fn x := fun x => by kernel_rfl
theorem B78 : ConB Try.prog 78 C78 := ConB.make FS MIX TY (cons := K78) (L := L78) (ptrs := Q78) ⟨S71, S117, trivial⟩ ⟨PT118, trivial⟩ ⟨⟨⟨N, fun p => f_impl_InsOk.l0.ok N p⟩, trivial⟩, trivial⟩ rfl rfl E78
theorem S78 : ConS Try.prog 78 C78 := B78.call rfl
/-! impl.Ends: function 99 -/
noncomputable def f_impl_Ends (x0 : Int) (x1 : Int) (x2 : Int) (x3 : Int) (x4 : Int) : Option (Bool) :=
  (f_impl_InsOk x0 x1 x2 x3 x4).bind fun y53 =>
  bif (!y53) then
    some true
  else
    bif (decide (x0 = (7 : Int))) then
      some true
    else
      bif (decide (x0 = (8 : Int))) then
        some true
      else
        some (decide (x0 = (9 : Int)))
noncomputable def C99 : Con := ⟨[(.B, true, [(.int .i64), (.int .i64), (.int .i64), (.int .i64), (.int .i64)])], [(false, [.bool])], [(.int .i64), (.int .i64), (.int .i64), (.int .i64), (.int .i64)], [.bool], fun (p : Int × Int × Int × Int × Int) => f_impl_Ends p.1 p.2.1 p.2.2.1 p.2.2.2.1 p.2.2.2.2⟩
noncomputable abbrev K99 : Cons := [(78, C78)]
noncomputable abbrev L99 : List (Nat × Loops) := []
abbrev Q99 : List (Nat × List (Int × Nat) × Nat) := []
noncomputable abbrev X99 : Nat → Ctx := ctxOf tb K99 L99 Q99
theorem E99 : ∀ x, funRun fs X99 6 99 C99 x = C99.fn x := fun x => by kernel_rfl
theorem B99 : ConB Try.prog 99 C99 := ConB.make FS MIX TY (cons := K99) (L := L99) (ptrs := Q99) ⟨S78, trivial⟩ trivial trivial rfl rfl E99
theorem S99 : ConS Try.prog 99 C99 := B99.call rfl
/-! impl.BlockOk: function 47 -/
noncomputable def f_impl_BlockOk.l0 : Nat → Bool → (List (Int × Int × Int × Int × Int)) → Int → Int → Int → (List (Int × Int × Int × Int × Int)) → Option ((Bool) ⊕ (Bool))
  | 0, _, _, _, _, _, _ => none
  | n + 1, p56, p57, p58, p59, p60, p61 =>
    bif (decide (p59 < p58)) then
      bif ((decide ((0 : Int) ≤ p59)) && (decide (p59 < (p57.length : Int)))) then
      bif (!((decide (((p57.getD p59.toNat (0, 0, 0, 0, 0)).1) = (0 : Int))) && ((decide (((p57.getD p59.toNat (0, 0, 0, 0, 0)).2.1) = (0 : Int))) && ((decide (((p57.getD p59.toNat (0, 0, 0, 0, 0)).2.2.1) = (0 : Int))) && ((decide (((p57.getD p59.toNat (0, 0, 0, 0, 0)).2.2.2.1) = (0 : Int))) && (decide (((p57.getD p59.toNat (0, 0, 0, 0, 0)).2.2.2.2) = (0 : Int)))))))) then
        (f_impl_InsOk ((p57.getD p59.toNat (0, 0, 0, 0, 0)).1) ((p57.getD p59.toNat (0, 0, 0, 0, 0)).2.1) ((p57.getD p59.toNat (0, 0, 0, 0, 0)).2.2.1) ((p57.getD p59.toNat (0, 0, 0, 0, 0)).2.2.2.1) ((p57.getD p59.toNat (0, 0, 0, 0, 0)).2.2.2.2)).bind fun y62 =>
        bif (!y62) then
          some (.inl false)
        else
          (f_impl_Ends ((p57.getD p59.toNat (0, 0, 0, 0, 0)).1) ((p57.getD p59.toNat (0, 0, 0, 0, 0)).2.1) ((p57.getD p59.toNat (0, 0, 0, 0, 0)).2.2.1) ((p57.getD p59.toNat (0, 0, 0, 0, 0)).2.2.2.1) ((p57.getD p59.toNat (0, 0, 0, 0, 0)).2.2.2.2)).bind fun y63 =>
          bif y63 then
            bif (decide ((IntKind.wrap .i64 (p59 + (1 : Int))) < (p61.length : Int))) then
              some (.inl false)
            else
              f_impl_BlockOk.l0 n p56 p57 p58 (IntKind.wrap .i64 (p59 + (1 : Int))) p60 p61
          else
            f_impl_BlockOk.l0 n p56 p57 p58 (IntKind.wrap .i64 (p59 + (1 : Int))) p60 p61
      else
        (f_impl_Ends ((p57.getD p59.toNat (0, 0, 0, 0, 0)).1) ((p57.getD p59.toNat (0, 0, 0, 0, 0)).2.1) ((p57.getD p59.toNat (0, 0, 0, 0, 0)).2.2.1) ((p57.getD p59.toNat (0, 0, 0, 0, 0)).2.2.2.1) ((p57.getD p59.toNat (0, 0, 0, 0, 0)).2.2.2.2)).bind fun y64 =>
        bif y64 then
          bif (decide ((IntKind.wrap .i64 (p59 + (1 : Int))) < (p61.length : Int))) then
            some (.inl false)
          else
            f_impl_BlockOk.l0 n p56 p57 p58 (IntKind.wrap .i64 (p59 + (1 : Int))) p60 p61
        else
          f_impl_BlockOk.l0 n p56 p57 p58 (IntKind.wrap .i64 (p59 + (1 : Int))) p60 p61
      else none
    else
      some (.inr p56)
noncomputable def f_impl_BlockOk (x0 : Int) (x1 : List (Int × Int × Int × Int × Int)) : Option (Bool) :=
  (f_impl_isCell x0).bind fun y54 =>
  bif (!y54) then
    some false
  else
    (f_impl_from (x1.length : Int) 1 (bif (decide ((IntKind.wrap .i64 ((4 : Int) - (Int.tmod x0 (4 : Int)))) < (4 : Int))) then (IntKind.wrap .i64 ((4 : Int) - (Int.tmod x0 (4 : Int)))) else 4)).bind fun y55 =>
    bif (!y55) then
      some false
    else
      (f_impl_BlockOk.l0 N false x1 (x1.length : Int) 0 x0 x1).bind fun r65 =>
      cs r65 (fun a66 =>
        some a66) (fun b67 =>
        some true)
noncomputable def C47 : Con := ⟨[(.B, true, [(.int .i64), (.sl R0)])], [(false, [.bool])], [(.int .i64), (.sl R0)], [.bool], fun (p : Int × (List (Int × Int × Int × Int × Int))) => f_impl_BlockOk p.1 p.2⟩
noncomputable def f_impl_BlockOk.l0.c : LoopCon := ⟨1000, 6, [1, 2, 22, 23, 24], ⟨[(1, .ptr 1000 0), (2, .bool false), (22, .bor none R0 []), (23, .int .i64 0), (24, .int .i64 0)], [(1000, .box [.int .i64 0, .bor none R0 []])], 1001⟩, [.bool, (.sl R0), (.int .i64), (.int .i64), (.int .i64), (.sl R0)], [⟨.ret, [2], ⟨[(2, .bool false)], [], 1000⟩, [.bool]⟩, ⟨.exit 0, [2], ⟨[(2, .bool false)], [], 1000⟩, [.bool]⟩], fun (p : Bool × (List (Int × Int × Int × Int × Int)) × Int × Int × Int × (List (Int × Int × Int × Int × Int))) => f_impl_BlockOk.l0 N p.1 p.2.1 p.2.2.1 p.2.2.2.1 p.2.2.2.2.1 p.2.2.2.2.2⟩
noncomputable abbrev K47 : Cons := [(71, C71), (78, C78), (98, C98), (99, C99)]
noncomputable abbrev L47 : List (Nat × Loops) := [(47, [(4, f_impl_BlockOk.l0.c)])]
abbrev Q47 : List (Nat × List (Int × Nat) × Nat) := []
noncomputable abbrev X47 : Nat → Ctx := ctxOf tb K47 L47 Q47
theorem f_impl_BlockOk.l0.ok : ∀ n p, (fun (p : Bool × (List (Int × Int × Int × Int × Int)) × Int × Int × Int × (List (Int × Int × Int × Int × Int))) => f_impl_BlockOk.l0 n p.1 p.2.1 p.2.2.1 p.2.2.2.1 p.2.2.2.2.1 p.2.2.2.2.2) p = iterD (roundOf fs X47 6 47 4 false f_impl_BlockOk.l0.c) n p :=
  iter_of (l := fun n => fun (p : Bool × (List (Int × Int × Int × Int × Int)) × Int × Int × Int × (List (Int × Int × Int × Int × Int))) => f_impl_BlockOk.l0 n p.1 p.2.1 p.2.2.1 p.2.2.2.1 p.2.2.2.2.1 p.2.2.2.2.2) (fun _ => rfl) (fun n p => by kernel_rfl)
theorem E47 : ∀ x, funRun fs X47 6 47 C47 x = C47.fn x := fun x => by kernel_rfl
theorem B47 : ConB Try.prog 47 C47 := ConB.make FS MIX TY (cons := K47) (L := L47) (ptrs := Q47) ⟨S71, S78, S98, S99, trivial⟩ trivial ⟨⟨⟨N, fun p => f_impl_BlockOk.l0.ok N p⟩, trivial⟩, trivial⟩ rfl rfl E47
theorem S47 : ConS Try.prog 47 C47 := B47.call rfl
/-! impl.PageOf: function 58 -/
noncomputable def f_impl_PageOf (x0 : Int) (x1 : List (Int × Int × Int × Int × Int)) : Option (Int) :=
  (f_impl_BlockOk x0 x1).bind fun y68 =>
  bif (!y68) then
    some (-1)
  else
    some (IntKind.wrap .i64 (Int.tdiv x0 (4 : Int)))
noncomputable def C58 : Con := ⟨[(.B, true, [(.int .i64), (.sl R0)])], [(false, [(.int .i64)])], [(.int .i64), (.sl R0)], [(.int .i64)], fun (p : Int × (List (Int × Int × Int × Int × Int))) => f_impl_PageOf p.1 p.2⟩
noncomputable abbrev K58 : Cons := [(47, C47)]
noncomputable abbrev L58 : List (Nat × Loops) := []
abbrev Q58 : List (Nat × List (Int × Nat) × Nat) := []
noncomputable abbrev X58 : Nat → Ctx := ctxOf tb K58 L58 Q58
theorem E58 : ∀ x, funRun fs X58 6 58 C58 x = C58.fn x := fun x => by kernel_rfl
theorem B58 : ConB Try.prog 58 C58 := ConB.make FS MIX TY (cons := K58) (L := L58) (ptrs := Q58) ⟨S47, trivial⟩ trivial trivial rfl rfl E58
theorem S58 : ConS Try.prog 58 C58 := B58.call rfl
/-! laws.eqIns: function 56 -/
noncomputable def f_laws_eqIns (x0 : Int) (x1 : Int) (x2 : Int) (x3 : Int) (x4 : Int) (x5 : Int) (x6 : Int) (x7 : Int) (x8 : Int) (x9 : Int) : Option (Bool) :=
  bif (!(decide (x0 = x5))) then
    some false
  else
    bif (!(decide (x1 = x6))) then
      some false
    else
      bif (!(decide (x2 = x7))) then
        some false
      else
        bif (!(decide (x3 = x8))) then
          some false
        else
          bif (!(decide (x4 = x9))) then
            some false
          else
            some true
noncomputable def C56 : Con := ⟨[(.B, true, [(.int .i64), (.int .i64), (.int .i64), (.int .i64), (.int .i64)]), (.B, true, [(.int .i64), (.int .i64), (.int .i64), (.int .i64), (.int .i64)])], [(false, [.bool])], [(.int .i64), (.int .i64), (.int .i64), (.int .i64), (.int .i64), (.int .i64), (.int .i64), (.int .i64), (.int .i64), (.int .i64)], [.bool], fun (p : Int × Int × Int × Int × Int × Int × Int × Int × Int × Int) => f_laws_eqIns p.1 p.2.1 p.2.2.1 p.2.2.2.1 p.2.2.2.2.1 p.2.2.2.2.2.1 p.2.2.2.2.2.2.1 p.2.2.2.2.2.2.2.1 p.2.2.2.2.2.2.2.2.1 p.2.2.2.2.2.2.2.2.2⟩
noncomputable abbrev K56 : Cons := []
noncomputable abbrev L56 : List (Nat × Loops) := []
abbrev Q56 : List (Nat × List (Int × Nat) × Nat) := []
noncomputable abbrev X56 : Nat → Ctx := ctxOf tb K56 L56 Q56
theorem E56 : ∀ x, funRun fs X56 6 56 C56 x = C56.fn x := fun x => by kernel_rfl
theorem B56 : ConB Try.prog 56 C56 := ConB.make FS MIX TY (cons := K56) (L := L56) (ptrs := Q56) trivial trivial trivial rfl rfl E56
theorem S56 : ConS Try.prog 56 C56 := B56.call rfl
/-! laws.eqInsS: function 100 -/
noncomputable def f_laws_eqInsS.l0 : Nat → (List (Int × Int × Int × Int × Int)) → (List (Int × Int × Int × Int × Int)) → Bool → Int → Option ((Bool) ⊕ (Bool))
  | 0, _, _, _, _ => none
  | n + 1, p69, p70, p71, p72 =>
    bif (decide (p72 < (p69.length : Int))) then
      bif ((decide ((0 : Int) ≤ p72)) && (decide (p72 < (p69.length : Int)))) then
      bif ((decide ((0 : Int) ≤ p72)) && (decide (p72 < (p70.length : Int)))) then
      (f_laws_eqIns ((p69.getD p72.toNat (0, 0, 0, 0, 0)).1) ((p69.getD p72.toNat (0, 0, 0, 0, 0)).2.1) ((p69.getD p72.toNat (0, 0, 0, 0, 0)).2.2.1) ((p69.getD p72.toNat (0, 0, 0, 0, 0)).2.2.2.1) ((p69.getD p72.toNat (0, 0, 0, 0, 0)).2.2.2.2) ((p70.getD p72.toNat (0, 0, 0, 0, 0)).1) ((p70.getD p72.toNat (0, 0, 0, 0, 0)).2.1) ((p70.getD p72.toNat (0, 0, 0, 0, 0)).2.2.1) ((p70.getD p72.toNat (0, 0, 0, 0, 0)).2.2.2.1) ((p70.getD p72.toNat (0, 0, 0, 0, 0)).2.2.2.2)).bind fun y73 =>
      bif (!y73) then
        some (.inl false)
      else
        f_laws_eqInsS.l0 n p69 p70 p71 (IntKind.wrap .i64 (p72 + (1 : Int)))
      else none
      else none
    else
      some (.inr p71)
noncomputable def f_laws_eqInsS (x0 : List (Int × Int × Int × Int × Int)) (x1 : List (Int × Int × Int × Int × Int)) : Option (Bool) :=
  bif (!(decide ((x0.length : Int) = (x1.length : Int)))) then
    some false
  else
    (f_laws_eqInsS.l0 N x0 x1 false 0).bind fun r74 =>
    cs r74 (fun a75 =>
      some a75) (fun b76 =>
      some true)
noncomputable def C100 : Con := ⟨[(.B, false, [(.sl R0)]), (.B, false, [(.sl R0)])], [(false, [.bool])], [(.sl R0), (.sl R0)], [.bool], fun (p : (List (Int × Int × Int × Int × Int)) × (List (Int × Int × Int × Int × Int))) => f_laws_eqInsS p.1 p.2⟩
noncomputable def f_laws_eqInsS.l0.c : LoopCon := ⟨1000, 6, [0, 1, 4, 5], ⟨[(0, .bor none R0 []), (1, .bor none R0 []), (4, .bool false), (5, .int .i64 0)], [], 1000⟩, [(.sl R0), (.sl R0), .bool, (.int .i64)], [⟨.ret, [4], ⟨[(4, .bool false)], [], 1000⟩, [.bool]⟩, ⟨.exit 0, [4], ⟨[(4, .bool false)], [], 1000⟩, [.bool]⟩], fun (p : (List (Int × Int × Int × Int × Int)) × (List (Int × Int × Int × Int × Int)) × Bool × Int) => f_laws_eqInsS.l0 N p.1 p.2.1 p.2.2.1 p.2.2.2⟩
noncomputable abbrev K100 : Cons := [(56, C56)]
noncomputable abbrev L100 : List (Nat × Loops) := [(100, [(4, f_laws_eqInsS.l0.c)])]
abbrev Q100 : List (Nat × List (Int × Nat) × Nat) := []
noncomputable abbrev X100 : Nat → Ctx := ctxOf tb K100 L100 Q100
theorem f_laws_eqInsS.l0.ok : ∀ n p, (fun (p : (List (Int × Int × Int × Int × Int)) × (List (Int × Int × Int × Int × Int)) × Bool × Int) => f_laws_eqInsS.l0 n p.1 p.2.1 p.2.2.1 p.2.2.2) p = iterD (roundOf fs X100 6 100 4 false f_laws_eqInsS.l0.c) n p :=
  iter_of (l := fun n => fun (p : (List (Int × Int × Int × Int × Int)) × (List (Int × Int × Int × Int × Int)) × Bool × Int) => f_laws_eqInsS.l0 n p.1 p.2.1 p.2.2.1 p.2.2.2) (fun _ => rfl) (fun n p => by kernel_rfl)
theorem E100 : ∀ x, funRun fs X100 6 100 C100 x = C100.fn x := fun x => by kernel_rfl
theorem B100 : ConB Try.prog 100 C100 := ConB.make FS MIX TY (cons := K100) (L := L100) (ptrs := Q100) ⟨S56, trivial⟩ trivial ⟨⟨⟨N, fun p => f_laws_eqInsS.l0.ok N p⟩, trivial⟩, trivial⟩ rfl rfl E100
theorem S100 : ConS Try.prog 100 C100 := B100.call rfl
/-! laws.eqBlock: function 48 -/
noncomputable def f_laws_eqBlock (x0 : Int) (x1 : List (Int × Int × Int × Int × Int)) (x2 : Int) (x3 : List (Int × Int × Int × Int × Int)) : Option (Bool) :=
  bif (!(decide (x0 = x2))) then
    some false
  else
    (f_laws_eqInsS x1 x3).bind fun y77 =>
    bif (!y77) then
      some false
    else
      some true
noncomputable def C48 : Con := ⟨[(.B, true, [(.int .i64), (.sl R0)]), (.B, true, [(.int .i64), (.sl R0)])], [(false, [.bool])], [(.int .i64), (.sl R0), (.int .i64), (.sl R0)], [.bool], fun (p : Int × (List (Int × Int × Int × Int × Int)) × Int × (List (Int × Int × Int × Int × Int))) => f_laws_eqBlock p.1 p.2.1 p.2.2.1 p.2.2.2⟩
noncomputable abbrev K48 : Cons := [(100, C100)]
noncomputable abbrev L48 : List (Nat × Loops) := []
abbrev Q48 : List (Nat × List (Int × Nat) × Nat) := []
noncomputable abbrev X48 : Nat → Ctx := ctxOf tb K48 L48 Q48
theorem E48 : ∀ x, funRun fs X48 6 48 C48 x = C48.fn x := fun x => by kernel_rfl
theorem B48 : ConB Try.prog 48 C48 := ConB.make FS MIX TY (cons := K48) (L := L48) (ptrs := Q48) ⟨S100, trivial⟩ trivial trivial rfl rfl E48
theorem S48 : ConS Try.prog 48 C48 := B48.call rfl
/-! laws.FnExactPageOf: function 12 -/
noncomputable def f_laws_FnExactPageOf (x0 : Int) (x1 : List (Int × Int × Int × Int × Int)) : Option (Bool) :=
  (f_laws_szBlock x0 x1 1048576).bind fun y78 =>
  bif (decide (y78 < (0 : Int))) then
    some true
  else
    (f_laws_toBlock x0 x1).bind fun y79 =>
    (f_spec_PageOf y79.1 y79.2).bind fun y80 =>
    (f_laws_toBlock x0 x1).bind fun y81 =>
    (f_impl_PageOf y81.1 y81.2).bind fun y82 =>
    bif (!(decide (y82 = y80))) then
      some false
    else
      (f_laws_toBlock x0 x1).bind fun y83 =>
      (f_laws_eqBlock y81.1 y81.2 y83.1 y83.2).bind fun y84 =>
      bif (!y84) then
        some false
      else
        some true
noncomputable def C12 : Con := ⟨[(.B, true, [(.int .i64), (.sl R0)])], [(false, [.bool])], [(.int .i64), (.sl R0)], [.bool], fun (p : Int × (List (Int × Int × Int × Int × Int))) => f_laws_FnExactPageOf p.1 p.2⟩
noncomputable abbrev K12 : Cons := [(44, C44), (46, C46), (48, C48), (57, C57), (58, C58)]
noncomputable abbrev L12 : List (Nat × Loops) := []
abbrev Q12 : List (Nat × List (Int × Nat) × Nat) := []
noncomputable abbrev X12 : Nat → Ctx := ctxOf tb K12 L12 Q12
theorem E12 : ∀ x, funRun fs X12 6 12 C12 x = C12.fn x := fun x => by kernel_rfl
theorem B12 : ConB Try.prog 12 C12 := ConB.make FS MIX TY (cons := K12) (L := L12) (ptrs := Q12) ⟨S44, S46, S48, S57, S58, trivial⟩ trivial trivial rfl rfl E12
theorem S12 : ConS Try.prog 12 C12 := B12.call rfl
/-- What is left: the plain law. -/
def Pure : Prop := ∀ x : Tup [(.int .i64), (.sl R0)], WfT [(.int .i64), (.sl R0)] x → C12.fn x = some (true : Bool)
end
end Go.Abs
