import Derived.Test.YtimpkielhcgfdaaProg
import Derived.Test.YtimpkielhcgfdaaAbsD
import Derived.KernelRfl
namespace Go.Abs
open Go.Proofs
set_option linter.unusedVariables false
set_option maxRecDepth 100000
noncomputable section
abbrev N : Nat := 1152921504606846976
abbrev R0 : RT := .one (.int .u8)
abbrev R1 : RT := .one (.int .i64)
abbrev R2 : RT := .cons (.int .i64) (.cons (.int .i64) (.cons (.int .i64) (.cons (.int .i64) (.one (.int .i64)))))
noncomputable def tb : Tb := [(0, ⟨false, [], [], 0, 0⟩),
  (3, ⟨false, [(.int .i64)], [], 0, 8⟩),
  (4, ⟨false, [.bool], [], 0, 1⟩),
  (5, ⟨false, [(.int .u8)], [], 0, 1⟩),
  (9, ⟨false, [.str], [], 0, 16⟩),
  (22, ⟨false, [(.sl R1)], [], 3, 24⟩),
  (35, ⟨false, [(.sl R0)], [], 5, 24⟩),
  (65, ⟨false, [], [], 0, 0⟩),
  (67, ⟨false, [(.sl R2)], [], 74, 24⟩),
  (69, ⟨true, [(.int .i64), (.sl R2)], [(0, 3), (1, 67)], 0, 32⟩),
  (74, ⟨true, [(.int .i64), (.int .i64), (.int .i64), (.int .i64), (.int .i64)], [(0, 3), (1, 3), (2, 3), (3, 3), (4, 3)], 0, 40⟩),
  (75, ⟨false, [], [], 0, 0⟩),
  (80, ⟨false, [], [], 0, 0⟩),
  (150, ⟨false, [], [], 0, 8⟩),
  (200, ⟨true, [(.sl R0), (.int .i64), (.int .i64)], [(0, 35), (1, 3), (2, 3)], 0, 40⟩),
  (204, ⟨false, [], [], 0, 0⟩),
  (207, ⟨false, [], [], 0, 0⟩),
  (209, ⟨false, [], [], 0, 8⟩),
  (223, ⟨false, [], [], 0, 8⟩)]
noncomputable def fsL : List (Nat × Func) := [(26, Try.f26), (107, Try.f107), (177, Try.f177), (109, Try.f109), (110, Try.f110), (97, Try.f97), (186, Try.f186), (183, Try.f183), (187, Try.f187), (131, Try.f131), (182, Try.f182), (141, Try.f141), (127, Try.f127), (47, Try.f47), (103, Try.f103), (128, Try.f128), (137, Try.f137), (184, Try.f184), (185, Try.f185), (130, Try.f130), (63, Try.f63), (129, Try.f129), (48, Try.f48), (133, Try.f133), (132, Try.f132), (51, Try.f51), (58, Try.f58), (136, Try.f136), (59, Try.f59), (60, Try.f60), (49, Try.f49), (53, Try.f53), (50, Try.f50), (61, Try.f61), (62, Try.f62), (52, Try.f52), (54, Try.f54), (9, Try.f9)]
noncomputable def fs : Nat → Option Func := getF fsL
theorem MIX : Try.prog.follows .mixedOrders = true := by kernel_rfl
theorem TY : tyCheck Try.prog tb = true := by kernel_rfl
theorem CAT : catCheck tb = true := by kernel_rfl
theorem FSP : FsP Try.prog fsL := ⟨Try.func26, Try.func107, Try.func177, Try.func109, Try.func110, Try.func97, Try.func186, Try.func183, Try.func187, Try.func131, Try.func182, Try.func141, Try.func127, Try.func47, Try.func103, Try.func128, Try.func137, Try.func184, Try.func185, Try.func130, Try.func63, Try.func129, Try.func48, Try.func133, Try.func132, Try.func51, Try.func58, Try.func136, Try.func59, Try.func60, Try.func49, Try.func53, Try.func50, Try.func61, Try.func62, Try.func52, Try.func54, Try.func9, trivial⟩
theorem FSC : (fsL.all fun p => fnChk p.2) = true := by kernel_rfl
theorem FS : FsS Try.prog fs := FsS.of FSP FSC
theorem PT185 : PtrS Try.prog 185 [(82, 1), (65, 2), (66, 3)] 4 := PtrS.make FS MIX TY (cons := []) (L := []) (ptrs := []) trivial trivial trivial rfl (fun l => by kernel_rfl)
/-! laws.big: function 26 -/
noncomputable def f_laws_big (x0 : List Int) : Option (Bool) :=
  some (decide ((1048576 : Int) < (x0.length : Int)))
noncomputable def C26 : Con := ⟨[(.B, false, [(.sl R0)])], [(false, [.bool])], [(.sl R0)], [.bool], fun (p : List Int) => f_laws_big p⟩
noncomputable abbrev K26 : Cons := []
noncomputable abbrev L26 : List (Nat × Loops) := []
abbrev Q26 : List (Nat × List (Int × Nat) × Nat) := []
noncomputable abbrev X26 : Nat → Ctx := ctxOf tb K26 L26 Q26
theorem E26 : ∀ x, funRun fs X26 6 26 C26 x = C26.fn x := fun x => by kernel_rfl
theorem B26 : ConB Try.prog 26 C26 := ConB.make FS MIX TY (cons := K26) (L := L26) (ptrs := Q26) trivial trivial trivial rfl rfl E26
theorem S26 : ConS Try.prog 26 C26 := B26.call rfl
/-! spec.l1Byte: function 177 -/
noncomputable def f_spec_l1Byte (x0 : List Int) (x1 : Int) (x2 : Int) : Option (Int × Int × Int) :=
  bif (decide (x1 < (x0.length : Int))) then
    bif ((decide ((0 : Int) ≤ x1)) && (decide (x1 < (x0.length : Int)))) then
    some ((bitI .and .i64 (IntKind.wrap .i64 ((bitI .and .i64 (bitI .xor .i64 (shrI .i64 (IntKind.wrap .i64 ((IntKind.wrap .i64 (x2 * (6364136223846793005 : Int))) + (1442695040888963407 : Int))) (33 : Int)) (shrI .i64 (IntKind.wrap .i64 ((IntKind.wrap .i64 (x2 * (6364136223846793005 : Int))) + (1442695040888963407 : Int))) (45 : Int))) (255 : Int)) + (IntKind.wrap .i64 ((x0.getD x1.toNat 0))))) (255 : Int)), (IntKind.wrap .i64 (x1 + (1 : Int))), (IntKind.wrap .i64 ((IntKind.wrap .i64 (x2 * (6364136223846793005 : Int))) + (1442695040888963407 : Int))))
    else none
  else
    some ((bitI .and .i64 (bitI .xor .i64 (shrI .i64 (IntKind.wrap .i64 ((IntKind.wrap .i64 (x2 * (6364136223846793005 : Int))) + (1442695040888963407 : Int))) (33 : Int)) (shrI .i64 (IntKind.wrap .i64 ((IntKind.wrap .i64 (x2 * (6364136223846793005 : Int))) + (1442695040888963407 : Int))) (45 : Int))) (255 : Int)), x1, (IntKind.wrap .i64 ((IntKind.wrap .i64 (x2 * (6364136223846793005 : Int))) + (1442695040888963407 : Int))))
noncomputable def C177 : Con := ⟨[(.P [false, true, true], false, [(.sl R0), (.int .i64), (.int .i64)])], [(false, [(.int .i64)])], [(.sl R0), (.int .i64), (.int .i64)], [(.int .i64), (.int .i64), (.int .i64)], fun (p : List Int × Int × Int) => f_spec_l1Byte p.1 p.2.1 p.2.2⟩
noncomputable abbrev K177 : Cons := []
noncomputable abbrev L177 : List (Nat × Loops) := []
abbrev Q177 : List (Nat × List (Int × Nat) × Nat) := []
noncomputable abbrev X177 : Nat → Ctx := ctxOf tb K177 L177 Q177
theorem E177 : ∀ x, funG fs X177 6 177 C177 x = C177.fn x := fun x => by kernel_rfl
theorem B177 : ConG Try.prog 177 C177 := ConG.make FS MIX TY (cons := K177) (L := L177) (ptrs := Q177) trivial trivial trivial rfl (by kernel_rfl) E177
theorem S177 : ConS Try.prog 177 C177 := B177.call (by kernel_rfl)
/-! spec.l1Below: function 109 -/
noncomputable def f_spec_l1Below (x0 : List Int) (x1 : Int) (x2 : Int) (x3 : Int) : Option (Int × Int × Int) :=
  bif (decide (x3 ≤ (0 : Int))) then
    some (0, x1, x2)
  else
    bif (decide (x3 ≤ (256 : Int))) then
      (f_spec_l1Byte x0 x1 x2).bind fun y1 =>
      bif (decide (x3 = (0 : Int))) then none else
      some ((Int.tmod y1.1 x3), y1.2.1, y1.2.2)
    else
      (f_spec_l1Byte x0 x1 x2).bind fun y2 =>
      (f_spec_l1Byte x0 y2.2.1 y2.2.2).bind fun y3 =>
      (f_spec_l1Byte x0 y3.2.1 y3.2.2).bind fun y4 =>
      (f_spec_l1Byte x0 y4.2.1 y4.2.2).bind fun y5 =>
      bif (decide (x3 = (0 : Int))) then none else
      some ((Int.tmod (IntKind.wrap .i64 ((IntKind.wrap .i64 ((IntKind.wrap .i64 ((IntKind.wrap .i64 (y2.1 * (16777216 : Int))) + (IntKind.wrap .i64 (y3.1 * (65536 : Int))))) + (IntKind.wrap .i64 (y4.1 * (256 : Int))))) + y5.1)) x3), y5.2.1, y5.2.2)
noncomputable def C109 : Con := ⟨[(.P [false, true, true], false, [(.sl R0), (.int .i64), (.int .i64)]), (.B, false, [(.int .i64)])], [(false, [(.int .i64)])], [(.sl R0), (.int .i64), (.int .i64), (.int .i64)], [(.int .i64), (.int .i64), (.int .i64)], fun (p : List Int × Int × Int × Int) => f_spec_l1Below p.1 p.2.1 p.2.2.1 p.2.2.2⟩
noncomputable abbrev K109 : Cons := [(177, C177)]
noncomputable abbrev L109 : List (Nat × Loops) := []
abbrev Q109 : List (Nat × List (Int × Nat) × Nat) := []
noncomputable abbrev X109 : Nat → Ctx := ctxOf tb K109 L109 Q109
theorem E109 : ∀ x, funG fs X109 6 109 C109 x = C109.fn x := fun x => by kernel_rfl
theorem B109 : ConG Try.prog 109 C109 := ConG.make FS MIX TY (cons := K109) (L := L109) (ptrs := Q109) ⟨S177, trivial⟩ trivial trivial rfl (by kernel_rfl) E109
theorem S109 : ConS Try.prog 109 C109 := B109.call (by kernel_rfl)
/-! spec.l1PickInt: function 110 -/
noncomputable def f_spec_l1PickInt (x0 : List Int) (x1 : Int) (x2 : Int) (x3 : List Int) : Option (Int × Int × Int) :=
  (f_spec_l1Below x0 x1 x2 (x3.length : Int)).bind fun y6 =>
  bif ((decide ((0 : Int) ≤ y6.1)) && (decide (y6.1 < (x3.length : Int)))) then
  some ((x3.getD y6.1.toNat 0), y6.2.1, y6.2.2)
  else none
noncomputable def C110 : Con := ⟨[(.P [false, true, true], false, [(.sl R0), (.int .i64), (.int .i64)]), (.B, false, [(.sl R1)])], [(false, [(.int .i64)])], [(.sl R0), (.int .i64), (.int .i64), (.sl R1)], [(.int .i64), (.int .i64), (.int .i64)], fun (p : List Int × Int × Int × List Int) => f_spec_l1PickInt p.1 p.2.1 p.2.2.1 p.2.2.2⟩
noncomputable abbrev K110 : Cons := [(109, C109)]
noncomputable abbrev L110 : List (Nat × Loops) := []
abbrev Q110 : List (Nat × List (Int × Nat) × Nat) := []
noncomputable abbrev X110 : Nat → Ctx := ctxOf tb K110 L110 Q110
theorem E110 : ∀ x, funG fs X110 6 110 C110 x = C110.fn x := fun x => by kernel_rfl
theorem B110 : ConG Try.prog 110 C110 := ConG.make FS MIX TY (cons := K110) (L := L110) (ptrs := Q110) ⟨S109, trivial⟩ trivial trivial rfl (by kernel_rfl) E110
theorem S110 : ConS Try.prog 110 C110 := B110.call (by kernel_rfl)
/-! spec.l1In: function 97 -/
noncomputable def f_spec_l1In (x0 : Int) (x1 : Int) (x2 : Int) : Option (Bool) :=
  bif (decide (x1 ≤ x0)) then
    some (decide (x0 ≤ x2))
  else
    some false
noncomputable def C97 : Con := ⟨[(.B, false, [(.int .i64)]), (.B, false, [(.int .i64)]), (.B, false, [(.int .i64)])], [(false, [.bool])], [(.int .i64), (.int .i64), (.int .i64)], [.bool], fun (p : Int × Int × Int) => f_spec_l1In p.1 p.2.1 p.2.2⟩
noncomputable abbrev K97 : Cons := []
noncomputable abbrev L97 : List (Nat × Loops) := []
abbrev Q97 : List (Nat × List (Int × Nat) × Nat) := []
noncomputable abbrev X97 : Nat → Ctx := ctxOf tb K97 L97 Q97
theorem E97 : ∀ x, funRun fs X97 6 97 C97 x = C97.fn x := fun x => by kernel_rfl
theorem B97 : ConB Try.prog 97 C97 := ConB.make FS MIX TY (cons := K97) (L := L97) (ptrs := Q97) trivial trivial trivial rfl rfl E97
theorem S97 : ConS Try.prog 97 C97 := B97.call rfl
/-! spec.l8Has: function 186 -/
noncomputable def f_spec_l8Has (x0 : Int) : Option (Int) :=
  (f_spec_l1In x0 1 10).bind fun y7 =>
  bif (!y7) then
    some 0
  else
    bif ((decide ((0 : Int) ≤ x0)) && (decide (x0 < (([0, 9, 7, 11, 11, 14, 15, 10, 8, 0, 7] : List Int).length : Int)))) then
    some (([0, 9, 7, 11, 11, 14, 15, 10, 8, 0, 7] : List Int).getD x0.toNat 0)
    else none
noncomputable def C186 : Con := ⟨[(.B, false, [(.int .i64)])], [(false, [(.int .i64)])], [(.int .i64)], [(.int .i64)], fun (p : Int) => f_spec_l8Has p⟩
noncomputable abbrev K186 : Cons := [(97, C97)]
noncomputable abbrev L186 : List (Nat × Loops) := []
abbrev Q186 : List (Nat × List (Int × Nat) × Nat) := []
noncomputable abbrev X186 : Nat → Ctx := ctxOf tb K186 L186 Q186
theorem E186 : ∀ x, funRun fs X186 6 186 C186 x = C186.fn x := fun x => by kernel_rfl
theorem B186 : ConB Try.prog 186 C186 := ConB.make FS MIX TY (cons := K186) (L := L186) (ptrs := Q186) ⟨S97, trivial⟩ trivial trivial rfl rfl E186
theorem S186 : ConS Try.prog 186 C186 := B186.call rfl
/-! spec.l8DrawIns: function 183 -/
noncomputable def f_spec_l8DrawIns (x0 : List Int) (x1 : Int) (x2 : Int) : Option (Int × Int × Int × Int × Int × Int × Int) :=
  (f_spec_l1PickInt x0 x1 x2 ([1, 1, 2, 3, 3, 4, 4, 5, 5, 5, 6, 6, 7, 8, 9, 10] : List Int)).bind fun y8 =>
  (f_spec_l8Has y8.1).bind fun y9 =>
  bif (!(decide ((bitI .and .i64 y9 (1 : Int)) = (0 : Int)))) then
    (f_spec_l1Below x0 y8.2.1 y8.2.2 4).bind fun y10 =>
    bif (!(decide ((bitI .and .i64 y9 (2 : Int)) = (0 : Int)))) then
      (f_spec_l1Below x0 y10.2.1 y10.2.2 4).bind fun y11 =>
      bif (!(decide ((bitI .and .i64 y9 (4 : Int)) = (0 : Int)))) then
        (f_spec_l1Below x0 y11.2.1 y11.2.2 4).bind fun y12 =>
        bif (!(decide ((bitI .and .i64 y9 (8 : Int)) = (0 : Int)))) then
          (f_spec_l1PickInt x0 y12.2.1 y12.2.2 ([0, 1, 2, 4, 8, 9, 12, 20, 23] : List Int)).bind fun y13 =>
          some (y8.1, y10.1, y11.1, y12.1, y13.1, y13.2.1, y13.2.2)
        else
          some (y8.1, y10.1, y11.1, y12.1, 0, y12.2.1, y12.2.2)
      else
        bif (!(decide ((bitI .and .i64 y9 (8 : Int)) = (0 : Int)))) then
          (f_spec_l1PickInt x0 y11.2.1 y11.2.2 ([0, 1, 2, 4, 8, 9, 12, 20, 23] : List Int)).bind fun y14 =>
          some (y8.1, y10.1, y11.1, 0, y14.1, y14.2.1, y14.2.2)
        else
          some (y8.1, y10.1, y11.1, 0, 0, y11.2.1, y11.2.2)
    else
      bif (!(decide ((bitI .and .i64 y9 (4 : Int)) = (0 : Int)))) then
        (f_spec_l1Below x0 y10.2.1 y10.2.2 4).bind fun y15 =>
        bif (!(decide ((bitI .and .i64 y9 (8 : Int)) = (0 : Int)))) then
          (f_spec_l1PickInt x0 y15.2.1 y15.2.2 ([0, 1, 2, 4, 8, 9, 12, 20, 23] : List Int)).bind fun y16 =>
          some (y8.1, y10.1, 0, y15.1, y16.1, y16.2.1, y16.2.2)
        else
          some (y8.1, y10.1, 0, y15.1, 0, y15.2.1, y15.2.2)
      else
        bif (!(decide ((bitI .and .i64 y9 (8 : Int)) = (0 : Int)))) then
          (f_spec_l1PickInt x0 y10.2.1 y10.2.2 ([0, 1, 2, 4, 8, 9, 12, 20, 23] : List Int)).bind fun y17 =>
          some (y8.1, y10.1, 0, 0, y17.1, y17.2.1, y17.2.2)
        else
          some (y8.1, y10.1, 0, 0, 0, y10.2.1, y10.2.2)
  else
    bif (!(decide ((bitI .and .i64 y9 (2 : Int)) = (0 : Int)))) then
      (f_spec_l1Below x0 y8.2.1 y8.2.2 4).bind fun y18 =>
      bif (!(decide ((bitI .and .i64 y9 (4 : Int)) = (0 : Int)))) then
        (f_spec_l1Below x0 y18.2.1 y18.2.2 4).bind fun y19 =>
        bif (!(decide ((bitI .and .i64 y9 (8 : Int)) = (0 : Int)))) then
          (f_spec_l1PickInt x0 y19.2.1 y19.2.2 ([0, 1, 2, 4, 8, 9, 12, 20, 23] : List Int)).bind fun y20 =>
          some (y8.1, 0, y18.1, y19.1, y20.1, y20.2.1, y20.2.2)
        else
          some (y8.1, 0, y18.1, y19.1, 0, y19.2.1, y19.2.2)
      else
        bif (!(decide ((bitI .and .i64 y9 (8 : Int)) = (0 : Int)))) then
          (f_spec_l1PickInt x0 y18.2.1 y18.2.2 ([0, 1, 2, 4, 8, 9, 12, 20, 23] : List Int)).bind fun y21 =>
          some (y8.1, 0, y18.1, 0, y21.1, y21.2.1, y21.2.2)
        else
          some (y8.1, 0, y18.1, 0, 0, y18.2.1, y18.2.2)
    else
      bif (!(decide ((bitI .and .i64 y9 (4 : Int)) = (0 : Int)))) then
        (f_spec_l1Below x0 y8.2.1 y8.2.2 4).bind fun y22 =>
        bif (!(decide ((bitI .and .i64 y9 (8 : Int)) = (0 : Int)))) then
          (f_spec_l1PickInt x0 y22.2.1 y22.2.2 ([0, 1, 2, 4, 8, 9, 12, 20, 23] : List Int)).bind fun y23 =>
          some (y8.1, 0, 0, y22.1, y23.1, y23.2.1, y23.2.2)
        else
          some (y8.1, 0, 0, y22.1, 0, y22.2.1, y22.2.2)
      else
        bif (!(decide ((bitI .and .i64 y9 (8 : Int)) = (0 : Int)))) then
          (f_spec_l1PickInt x0 y8.2.1 y8.2.2 ([0, 1, 2, 4, 8, 9, 12, 20, 23] : List Int)).bind fun y24 =>
          some (y8.1, 0, 0, 0, y24.1, y24.2.1, y24.2.2)
        else
          some (y8.1, 0, 0, 0, 0, y8.2.1, y8.2.2)
noncomputable def C183 : Con := ⟨[(.P [false, true, true], false, [(.sl R0), (.int .i64), (.int .i64)])], [(true, [(.int .i64), (.int .i64), (.int .i64), (.int .i64), (.int .i64)])], [(.sl R0), (.int .i64), (.int .i64)], [(.int .i64), (.int .i64), (.int .i64), (.int .i64), (.int .i64), (.int .i64), (.int .i64)], fun (p : List Int × Int × Int) => f_spec_l8DrawIns p.1 p.2.1 p.2.2⟩
noncomputable abbrev K183 : Cons := [(109, C109), (110, C110), (186, C186)]
noncomputable abbrev L183 : List (Nat × Loops) := []
abbrev Q183 : List (Nat × List (Int × Nat) × Nat) := []
noncomputable abbrev X183 : Nat → Ctx := ctxOf tb K183 L183 Q183
theorem E183 : ∀ x, funG fs X183 6 183 C183 x = C183.fn x := fun x => by kernel_rfl
theorem B183 : ConG Try.prog 183 C183 := ConG.make FS MIX TY (cons := K183) (L := L183) (ptrs := Q183) ⟨S109, S110, S186, trivial⟩ trivial trivial rfl (by kernel_rfl) E183
theorem S183 : ConS Try.prog 183 C183 := B183.call (by kernel_rfl)
/-! spec.l8Field: function 187 -/
noncomputable def f_spec_l8Field (x0 : Int) (x1 : Int) (x2 : Bool) : Option (Bool) :=
  (f_spec_l1In x0 0 x1).bind fun y25 =>
  bif y25 then
    bif x2 then
      some true
    else
      some (decide (x0 = (0 : Int)))
  else
    some false
noncomputable def C187 : Con := ⟨[(.B, false, [(.int .i64)]), (.B, false, [(.int .i64)]), (.B, false, [.bool])], [(false, [.bool])], [(.int .i64), (.int .i64), .bool], [.bool], fun (p : Int × Int × Bool) => f_spec_l8Field p.1 p.2.1 p.2.2⟩
noncomputable abbrev K187 : Cons := [(97, C97)]
noncomputable abbrev L187 : List (Nat × Loops) := []
abbrev Q187 : List (Nat × List (Int × Nat) × Nat) := []
noncomputable abbrev X187 : Nat → Ctx := ctxOf tb K187 L187 Q187
theorem E187 : ∀ x, funRun fs X187 6 187 C187 x = C187.fn x := fun x => by kernel_rfl
theorem B187 : ConB Try.prog 187 C187 := ConB.make FS MIX TY (cons := K187) (L := L187) (ptrs := Q187) ⟨S97, trivial⟩ trivial trivial rfl rfl E187
theorem S187 : ConS Try.prog 187 C187 := B187.call rfl
/-! spec.InsOk: function 131 -/
noncomputable def f_spec_InsOk (x0 : Int) (x1 : Int) (x2 : Int) (x3 : Int) (x4 : Int) : Option (Bool) :=
  (f_spec_l8Has x0).bind fun y26 =>
  (f_spec_l1In x0 1 10).bind fun y27 =>
  bif y27 then
    (f_spec_l8Field x1 3 (!(decide ((bitI .and .i64 y26 (1 : Int)) = (0 : Int))))).bind fun y28 =>
    bif y28 then
      (f_spec_l8Field x2 3 (!(decide ((bitI .and .i64 y26 (2 : Int)) = (0 : Int))))).bind fun y29 =>
      bif y29 then
        (f_spec_l8Field x3 3 (!(decide ((bitI .and .i64 y26 (4 : Int)) = (0 : Int))))).bind fun y30 =>
        bif y30 then
          (f_spec_l8Field x4 63 (!(decide ((bitI .and .i64 y26 (8 : Int)) = (0 : Int))))).bind fun y31 =>
          some y31
        else
          some false
      else
        some false
    else
      some false
  else
    some false
noncomputable def C131 : Con := ⟨[(.B, true, [(.int .i64), (.int .i64), (.int .i64), (.int .i64), (.int .i64)])], [(false, [.bool])], [(.int .i64), (.int .i64), (.int .i64), (.int .i64), (.int .i64)], [.bool], fun (p : Int × Int × Int × Int × Int) => f_spec_InsOk p.1 p.2.1 p.2.2.1 p.2.2.2.1 p.2.2.2.2⟩
noncomputable abbrev K131 : Cons := [(97, C97), (186, C186), (187, C187)]
noncomputable abbrev L131 : List (Nat × Loops) := []
abbrev Q131 : List (Nat × List (Int × Nat) × Nat) := []
noncomputable abbrev X131 : Nat → Ctx := ctxOf tb K131 L131 Q131
theorem E131 : ∀ x, funRun fs X131 6 131 C131 x = C131.fn x := fun x => by kernel_rfl
theorem B131 : ConB Try.prog 131 C131 := ConB.make FS MIX TY (cons := K131) (L := L131) (ptrs := Q131) ⟨S97, S186, S187, trivial⟩ trivial trivial rfl rfl E131
theorem S131 : ConS Try.prog 131 C131 := B131.call rfl
/-! spec.Code: function 182 -/
noncomputable def f_spec_Code (x0 : Int) (x1 : Int) (x2 : Int) (x3 : Int) (x4 : Int) : Option (Int × Bool) :=
  (f_spec_InsOk x0 x1 x2 x3 x4).bind fun y32 =>
  bif (!y32) then
    some (0, false)
  else
    some ((IntKind.wrap .i64 ((IntKind.wrap .i64 ((IntKind.wrap .i64 ((IntKind.wrap .i64 (x0 + (IntKind.wrap .i64 ((16 : Int) * x1)))) + (IntKind.wrap .i64 ((64 : Int) * x2)))) + (IntKind.wrap .i64 ((256 : Int) * x3)))) + (IntKind.wrap .i64 ((1024 : Int) * x4)))), true)
noncomputable def C182 : Con := ⟨[(.B, true, [(.int .i64), (.int .i64), (.int .i64), (.int .i64), (.int .i64)])], [(false, [(.int .i64)]), (false, [.bool])], [(.int .i64), (.int .i64), (.int .i64), (.int .i64), (.int .i64)], [(.int .i64), .bool], fun (p : Int × Int × Int × Int × Int) => f_spec_Code p.1 p.2.1 p.2.2.1 p.2.2.2.1 p.2.2.2.2⟩
noncomputable abbrev K182 : Cons := [(131, C131)]
noncomputable abbrev L182 : List (Nat × Loops) := []
abbrev Q182 : List (Nat × List (Int × Nat) × Nat) := []
noncomputable abbrev X182 : Nat → Ctx := ctxOf tb K182 L182 Q182
theorem E182 : ∀ x, funRun fs X182 6 182 C182 x = C182.fn x := fun x => by kernel_rfl
theorem B182 : ConB Try.prog 182 C182 := ConB.make FS MIX TY (cons := K182) (L := L182) (ptrs := Q182) ⟨S131, trivial⟩ trivial trivial rfl rfl E182
theorem S182 : ConS Try.prog 182 C182 := B182.call rfl
/-! spec.l1Once: function 141 -/
noncomputable def f_spec_l1Once (x0 : List Int) (x1 : Int) (x2 : Int) (x3 : Int) : Option (Bool × Int × Int) :=
  (f_spec_l1Below x0 x1 x2 x3).bind fun y33 =>
  some ((decide (y33.1 = (0 : Int))), y33.2.1, y33.2.2)
noncomputable def C141 : Con := ⟨[(.P [false, true, true], false, [(.sl R0), (.int .i64), (.int .i64)]), (.B, false, [(.int .i64)])], [(false, [.bool])], [(.sl R0), (.int .i64), (.int .i64), (.int .i64)], [.bool, (.int .i64), (.int .i64)], fun (p : List Int × Int × Int × Int) => f_spec_l1Once p.1 p.2.1 p.2.2.1 p.2.2.2⟩
noncomputable abbrev K141 : Cons := [(109, C109)]
noncomputable abbrev L141 : List (Nat × Loops) := []
abbrev Q141 : List (Nat × List (Int × Nat) × Nat) := []
noncomputable abbrev X141 : Nat → Ctx := ctxOf tb K141 L141 Q141
theorem E141 : ∀ x, funG fs X141 6 141 C141 x = C141.fn x := fun x => by kernel_rfl
theorem B141 : ConG Try.prog 141 C141 := ConG.make FS MIX TY (cons := K141) (L := L141) (ptrs := Q141) ⟨S109, trivial⟩ trivial trivial rfl (by kernel_rfl) E141
theorem S141 : ConS Try.prog 141 C141 := B141.call (by kernel_rfl)
/-! spec.l9DrawMem: function 127 -/
noncomputable def f_spec_l9DrawMem.l2 : Nat → Int → (List Int) → Int → Int → (List Int) → (List (Int × Int × Int × Int × Int)) → Option (List Int × Int × Int × List Int)
  | 0, _, _, _, _, _, _ => none
  | n + 1, p58, p59, p60, p61, p62, p63 =>
    bif (decide (p58 < (p63.length : Int))) then
      bif ((decide ((0 : Int) ≤ p58)) && (decide (p58 < (p63.length : Int)))) then
      (f_spec_Code ((p63.getD p58.toNat (0, 0, 0, 0, 0)).1) ((p63.getD p58.toNat (0, 0, 0, 0, 0)).2.1) ((p63.getD p58.toNat (0, 0, 0, 0, 0)).2.2.1) ((p63.getD p58.toNat (0, 0, 0, 0, 0)).2.2.2.1) ((p63.getD p58.toNat (0, 0, 0, 0, 0)).2.2.2.2)).bind fun y64 =>
      bif ((decide ((0 : Int) ≤ p58)) && (decide (p58 < (p62.length : Int)))) then
      (some ((p62.set p58.toNat y64.1) : List Int)).bind fun z65 =>
      f_spec_l9DrawMem.l2 n (IntKind.wrap .i64 (p58 + (1 : Int))) p59 p60 p61 z65 p63
      else none
      else none
    else
      some (p59, p60, p61, p62)
noncomputable def f_spec_l9DrawMem.l1 : Nat → Int → (List Int) → Int → Int → (List Int) → (List (Int × Int × Int × Int × Int)) → Option (List Int × Int × Int × List Int)
  | 0, _, _, _, _, _, _ => none
  | n + 1, p49, p50, p51, p52, p53, p54 =>
    bif (decide (p49 < (p54.length : Int))) then
      bif ((decide ((0 : Int) ≤ p49)) && (decide (p49 < (p54.length : Int)))) then
      (f_spec_Code ((p54.getD p49.toNat (0, 0, 0, 0, 0)).1) ((p54.getD p49.toNat (0, 0, 0, 0, 0)).2.1) ((p54.getD p49.toNat (0, 0, 0, 0, 0)).2.2.1) ((p54.getD p49.toNat (0, 0, 0, 0, 0)).2.2.2.1) ((p54.getD p49.toNat (0, 0, 0, 0, 0)).2.2.2.2)).bind fun y55 =>
      bif ((decide ((0 : Int) ≤ p49)) && (decide (p49 < (p53.length : Int)))) then
      (some ((p53.set p49.toNat y55.1) : List Int)).bind fun z56 =>
      f_spec_l9DrawMem.l1 n (IntKind.wrap .i64 (p49 + (1 : Int))) p50 p51 p52 z56 p54
      else none
      else none
    else
      some (p50, p51, p52, p53)
noncomputable def f_spec_l9DrawMem.l0 : Nat → Int → (List Int) → Int → Int → (List Int) → Option (List Int × Int × Int × List Int)
  | 0, _, _, _, _, _ => none
  | n + 1, p34, p35, p36, p37, p38 =>
    bif (decide (p34 < (24 : Int))) then
      (f_spec_l8DrawIns p35 p36 p37).bind fun y39 =>
      (f_spec_Code y39.1 y39.2.1 y39.2.2.1 y39.2.2.2.1 y39.2.2.2.2.1).bind fun y40 =>
      bif (decide ((15 : Int) < p34)) then
        (f_spec_l1PickInt p35 y39.2.2.2.2.2.1 y39.2.2.2.2.2.2 ([0, 1, 5, 65535] : List Int)).bind fun y41 =>
        bif (Nat.blt (p38.length + ([y41.1] : List Int).length) 17592186044416) then
        (some ((p38 ++ ([y41.1] : List Int)) : List Int)).bind fun z42 =>
        f_spec_l9DrawMem.l0 n (IntKind.wrap .i64 (p34 + (1 : Int))) p35 y41.2.1 y41.2.2 z42
        else none
      else
        (f_spec_l1Once p35 y39.2.2.2.2.2.1 y39.2.2.2.2.2.2 9).bind fun y43 =>
        bif y43.1 then
          (f_spec_l1PickInt p35 y43.2.1 y43.2.2 ([0, 1, 5, 65535] : List Int)).bind fun y44 =>
          bif (Nat.blt (p38.length + ([y44.1] : List Int).length) 17592186044416) then
          (some ((p38 ++ ([y44.1] : List Int)) : List Int)).bind fun z45 =>
          f_spec_l9DrawMem.l0 n (IntKind.wrap .i64 (p34 + (1 : Int))) p35 y44.2.1 y44.2.2 z45
          else none
        else
          bif (Nat.blt (p38.length + ([y40.1] : List Int).length) 17592186044416) then
          (some ((p38 ++ ([y40.1] : List Int)) : List Int)).bind fun z46 =>
          f_spec_l9DrawMem.l0 n (IntKind.wrap .i64 (p34 + (1 : Int))) p35 y43.2.1 y43.2.2 z46
          else none
    else
      some (p35, p36, p37, p38)
noncomputable def f_spec_l9DrawMem (x0 : List Int) (x1 : Int) (x2 : Int) : Option (List Int × Int × Int) :=
  (f_spec_l9DrawMem.l0 N 0 x0 x1 x2 ([] : List Int)).bind fun r47 =>
  (f_spec_l1Below r47.1 r47.2.1 r47.2.2.1 4).bind fun y48 =>
  bif (decide (y48.1 = (0 : Int))) then
    (f_spec_l9DrawMem.l1 N 0 r47.1 y48.2.1 y48.2.2 r47.2.2.2 ([(1, 1, 0, 0, 1), (6, 2, 0, 1, 20), (10, 3, 2, 1, 0), (8, 0, 0, 0, 1)] : List (Int × Int × Int × Int × Int))).bind fun r57 =>
    some (r57.2.2.2, r57.2.1, r57.2.2.1)
  else
    bif (decide (y48.1 = (1 : Int))) then
      (f_spec_l9DrawMem.l2 N 0 r47.1 y48.2.1 y48.2.2 r47.2.2.2 ([(4, 1, 0, 0, 8), (3, 1, 1, 0, 1), (5, 0, 0, 1, 8), (8, 0, 0, 0, 8)] : List (Int × Int × Int × Int × Int))).bind fun r66 =>
      some (r66.2.2.2, r66.2.1, r66.2.2.1)
    else
      some (r47.2.2.2, y48.2.1, y48.2.2)
noncomputable def C127 : Con := ⟨[(.P [false, true, true], false, [(.sl R0), (.int .i64), (.int .i64)])], [(false, [(.sl R1)])], [(.sl R0), (.int .i64), (.int .i64)], [(.sl R1), (.int .i64), (.int .i64)], fun (p : List Int × Int × Int) => f_spec_l9DrawMem p.1 p.2.1 p.2.2⟩
noncomputable def f_spec_l9DrawMem.l0.c : LoopCon := ⟨1000, 6, [0, 2, 3, 4], ⟨[(0, .ptr 500 0), (2, .nil (some R1)), (3, .ref 1000 [] none), (4, .int .i64 0)], [(500, .box [.bor (some 0) R0 [], .int .i64 0, .int .i64 0]), (1000, .row R1 [])], 1001⟩, [(.int .i64), (.sl R0), (.int .i64), (.int .i64), (.sl R1)], [⟨.exit 0, [0, 2, 3], ⟨[(0, .ptr 500 0), (2, .nil (some R1)), (3, .ref 1000 [] none)], [(500, .box [.bor (some 0) R0 [], .int .i64 0, .int .i64 0]), (1000, .row R1 [])], 1001⟩, [(.sl R0), (.int .i64), (.int .i64), (.sl R1)]⟩], fun (p : Int × List Int × Int × Int × List Int) => f_spec_l9DrawMem.l0 N p.1 p.2.1 p.2.2.1 p.2.2.2.1 p.2.2.2.2⟩
noncomputable def f_spec_l9DrawMem.l1.c : LoopCon := ⟨1000, 6, [2, 3, 7, 8], ⟨[(2, .nil (some R1)), (3, .ref 1000 [] none), (7, .ref 1001 [] none), (8, .int .i64 0)], [(500, .box [.bor (some 0) R0 [], .int .i64 0, .int .i64 0]), (1000, .row R1 []), (1001, .row R2 [])], 1002⟩, [(.int .i64), (.sl R0), (.int .i64), (.int .i64), (.sl R1), (.sl R2)], [⟨.exit 3, [2, 3], ⟨[(2, .nil (some R1)), (3, .ref 1000 [] none)], [(500, .box [.bor (some 0) R0 [], .int .i64 0, .int .i64 0]), (1000, .row R1 [])], 1001⟩, [(.sl R0), (.int .i64), (.int .i64), (.sl R1)]⟩], fun (p : Int × List Int × Int × Int × List Int × (List (Int × Int × Int × Int × Int))) => f_spec_l9DrawMem.l1 N p.1 p.2.1 p.2.2.1 p.2.2.2.1 p.2.2.2.2.1 p.2.2.2.2.2⟩
noncomputable def f_spec_l9DrawMem.l2.c : LoopCon := ⟨1000, 6, [2, 3, 9, 10], ⟨[(2, .nil (some R1)), (3, .ref 1000 [] none), (9, .ref 1001 [] none), (10, .int .i64 0)], [(500, .box [.bor (some 0) R0 [], .int .i64 0, .int .i64 0]), (1000, .row R1 []), (1001, .row R2 [])], 1002⟩, [(.int .i64), (.sl R0), (.int .i64), (.int .i64), (.sl R1), (.sl R2)], [⟨.exit 5, [2, 3], ⟨[(2, .nil (some R1)), (3, .ref 1000 [] none)], [(500, .box [.bor (some 0) R0 [], .int .i64 0, .int .i64 0]), (1000, .row R1 [])], 1001⟩, [(.sl R0), (.int .i64), (.int .i64), (.sl R1)]⟩], fun (p : Int × List Int × Int × Int × List Int × (List (Int × Int × Int × Int × Int))) => f_spec_l9DrawMem.l2 N p.1 p.2.1 p.2.2.1 p.2.2.2.1 p.2.2.2.2.1 p.2.2.2.2.2⟩
noncomputable abbrev K127 : Cons := [(109, C109), (110, C110), (141, C141), (182, C182), (183, C183)]
noncomputable abbrev L127 : List (Nat × Loops) := [(127, [(3, f_spec_l9DrawMem.l0.c), (13, f_spec_l9DrawMem.l1.c), (19, f_spec_l9DrawMem.l2.c)])]
abbrev Q127 : List (Nat × List (Int × Nat) × Nat) := []
noncomputable abbrev X127 : Nat → Ctx := ctxOf tb K127 L127 Q127
theorem f_spec_l9DrawMem.l0.ok : ∀ n p, (fun (p : Int × List Int × Int × Int × List Int) => f_spec_l9DrawMem.l0 n p.1 p.2.1 p.2.2.1 p.2.2.2.1 p.2.2.2.2) p = iterD (roundOf fs X127 6 127 3 false f_spec_l9DrawMem.l0.c) n p :=
  iter_of (l := fun n => fun (p : Int × List Int × Int × Int × List Int) => f_spec_l9DrawMem.l0 n p.1 p.2.1 p.2.2.1 p.2.2.2.1 p.2.2.2.2) (fun _ => rfl) (fun n p => by kernel_rfl)
theorem f_spec_l9DrawMem.l1.ok : ∀ n p, (fun (p : Int × List Int × Int × Int × List Int × (List (Int × Int × Int × Int × Int))) => f_spec_l9DrawMem.l1 n p.1 p.2.1 p.2.2.1 p.2.2.2.1 p.2.2.2.2.1 p.2.2.2.2.2) p = iterD (roundOf fs X127 6 127 13 false f_spec_l9DrawMem.l1.c) n p :=
  iter_of (l := fun n => fun (p : Int × List Int × Int × Int × List Int × (List (Int × Int × Int × Int × Int))) => f_spec_l9DrawMem.l1 n p.1 p.2.1 p.2.2.1 p.2.2.2.1 p.2.2.2.2.1 p.2.2.2.2.2) (fun _ => rfl) (fun n p => by kernel_rfl)
theorem f_spec_l9DrawMem.l2.ok : ∀ n p, (fun (p : Int × List Int × Int × Int × List Int × (List (Int × Int × Int × Int × Int))) => f_spec_l9DrawMem.l2 n p.1 p.2.1 p.2.2.1 p.2.2.2.1 p.2.2.2.2.1 p.2.2.2.2.2) p = iterD (roundOf fs X127 6 127 19 false f_spec_l9DrawMem.l2.c) n p :=
  iter_of (l := fun n => fun (p : Int × List Int × Int × Int × List Int × (List (Int × Int × Int × Int × Int))) => f_spec_l9DrawMem.l2 n p.1 p.2.1 p.2.2.1 p.2.2.2.1 p.2.2.2.2.1 p.2.2.2.2.2) (fun _ => rfl) (fun n p => by kernel_rfl)
theorem E127 : ∀ x, funG fs X127 6 127 C127 x = C127.fn x := fun x => by kernel_rfl
theorem B127 : ConG Try.prog 127 C127 := ConG.make FS MIX TY (cons := K127) (L := L127) (ptrs := Q127) ⟨S109, S110, S141, S182, S183, trivial⟩ trivial ⟨⟨⟨N, fun p => f_spec_l9DrawMem.l0.ok N p⟩, ⟨N, fun p => f_spec_l9DrawMem.l1.ok N p⟩, ⟨N, fun p => f_spec_l9DrawMem.l2.ok N p⟩, trivial⟩, trivial⟩ rfl (by kernel_rfl) E127
theorem S127 : ConS Try.prog 127 C127 := B127.call (by kernel_rfl)
/-! spec.DrawBlockOf: function 47 -/
noncomputable def f_spec_DrawBlockOf.l0 : Nat → (List Int) → Int → Int → Option (List Int × Int)
  | 0, _, _, _ => none
  | n + 1, p67, p68, p69 =>
    bif (decide (p69 < (p67.length : Int))) then
      bif (decide (p69 < (4000 : Int))) then
        bif ((decide ((0 : Int) ≤ p69)) && (decide (p69 < (p67.length : Int)))) then
        f_spec_DrawBlockOf.l0 n p67 (bitI .and .i64 (IntKind.wrap .i64 ((IntKind.wrap .i64 ((IntKind.wrap .i64 (p68 * (131 : Int))) + (IntKind.wrap .i64 ((p67.getD p69.toNat 0))))) + (7 : Int))) (1073741823 : Int)) (IntKind.wrap .i64 (p69 + (1 : Int)))
        else none
      else
        some (p67, p68)
    else
      some (p67, p68)
noncomputable def f_spec_DrawBlockOf (x0 : List Int) : Option (List Int × Int) :=
  (f_spec_DrawBlockOf.l0 N x0 (IntKind.wrap .i64 ((20404 : Int) + (x0.length : Int))) 0).bind fun r70 =>
  (f_spec_l9DrawMem r70.1 0 r70.2).bind fun y71 =>
  bif (decide ((4 : Int) ≤ (y71.1.length : Int))) then
  (f_spec_l1Below r70.1 y71.2.1 y71.2.2 12).bind fun y72 =>
  bif (decide (y72.1 = (0 : Int))) then
    (f_spec_l1Below r70.1 y72.2.1 y72.2.2 26).bind fun y73 =>
    some (((y71.1.drop 1).take 3), (IntKind.wrap .i64 (y73.1 - (1 : Int))))
  else
    bif (decide (y72.1 = (1 : Int))) then
      (f_spec_l1PickInt r70.1 y72.2.1 y72.2.2 ([-1, 65536] : List Int)).bind fun y74 =>
      (some ((y71.1.set 0 y74.1) : List Int)).bind fun z75 =>
      (f_spec_l1Below r70.1 y74.2.1 y74.2.2 26).bind fun y76 =>
      some (((z75.drop 0).take 4), (IntKind.wrap .i64 (y76.1 - (1 : Int))))
    else
      (f_spec_l1Below r70.1 y72.2.1 y72.2.2 26).bind fun y77 =>
      some (((y71.1.drop 0).take 4), (IntKind.wrap .i64 (y77.1 - (1 : Int))))
  else none
noncomputable def C47 : Con := ⟨[(.B, false, [(.sl R0)])], [(false, [(.sl R1)]), (false, [(.int .i64)])], [(.sl R0)], [(.sl R1), (.int .i64)], fun (p : List Int) => f_spec_DrawBlockOf p⟩
noncomputable def f_spec_DrawBlockOf.l0.c : LoopCon := ⟨1081, 5, [0, 3, 4], ⟨[(0, .bor none R0 []), (3, .int .i64 0), (4, .int .i64 0)], [], 1081⟩, [(.sl R0), (.int .i64), (.int .i64)], [⟨.exit 0, [0, 3], ⟨[(0, .bor none R0 []), (3, .int .i64 0)], [], 1081⟩, [(.sl R0), (.int .i64)]⟩], fun (p : List Int × Int × Int) => f_spec_DrawBlockOf.l0 N p.1 p.2.1 p.2.2⟩
noncomputable abbrev K47 : Cons := [(109, C109), (110, C110), (127, C127)]
noncomputable abbrev L47 : List (Nat × Loops) := [(107, [(3, f_spec_DrawBlockOf.l0.c)])]
abbrev Q47 : List (Nat × List (Int × Nat) × Nat) := []
noncomputable abbrev X47 : Nat → Ctx := ctxOf tb K47 L47 Q47
theorem f_spec_DrawBlockOf.l0.ok : ∀ n p, (fun (p : List Int × Int × Int) => f_spec_DrawBlockOf.l0 n p.1 p.2.1 p.2.2) p = iterD (roundOf fs X47 5 107 3 true f_spec_DrawBlockOf.l0.c) n p :=
  iter_of (l := fun n => fun (p : List Int × Int × Int) => f_spec_DrawBlockOf.l0 n p.1 p.2.1 p.2.2) (fun _ => rfl) (fun n p => by kernel_rfl)
theorem E47 : ∀ x, funRun fs X47 6 47 C47 x = C47.fn x := fun x => by kernel_rfl
theorem B47 : ConB Try.prog 47 C47 := ConB.make FS MIX TY (cons := K47) (L := L47) (ptrs := Q47) ⟨S109, S110, S127, trivial⟩ trivial ⟨⟨⟨N, fun p => f_spec_DrawBlockOf.l0.ok N p⟩, trivial⟩, trivial⟩ rfl rfl E47
theorem S47 : ConS Try.prog 47 C47 := B47.call rfl
/-! impl.from: function 103 -/
noncomputable def f_impl_from (x0 : Int) (x1 : Int) (x2 : Int) : Option (Bool) :=
  bif (decide (x1 ≤ x0)) then
    some (decide (x0 ≤ x2))
  else
    some false
noncomputable def C103 : Con := ⟨[(.B, false, [(.int .i64)]), (.B, false, [(.int .i64)]), (.B, false, [(.int .i64)])], [(false, [.bool])], [(.int .i64), (.int .i64), (.int .i64)], [.bool], fun (p : Int × Int × Int) => f_impl_from p.1 p.2.1 p.2.2⟩
noncomputable abbrev K103 : Cons := []
noncomputable abbrev L103 : List (Nat × Loops) := []
abbrev Q103 : List (Nat × List (Int × Nat) × Nat) := []
noncomputable abbrev X103 : Nat → Ctx := ctxOf tb K103 L103 Q103
theorem E103 : ∀ x, funRun fs X103 6 103 C103 x = C103.fn x := fun x => by kernel_rfl
theorem B103 : ConB Try.prog 103 C103 := ConB.make FS MIX TY (cons := K103) (L := L103) (ptrs := Q103) trivial trivial trivial rfl rfl E103
theorem S103 : ConS Try.prog 103 C103 := B103.call rfl
/-! impl.isCell: function 128 -/
noncomputable def f_impl_isCell (x0 : Int) : Option (Bool) :=
  (f_impl_from x0 0 23).bind fun y78 =>
  some y78
noncomputable def C128 : Con := ⟨[(.B, false, [(.int .i64)])], [(false, [.bool])], [(.int .i64)], [.bool], fun (p : Int) => f_impl_isCell p⟩
noncomputable abbrev K128 : Cons := [(103, C103)]
noncomputable abbrev L128 : List (Nat × Loops) := []
abbrev Q128 : List (Nat × List (Int × Nat) × Nat) := []
noncomputable abbrev X128 : Nat → Ctx := ctxOf tb K128 L128 Q128
theorem E128 : ∀ x, funRun fs X128 6 128 C128 x = C128.fn x := fun x => by kernel_rfl
theorem B128 : ConB Try.prog 128 C128 := ConB.make FS MIX TY (cons := K128) (L := L128) (ptrs := Q128) ⟨S103, trivial⟩ trivial trivial rfl rfl E128
theorem S128 : ConS Try.prog 128 C128 := B128.call rfl
/-! impl.isWord: function 137 -/
noncomputable def f_impl_isWord (x0 : Int) : Option (Bool) :=
  (f_impl_from x0 0 65535).bind fun y79 =>
  some y79
noncomputable def C137 : Con := ⟨[(.B, false, [(.int .i64)])], [(false, [.bool])], [(.int .i64)], [.bool], fun (p : Int) => f_impl_isWord p⟩
noncomputable abbrev K137 : Cons := [(103, C103)]
noncomputable abbrev L137 : List (Nat × Loops) := []
abbrev Q137 : List (Nat × List (Int × Nat) × Nat) := []
noncomputable abbrev X137 : Nat → Ctx := ctxOf tb K137 L137 Q137
theorem E137 : ∀ x, funRun fs X137 6 137 C137 x = C137.fn x := fun x => by kernel_rfl
theorem B137 : ConB Try.prog 137 C137 := ConB.make FS MIX TY (cons := K137) (L := L137) (ptrs := Q137) ⟨S103, trivial⟩ trivial trivial rfl rfl E137
theorem S137 : ConS Try.prog 137 C137 := B137.call rfl
/-! impl.form: function 184 -/
noncomputable def f_impl_form (x0 : Int) : Option (ByteArray × Bool) :=
  bif (decide (x0 = (1 : Int))) then
    some ((⟨#[82, 78]⟩ : ByteArray), true)
  else
    bif (decide (x0 = (2 : Int))) then
      some ((⟨#[82, 65, 66]⟩ : ByteArray), true)
    else
      bif (decide (x0 = (10 : Int))) then
        some ((⟨#[82, 65, 66]⟩ : ByteArray), true)
      else
        bif (decide (x0 = (3 : Int))) then
          some ((⟨#[82, 65, 78]⟩ : ByteArray), true)
        else
          bif (decide (x0 = (4 : Int))) then
            some ((⟨#[82, 65, 78]⟩ : ByteArray), true)
          else
            bif (decide (x0 = (5 : Int))) then
              some ((⟨#[65, 66, 78]⟩ : ByteArray), true)
            else
              bif (decide (x0 = (6 : Int))) then
                some ((⟨#[82, 65, 66, 78]⟩ : ByteArray), true)
              else
                bif (decide (x0 = (7 : Int))) then
                  some ((⟨#[65, 78]⟩ : ByteArray), true)
                else
                  bif (decide (x0 = (8 : Int))) then
                    some ((⟨#[78]⟩ : ByteArray), true)
                  else
                    bif (decide (x0 = (9 : Int))) then
                      some ((⟨#[]⟩ : ByteArray), true)
                    else
                      some ((⟨#[]⟩ : ByteArray), false)
noncomputable def C184 : Con := ⟨[(.B, false, [(.int .i64)])], [(false, [.str]), (false, [.bool])], [(.int .i64)], [.str, .bool], fun (p : Int) => f_impl_form p⟩
noncomputable abbrev K184 : Cons := []
noncomputable abbrev L184 : List (Nat × Loops) := []
abbrev Q184 : List (Nat × List (Int × Nat) × Nat) := []
noncomputable abbrev X184 : Nat → Ctx := ctxOf tb K184 L184 Q184
theorem E184 : ∀ x, funRun fs X184 6 184 C184 x = C184.fn x := fun x => by kernel_rfl
theorem B184 : ConB Try.prog 184 C184 := ConB.make FS MIX TY (cons := K184) (L := L184) (ptrs := Q184) trivial trivial trivial rfl rfl E184
theorem S184 : ConS Try.prog 184 C184 := B184.call rfl
/-! impl.InsOk: function 130 -/
noncomputable def f_impl_InsOk.l0 : Nat → Bool → ByteArray → Bool → Int → Int → Int → Int → Int → Int → Int → Int → Int → Int → Int → Int → Option (Bool × Bool × Int × Int × Int × Int × Int × Int × Int × Int × Int × Int)
  | 0, _, _, _, _, _, _, _, _, _, _, _, _, _, _, _ => none
  | n + 1, p81, p82, p83, p84, p85, p86, p87, p88, p89, p90, p91, p92, p93, p94, p95 =>
    bif (decide (p85 < p84)) then
      bif ((decide ((0 : Int) ≤ p85)) && (decide (p85 < (p82.size : Int)))) then
      bif (decide (((p82.data.getD p85.toNat 0).toNat : Int) = (82 : Int))) then
        bif ((decide ((0 : Int) ≤ p85)) && (decide (p85 < (p82.size : Int)))) then
        bif (decide (((p82.data.getD p85.toNat 0).toNat : Int) = (82 : Int))) then
          f_impl_InsOk.l0 n p81 p82 p83 p84 (IntKind.wrap .i64 (p85 + (1 : Int))) p86 p87 p88 p89 p90 p91 p87 p93 p94 p95
        else
          bif (decide (((p82.data.getD p85.toNat 0).toNat : Int) = (65 : Int))) then
            f_impl_InsOk.l0 n p81 p82 p83 p84 (IntKind.wrap .i64 (p85 + (1 : Int))) p86 p87 p88 p89 p90 p91 p88 p93 p94 p95
          else
            bif (decide (((p82.data.getD p85.toNat 0).toNat : Int) = (66 : Int))) then
              f_impl_InsOk.l0 n p81 p82 p83 p84 (IntKind.wrap .i64 (p85 + (1 : Int))) p86 p87 p88 p89 p90 p91 p89 p93 p94 p95
            else
              f_impl_InsOk.l0 n p81 p82 p83 p84 (IntKind.wrap .i64 (p85 + (1 : Int))) p86 p87 p88 p89 p90 p91 p90 p93 p94 p95
        else none
      else
        bif (decide (((p82.data.getD p85.toNat 0).toNat : Int) = (65 : Int))) then
          bif ((decide ((0 : Int) ≤ p85)) && (decide (p85 < (p82.size : Int)))) then
          bif (decide (((p82.data.getD p85.toNat 0).toNat : Int) = (82 : Int))) then
            f_impl_InsOk.l0 n p81 p82 p83 p84 (IntKind.wrap .i64 (p85 + (1 : Int))) p86 p87 p88 p89 p90 p91 p92 p87 p94 p95
          else
            bif (decide (((p82.data.getD p85.toNat 0).toNat : Int) = (65 : Int))) then
              f_impl_InsOk.l0 n p81 p82 p83 p84 (IntKind.wrap .i64 (p85 + (1 : Int))) p86 p87 p88 p89 p90 p91 p92 p88 p94 p95
            else
              bif (decide (((p82.data.getD p85.toNat 0).toNat : Int) = (66 : Int))) then
                f_impl_InsOk.l0 n p81 p82 p83 p84 (IntKind.wrap .i64 (p85 + (1 : Int))) p86 p87 p88 p89 p90 p91 p92 p89 p94 p95
              else
                f_impl_InsOk.l0 n p81 p82 p83 p84 (IntKind.wrap .i64 (p85 + (1 : Int))) p86 p87 p88 p89 p90 p91 p92 p90 p94 p95
          else none
        else
          bif (decide (((p82.data.getD p85.toNat 0).toNat : Int) = (66 : Int))) then
            bif ((decide ((0 : Int) ≤ p85)) && (decide (p85 < (p82.size : Int)))) then
            bif (decide (((p82.data.getD p85.toNat 0).toNat : Int) = (82 : Int))) then
              f_impl_InsOk.l0 n p81 p82 p83 p84 (IntKind.wrap .i64 (p85 + (1 : Int))) p86 p87 p88 p89 p90 p91 p92 p93 p87 p95
            else
              bif (decide (((p82.data.getD p85.toNat 0).toNat : Int) = (65 : Int))) then
                f_impl_InsOk.l0 n p81 p82 p83 p84 (IntKind.wrap .i64 (p85 + (1 : Int))) p86 p87 p88 p89 p90 p91 p92 p93 p88 p95
              else
                bif (decide (((p82.data.getD p85.toNat 0).toNat : Int) = (66 : Int))) then
                  f_impl_InsOk.l0 n p81 p82 p83 p84 (IntKind.wrap .i64 (p85 + (1 : Int))) p86 p87 p88 p89 p90 p91 p92 p93 p89 p95
                else
                  f_impl_InsOk.l0 n p81 p82 p83 p84 (IntKind.wrap .i64 (p85 + (1 : Int))) p86 p87 p88 p89 p90 p91 p92 p93 p90 p95
            else none
          else
            bif ((decide ((0 : Int) ≤ p85)) && (decide (p85 < (p82.size : Int)))) then
            bif (decide (((p82.data.getD p85.toNat 0).toNat : Int) = (82 : Int))) then
              f_impl_InsOk.l0 n p81 p82 p83 p84 (IntKind.wrap .i64 (p85 + (1 : Int))) p86 p87 p88 p89 p90 p91 p92 p93 p94 p87
            else
              bif (decide (((p82.data.getD p85.toNat 0).toNat : Int) = (65 : Int))) then
                f_impl_InsOk.l0 n p81 p82 p83 p84 (IntKind.wrap .i64 (p85 + (1 : Int))) p86 p87 p88 p89 p90 p91 p92 p93 p94 p88
              else
                bif (decide (((p82.data.getD p85.toNat 0).toNat : Int) = (66 : Int))) then
                  f_impl_InsOk.l0 n p81 p82 p83 p84 (IntKind.wrap .i64 (p85 + (1 : Int))) p86 p87 p88 p89 p90 p91 p92 p93 p94 p89
                else
                  f_impl_InsOk.l0 n p81 p82 p83 p84 (IntKind.wrap .i64 (p85 + (1 : Int))) p86 p87 p88 p89 p90 p91 p92 p93 p94 p90
            else none
      else none
    else
      some (p81, p83, p86, p87, p88, p89, p90, p91, p92, p93, p94, p95)
noncomputable def f_impl_InsOk (x0 : Int) (x1 : Int) (x2 : Int) (x3 : Int) (x4 : Int) : Option (Bool) :=
  (f_impl_form x0).bind fun y80 =>
  (f_impl_InsOk.l0 N false y80.1 y80.2 (y80.1.size : Int) 0 x0 x1 x2 x3 x4 x0 0 0 0 0).bind fun r96 =>
  bif r96.2.1 then
    bif ((decide (r96.2.2.2.2.2.2.2.1 = r96.2.2.1)) && ((decide (r96.2.2.2.2.2.2.2.2.1 = r96.2.2.2.1)) && ((decide (r96.2.2.2.2.2.2.2.2.2.1 = r96.2.2.2.2.1)) && ((decide (r96.2.2.2.2.2.2.2.2.2.2.1 = r96.2.2.2.2.2.1)) && (decide (r96.2.2.2.2.2.2.2.2.2.2.2 = r96.2.2.2.2.2.2.1)))))) then
      (f_impl_from r96.2.2.2.1 0 3).bind fun y97 =>
      bif y97 then
        (f_impl_from r96.2.2.2.2.1 0 3).bind fun y98 =>
        bif y98 then
          (f_impl_from r96.2.2.2.2.2.1 0 3).bind fun y99 =>
          bif y99 then
            (f_impl_from r96.2.2.2.2.2.2.1 0 63).bind fun y100 =>
            some y100
          else
            some false
        else
          some false
      else
        some false
    else
      some false
  else
    some false
noncomputable def C130 : Con := ⟨[(.B, true, [(.int .i64), (.int .i64), (.int .i64), (.int .i64), (.int .i64)])], [(false, [.bool])], [(.int .i64), (.int .i64), (.int .i64), (.int .i64), (.int .i64)], [.bool], fun (p : Int × Int × Int × Int × Int) => f_impl_InsOk p.1 p.2.1 p.2.2.1 p.2.2.2.1 p.2.2.2.2⟩
noncomputable def f_impl_InsOk.l0.c : LoopCon := ⟨1000, 6, [1, 2, 3, 4, 5, 17, 18], ⟨[(1, .ptr 1000 0), (2, .bool false), (3, .str ⟨#[]⟩), (4, .bool false), (5, .ptr 1001 0), (17, .int .i64 0), (18, .int .i64 0)], [(1000, .box [.int .i64 0, .int .i64 0, .int .i64 0, .int .i64 0, .int .i64 0]), (1001, .box [.int .i64 0, .int .i64 0, .int .i64 0, .int .i64 0, .int .i64 0])], 1002⟩, [.bool, .str, .bool, (.int .i64), (.int .i64), (.int .i64), (.int .i64), (.int .i64), (.int .i64), (.int .i64), (.int .i64), (.int .i64), (.int .i64), (.int .i64), (.int .i64)], [⟨.exit 0, [1, 2, 4, 5], ⟨[(1, .ptr 1000 0), (2, .bool false), (4, .bool false), (5, .ptr 1001 0)], [(1000, .box [.int .i64 0, .int .i64 0, .int .i64 0, .int .i64 0, .int .i64 0]), (1001, .box [.int .i64 0, .int .i64 0, .int .i64 0, .int .i64 0, .int .i64 0])], 1002⟩, [.bool, .bool, (.int .i64), (.int .i64), (.int .i64), (.int .i64), (.int .i64), (.int .i64), (.int .i64), (.int .i64), (.int .i64), (.int .i64)]⟩], fun (p : Bool × ByteArray × Bool × Int × Int × Int × Int × Int × Int × Int × Int × Int × Int × Int × Int) => f_impl_InsOk.l0 N p.1 p.2.1 p.2.2.1 p.2.2.2.1 p.2.2.2.2.1 p.2.2.2.2.2.1 p.2.2.2.2.2.2.1 p.2.2.2.2.2.2.2.1 p.2.2.2.2.2.2.2.2.1 p.2.2.2.2.2.2.2.2.2.1 p.2.2.2.2.2.2.2.2.2.2.1 p.2.2.2.2.2.2.2.2.2.2.2.1 p.2.2.2.2.2.2.2.2.2.2.2.2.1 p.2.2.2.2.2.2.2.2.2.2.2.2.2.1 p.2.2.2.2.2.2.2.2.2.2.2.2.2.2⟩
noncomputable abbrev K130 : Cons := [(103, C103), (184, C184)]
noncomputable abbrev L130 : List (Nat × Loops) := [(130, [(4, f_impl_InsOk.l0.c)])]
abbrev Q130 : List (Nat × List (Int × Nat) × Nat) := [(185, [(82, 1), (65, 2), (66, 3)], 4)]
noncomputable abbrev X130 : Nat → Ctx := ctxOf tb K130 L130 Q130
theorem f_impl_InsOk.l0.ok : ∀ n p, (fun (p : Bool × ByteArray × Bool × Int × Int × Int × Int × Int × Int × Int × Int × Int × Int × Int × Int) => f_impl_InsOk.l0 n p.1 p.2.1 p.2.2.1 p.2.2.2.1 p.2.2.2.2.1 p.2.2.2.2.2.1 p.2.2.2.2.2.2.1 p.2.2.2.2.2.2.2.1 p.2.2.2.2.2.2.2.2.1 p.2.2.2.2.2.2.2.2.2.1 p.2.2.2.2.2.2.2.2.2.2.1 p.2.2.2.2.2.2.2.2.2.2.2.1 p.2.2.2.2.2.2.2.2.2.2.2.2.1 p.2.2.2.2.2.2.2.2.2.2.2.2.2.1 p.2.2.2.2.2.2.2.2.2.2.2.2.2.2) p = iterD (roundOf fs X130 6 130 4 false f_impl_InsOk.l0.c) n p :=
  iter_of (l := fun n => fun (p : Bool × ByteArray × Bool × Int × Int × Int × Int × Int × Int × Int × Int × Int × Int × Int × Int) => f_impl_InsOk.l0 n p.1 p.2.1 p.2.2.1 p.2.2.2.1 p.2.2.2.2.1 p.2.2.2.2.2.1 p.2.2.2.2.2.2.1 p.2.2.2.2.2.2.2.1 p.2.2.2.2.2.2.2.2.1 p.2.2.2.2.2.2.2.2.2.1 p.2.2.2.2.2.2.2.2.2.2.1 p.2.2.2.2.2.2.2.2.2.2.2.1 p.2.2.2.2.2.2.2.2.2.2.2.2.1 p.2.2.2.2.2.2.2.2.2.2.2.2.2.1 p.2.2.2.2.2.2.2.2.2.2.2.2.2.2) (fun _ => rfl) (fun n p => by kernel_rfl)
theorem E130 : ∀ x, funRun fs X130 6 130 C130 x = C130.fn x := fun x => by kernel_rfl
theorem B130 : ConB Try.prog 130 C130 := ConB.make FS MIX TY (cons := K130) (L := L130) (ptrs := Q130) ⟨S103, S184, trivial⟩ ⟨PT185, trivial⟩ ⟨⟨⟨N, fun p => f_impl_InsOk.l0.ok N p⟩, trivial⟩, trivial⟩ rfl rfl E130
theorem S130 : ConS Try.prog 130 C130 := B130.call rfl
/-! impl.Decode: function 63 -/
noncomputable def f_impl_Decode (x0 : Int) : Option (Int × Int × Int × Int × Int × Bool) :=
  (f_impl_isWord x0).bind fun y101 =>
  bif (!y101) then
    some (0, 0, 0, 0, 0, false)
  else
    (f_impl_InsOk (Int.tmod x0 (16 : Int)) (Int.tmod (IntKind.wrap .i64 (Int.tdiv x0 (16 : Int))) (4 : Int)) (Int.tmod (IntKind.wrap .i64 (Int.tdiv x0 (64 : Int))) (4 : Int)) (Int.tmod (IntKind.wrap .i64 (Int.tdiv x0 (256 : Int))) (4 : Int)) (IntKind.wrap .i64 (Int.tdiv x0 (1024 : Int)))).bind fun y102 =>
    bif (!y102) then
      some (0, 0, 0, 0, 0, false)
    else
      some ((Int.tmod x0 (16 : Int)), (Int.tmod (IntKind.wrap .i64 (Int.tdiv x0 (16 : Int))) (4 : Int)), (Int.tmod (IntKind.wrap .i64 (Int.tdiv x0 (64 : Int))) (4 : Int)), (Int.tmod (IntKind.wrap .i64 (Int.tdiv x0 (256 : Int))) (4 : Int)), (IntKind.wrap .i64 (Int.tdiv x0 (1024 : Int))), true)
noncomputable def C63 : Con := ⟨[(.B, false, [(.int .i64)])], [(true, [(.int .i64), (.int .i64), (.int .i64), (.int .i64), (.int .i64)]), (false, [.bool])], [(.int .i64)], [(.int .i64), (.int .i64), (.int .i64), (.int .i64), (.int .i64), .bool], fun (p : Int) => f_impl_Decode p⟩
noncomputable abbrev K63 : Cons := [(130, C130), (137, C137)]
noncomputable abbrev L63 : List (Nat × Loops) := []
abbrev Q63 : List (Nat × List (Int × Nat) × Nat) := []
noncomputable abbrev X63 : Nat → Ctx := ctxOf tb K63 L63 Q63
theorem E63 : ∀ x, funRun fs X63 6 63 C63 x = C63.fn x := fun x => by kernel_rfl
theorem B63 : ConB Try.prog 63 C63 := ConB.make FS MIX TY (cons := K63) (L := L63) (ptrs := Q63) ⟨S130, S137, trivial⟩ trivial trivial rfl rfl E63
theorem S63 : ConS Try.prog 63 C63 := B63.call rfl
/-! impl.Ends: function 129 -/
noncomputable def f_impl_Ends (x0 : Int) (x1 : Int) (x2 : Int) (x3 : Int) (x4 : Int) : Option (Bool) :=
  (f_impl_InsOk x0 x1 x2 x3 x4).bind fun y103 =>
  bif (!y103) then
    some true
  else
    bif (decide (x0 = (7 : Int))) then
      some true
    else
      bif (decide (x0 = (8 : Int))) then
        some true
      else
        some (decide (x0 = (9 : Int)))
noncomputable def C129 : Con := ⟨[(.B, true, [(.int .i64), (.int .i64), (.int .i64), (.int .i64), (.int .i64)])], [(false, [.bool])], [(.int .i64), (.int .i64), (.int .i64), (.int .i64), (.int .i64)], [.bool], fun (p : Int × Int × Int × Int × Int) => f_impl_Ends p.1 p.2.1 p.2.2.1 p.2.2.2.1 p.2.2.2.2⟩
noncomputable abbrev K129 : Cons := [(130, C130)]
noncomputable abbrev L129 : List (Nat × Loops) := []
abbrev Q129 : List (Nat × List (Int × Nat) × Nat) := []
noncomputable abbrev X129 : Nat → Ctx := ctxOf tb K129 L129 Q129
theorem E129 : ∀ x, funRun fs X129 6 129 C129 x = C129.fn x := fun x => by kernel_rfl
theorem B129 : ConB Try.prog 129 C129 := ConB.make FS MIX TY (cons := K129) (L := L129) (ptrs := Q129) ⟨S130, trivial⟩ trivial trivial rfl rfl E129
theorem S129 : ConS Try.prog 129 C129 := B129.call rfl
/-! impl.BlockOf: function 48 -/
noncomputable def f_impl_BlockOf.l0 : Nat → (List Int) → Int → Int → Int → Int → (List (Int × Int × Int × Int × Int)) → (List (Int × Int × Int × Int × Int)) → Option (Int × Int × (List (Int × Int × Int × Int × Int)) × (List (Int × Int × Int × Int × Int)))
  | 0, _, _, _, _, _, _, _ => none
  | n + 1, p105, p106, p107, p108, p109, p110, p111 =>
    bif (decide (p107 < p106)) then
      bif ((decide ((0 : Int) ≤ p107)) && (decide (p107 < (p105.length : Int)))) then
      (f_impl_Decode (p105.getD p107.toNat 0)).bind fun y112 =>
      bif (Nat.blt (p111.length + ([(y112.1, y112.2.1, y112.2.2.1, y112.2.2.2.1, y112.2.2.2.2.1)] : List (Int × Int × Int × Int × Int)).length) 3518437208883) then
      (some ((p111 ++ ([(y112.1, y112.2.1, y112.2.2.1, y112.2.2.2.1, y112.2.2.2.2.1)] : List (Int × Int × Int × Int × Int))) : List (Int × Int × Int × Int × Int))).bind fun z113 =>
      (f_impl_Ends y112.1 y112.2.1 y112.2.2.1 y112.2.2.2.1 y112.2.2.2.2.1).bind fun y114 =>
      bif y114 then
        some (p108, p109, p110, z113)
      else
        f_impl_BlockOf.l0 n p105 p106 (IntKind.wrap .i64 (p107 + (1 : Int))) p108 p109 p110 z113
      else none
      else none
    else
      some (p108, p109, p110, p111)
noncomputable def f_impl_BlockOf (x0 : List Int) (x1 : Int) : Option (Int × (List (Int × Int × Int × Int × Int))) :=
  bif (!(decide ((x0.length : Int) = (4 : Int)))) then
    some (0, [])
  else
    (f_impl_isCell x1).bind fun y104 =>
    bif (!y104) then
      some (0, [])
    else
      bif ((decide ((0 : Int) ≤ (Int.tmod x1 (4 : Int)))) && (decide ((Int.tmod x1 (4 : Int)) ≤ (x0.length : Int)))) then
      (f_impl_BlockOf.l0 N (x0.drop (Int.tmod x1 (4 : Int)).toNat) ((x0.drop (Int.tmod x1 (4 : Int)).toNat).length : Int) 0 0 x1 ([] : List (Int × Int × Int × Int × Int)) ([] : List (Int × Int × Int × Int × Int))).bind fun r115 =>
      some (r115.2.1, r115.2.2.2)
      else none
noncomputable def C48 : Con := ⟨[(.B, false, [(.sl R1)]), (.B, false, [(.int .i64)])], [(true, [(.int .i64), (.sl R2)])], [(.sl R1), (.int .i64)], [(.int .i64), (.sl R2)], fun (p : List Int × Int) => f_impl_BlockOf p.1 p.2⟩
noncomputable def f_impl_BlockOf.l0.c : LoopCon := ⟨1000, 6, [4, 5, 24, 25, 26], ⟨[(4, .ptr 1000 0), (5, .ptr 1001 0), (24, .bor none R1 []), (25, .int .i64 0), (26, .int .i64 0)], [(1000, .box [.int .i64 0, .ref 1002 [] none]), (1001, .box [.int .i64 0, .ref 1003 [] none]), (1002, .row R2 []), (1003, .row R2 [])], 1004⟩, [(.sl R1), (.int .i64), (.int .i64), (.int .i64), (.int .i64), (.sl R2), (.sl R2)], [⟨.exit 0, [4, 5], ⟨[(4, .ptr 1000 0), (5, .ptr 1001 0)], [(1000, .box [.int .i64 0, .ref 1002 [] none]), (1001, .box [.int .i64 0, .ref 1003 [] none]), (1002, .row R2 []), (1003, .row R2 [])], 1004⟩, [(.int .i64), (.int .i64), (.sl R2), (.sl R2)]⟩], fun (p : List Int × Int × Int × Int × Int × (List (Int × Int × Int × Int × Int)) × (List (Int × Int × Int × Int × Int))) => f_impl_BlockOf.l0 N p.1 p.2.1 p.2.2.1 p.2.2.2.1 p.2.2.2.2.1 p.2.2.2.2.2.1 p.2.2.2.2.2.2⟩
noncomputable abbrev K48 : Cons := [(63, C63), (128, C128), (129, C129)]
noncomputable abbrev L48 : List (Nat × Loops) := [(48, [(5, f_impl_BlockOf.l0.c)])]
abbrev Q48 : List (Nat × List (Int × Nat) × Nat) := []
noncomputable abbrev X48 : Nat → Ctx := ctxOf tb K48 L48 Q48
theorem f_impl_BlockOf.l0.ok : ∀ n p, (fun (p : List Int × Int × Int × Int × Int × (List (Int × Int × Int × Int × Int)) × (List (Int × Int × Int × Int × Int))) => f_impl_BlockOf.l0 n p.1 p.2.1 p.2.2.1 p.2.2.2.1 p.2.2.2.2.1 p.2.2.2.2.2.1 p.2.2.2.2.2.2) p = iterD (roundOf fs X48 6 48 5 false f_impl_BlockOf.l0.c) n p :=
  iter_of (l := fun n => fun (p : List Int × Int × Int × Int × Int × (List (Int × Int × Int × Int × Int)) × (List (Int × Int × Int × Int × Int))) => f_impl_BlockOf.l0 n p.1 p.2.1 p.2.2.1 p.2.2.2.1 p.2.2.2.2.1 p.2.2.2.2.2.1 p.2.2.2.2.2.2) (fun _ => rfl) (fun n p => by kernel_rfl)
theorem E48 : ∀ x, funRun fs X48 6 48 C48 x = C48.fn x := fun x => by kernel_rfl
theorem B48 : ConB Try.prog 48 C48 := ConB.make FS MIX TY (cons := K48) (L := L48) (ptrs := Q48) ⟨S63, S128, S129, trivial⟩ trivial ⟨⟨⟨N, fun p => f_impl_BlockOf.l0.ok N p⟩, trivial⟩, trivial⟩ rfl rfl E48
theorem S48 : ConS Try.prog 48 C48 := B48.call rfl
/-! spec.Decode: function 133 -/
noncomputable def f_spec_Decode (x0 : Int) : Option (Int × Int × Int × Int × Int × Bool) :=
  (f_spec_l1In x0 0 65535).bind fun y116 =>
  bif (!y116) then
    some (0, 0, 0, 0, 0, false)
  else
    (f_spec_InsOk (Int.tmod x0 (16 : Int)) (Int.tmod (IntKind.wrap .i64 (Int.tdiv x0 (16 : Int))) (4 : Int)) (Int.tmod (IntKind.wrap .i64 (Int.tdiv x0 (64 : Int))) (4 : Int)) (Int.tmod (IntKind.wrap .i64 (Int.tdiv x0 (256 : Int))) (4 : Int)) (IntKind.wrap .i64 (Int.tdiv x0 (1024 : Int)))).bind fun y117 =>
    bif (!y117) then
      some (0, 0, 0, 0, 0, false)
    else
      some ((Int.tmod x0 (16 : Int)), (Int.tmod (IntKind.wrap .i64 (Int.tdiv x0 (16 : Int))) (4 : Int)), (Int.tmod (IntKind.wrap .i64 (Int.tdiv x0 (64 : Int))) (4 : Int)), (Int.tmod (IntKind.wrap .i64 (Int.tdiv x0 (256 : Int))) (4 : Int)), (IntKind.wrap .i64 (Int.tdiv x0 (1024 : Int))), true)
noncomputable def C133 : Con := ⟨[(.B, false, [(.int .i64)])], [(true, [(.int .i64), (.int .i64), (.int .i64), (.int .i64), (.int .i64)]), (false, [.bool])], [(.int .i64)], [(.int .i64), (.int .i64), (.int .i64), (.int .i64), (.int .i64), .bool], fun (p : Int) => f_spec_Decode p⟩
noncomputable abbrev K133 : Cons := [(97, C97), (131, C131)]
noncomputable abbrev L133 : List (Nat × Loops) := []
abbrev Q133 : List (Nat × List (Int × Nat) × Nat) := []
noncomputable abbrev X133 : Nat → Ctx := ctxOf tb K133 L133 Q133
theorem E133 : ∀ x, funRun fs X133 6 133 C133 x = C133.fn x := fun x => by kernel_rfl
theorem B133 : ConB Try.prog 133 C133 := ConB.make FS MIX TY (cons := K133) (L := L133) (ptrs := Q133) ⟨S97, S131, trivial⟩ trivial trivial rfl rfl E133
theorem S133 : ConS Try.prog 133 C133 := B133.call rfl
/-! spec.Ends: function 132 -/
noncomputable def f_spec_Ends (x0 : Int) (x1 : Int) (x2 : Int) (x3 : Int) (x4 : Int) : Option (Bool) :=
  (f_spec_InsOk x0 x1 x2 x3 x4).bind fun y118 =>
  bif (!y118) then
    some true
  else
    bif (decide (x0 = (7 : Int))) then
      some true
    else
      bif (decide (x0 = (8 : Int))) then
        some true
      else
        some (decide (x0 = (9 : Int)))
noncomputable def C132 : Con := ⟨[(.B, true, [(.int .i64), (.int .i64), (.int .i64), (.int .i64), (.int .i64)])], [(false, [.bool])], [(.int .i64), (.int .i64), (.int .i64), (.int .i64), (.int .i64)], [.bool], fun (p : Int × Int × Int × Int × Int) => f_spec_Ends p.1 p.2.1 p.2.2.1 p.2.2.2.1 p.2.2.2.2⟩
noncomputable abbrev K132 : Cons := [(131, C131)]
noncomputable abbrev L132 : List (Nat × Loops) := []
abbrev Q132 : List (Nat × List (Int × Nat) × Nat) := []
noncomputable abbrev X132 : Nat → Ctx := ctxOf tb K132 L132 Q132
theorem E132 : ∀ x, funRun fs X132 6 132 C132 x = C132.fn x := fun x => by kernel_rfl
theorem B132 : ConB Try.prog 132 C132 := ConB.make FS MIX TY (cons := K132) (L := L132) (ptrs := Q132) ⟨S131, trivial⟩ trivial trivial rfl rfl E132
theorem S132 : ConS Try.prog 132 C132 := B132.call rfl
/-! spec.BlockOf: function 51 -/
noncomputable def f_spec_BlockOf.l0 : Nat → (List Int) → Int → Int → Int → (List (Int × Int × Int × Int × Int)) → (List (Int × Int × Int × Int × Int)) → Option ((Int × (List (Int × Int × Int × Int × Int))) ⊕ (Int × Int × (List (Int × Int × Int × Int × Int)) × (List (Int × Int × Int × Int × Int))))
  | 0, _, _, _, _, _, _ => none
  | n + 1, p120, p121, p122, p123, p124, p125 =>
    bif (decide (p121 < (4 : Int))) then
      bif ((decide ((0 : Int) ≤ p121)) && (decide (p121 < (p120.length : Int)))) then
      (f_spec_Decode (p120.getD p121.toNat 0)).bind fun y126 =>
      bif (Nat.blt (p125.length + ([(y126.1, y126.2.1, y126.2.2.1, y126.2.2.2.1, y126.2.2.2.2.1)] : List (Int × Int × Int × Int × Int)).length) 3518437208883) then
      (some ((p125 ++ ([(y126.1, y126.2.1, y126.2.2.1, y126.2.2.2.1, y126.2.2.2.2.1)] : List (Int × Int × Int × Int × Int))) : List (Int × Int × Int × Int × Int))).bind fun z127 =>
      (f_spec_Ends y126.1 y126.2.1 y126.2.2.1 y126.2.2.2.1 y126.2.2.2.2.1).bind fun y128 =>
      bif y128 then
        some (.inl (p123, z127))
      else
        f_spec_BlockOf.l0 n p120 (IntKind.wrap .i64 (p121 + (1 : Int))) p122 p123 p124 z127
      else none
      else none
    else
      some (.inr (p122, p123, p124, p125))
noncomputable def f_spec_BlockOf (x0 : List Int) (x1 : Int) : Option (Int × (List (Int × Int × Int × Int × Int))) :=
  bif (!(decide ((x0.length : Int) = (4 : Int)))) then
    some (0, [])
  else
    (f_spec_l1In x1 0 23).bind fun y119 =>
    bif (!y119) then
      some (0, [])
    else
      (f_spec_BlockOf.l0 N x0 (Int.tmod x1 (4 : Int)) 0 x1 ([] : List (Int × Int × Int × Int × Int)) ([] : List (Int × Int × Int × Int × Int))).bind fun r129 =>
      cs r129 (fun a130 =>
        some (a130.1, a130.2)) (fun b131 =>
        some (b131.2.1, b131.2.2.2))
noncomputable def C51 : Con := ⟨[(.B, false, [(.sl R1)]), (.B, false, [(.int .i64)])], [(true, [(.int .i64), (.sl R2)])], [(.sl R1), (.int .i64)], [(.int .i64), (.sl R2)], fun (p : List Int × Int) => f_spec_BlockOf p.1 p.2⟩
noncomputable def f_spec_BlockOf.l0.c : LoopCon := ⟨1000, 6, [0, 4, 5, 6], ⟨[(0, .bor none R1 []), (4, .ptr 1000 0), (5, .ptr 1001 0), (6, .int .i64 0)], [(1000, .box [.int .i64 0, .ref 1002 [] none]), (1001, .box [.int .i64 0, .ref 1003 [] none]), (1002, .row R2 []), (1003, .row R2 [])], 1004⟩, [(.sl R1), (.int .i64), (.int .i64), (.int .i64), (.sl R2), (.sl R2)], [⟨.ret, [4], ⟨[(4, .ptr 1000 0)], [(1000, .box [.int .i64 0, .ref 1001 [] none]), (1001, .row R2 [])], 1002⟩, [(.int .i64), (.sl R2)]⟩, ⟨.exit 0, [4, 5], ⟨[(4, .ptr 1000 0), (5, .ptr 1001 0)], [(1000, .box [.int .i64 0, .ref 1002 [] none]), (1001, .box [.int .i64 0, .ref 1003 [] none]), (1002, .row R2 []), (1003, .row R2 [])], 1004⟩, [(.int .i64), (.int .i64), (.sl R2), (.sl R2)]⟩], fun (p : List Int × Int × Int × Int × (List (Int × Int × Int × Int × Int)) × (List (Int × Int × Int × Int × Int))) => f_spec_BlockOf.l0 N p.1 p.2.1 p.2.2.1 p.2.2.2.1 p.2.2.2.2.1 p.2.2.2.2.2⟩
noncomputable abbrev K51 : Cons := [(97, C97), (132, C132), (133, C133)]
noncomputable abbrev L51 : List (Nat × Loops) := [(51, [(5, f_spec_BlockOf.l0.c)])]
abbrev Q51 : List (Nat × List (Int × Nat) × Nat) := []
noncomputable abbrev X51 : Nat → Ctx := ctxOf tb K51 L51 Q51
theorem f_spec_BlockOf.l0.ok : ∀ n p, (fun (p : List Int × Int × Int × Int × (List (Int × Int × Int × Int × Int)) × (List (Int × Int × Int × Int × Int))) => f_spec_BlockOf.l0 n p.1 p.2.1 p.2.2.1 p.2.2.2.1 p.2.2.2.2.1 p.2.2.2.2.2) p = iterD (roundOf fs X51 6 51 5 false f_spec_BlockOf.l0.c) n p :=
  iter_of (l := fun n => fun (p : List Int × Int × Int × Int × (List (Int × Int × Int × Int × Int)) × (List (Int × Int × Int × Int × Int))) => f_spec_BlockOf.l0 n p.1 p.2.1 p.2.2.1 p.2.2.2.1 p.2.2.2.2.1 p.2.2.2.2.2) (fun _ => rfl) (fun n p => by kernel_rfl)
theorem E51 : ∀ x, funRun fs X51 6 51 C51 x = C51.fn x := fun x => by kernel_rfl
theorem B51 : ConB Try.prog 51 C51 := ConB.make FS MIX TY (cons := K51) (L := L51) (ptrs := Q51) ⟨S97, S132, S133, trivial⟩ trivial ⟨⟨⟨N, fun p => f_spec_BlockOf.l0.ok N p⟩, trivial⟩, trivial⟩ rfl rfl E51
theorem S51 : ConS Try.prog 51 C51 := B51.call rfl
/-! laws.sameIns: function 58 -/
noncomputable def f_laws_sameIns.l0 : Nat → (List (Int × Int × Int × Int × Int)) → (List (Int × Int × Int × Int × Int)) → Bool → Int → Option ((Bool) ⊕ (Bool))
  | 0, _, _, _, _ => none
  | n + 1, p132, p133, p134, p135 =>
    bif (decide (p135 < (p132.length : Int))) then
      bif ((decide ((0 : Int) ≤ p135)) && (decide (p135 < (p132.length : Int)))) then
      bif ((decide ((0 : Int) ≤ p135)) && (decide (p135 < (p133.length : Int)))) then
      bif (!((decide (((p132.getD p135.toNat (0, 0, 0, 0, 0)).1) = ((p133.getD p135.toNat (0, 0, 0, 0, 0)).1))) && ((decide (((p132.getD p135.toNat (0, 0, 0, 0, 0)).2.1) = ((p133.getD p135.toNat (0, 0, 0, 0, 0)).2.1))) && ((decide (((p132.getD p135.toNat (0, 0, 0, 0, 0)).2.2.1) = ((p133.getD p135.toNat (0, 0, 0, 0, 0)).2.2.1))) && ((decide (((p132.getD p135.toNat (0, 0, 0, 0, 0)).2.2.2.1) = ((p133.getD p135.toNat (0, 0, 0, 0, 0)).2.2.2.1))) && (decide (((p132.getD p135.toNat (0, 0, 0, 0, 0)).2.2.2.2) = ((p133.getD p135.toNat (0, 0, 0, 0, 0)).2.2.2.2)))))))) then
        some (.inl false)
      else
        f_laws_sameIns.l0 n p132 p133 p134 (IntKind.wrap .i64 (p135 + (1 : Int)))
      else none
      else none
    else
      some (.inr p134)
noncomputable def f_laws_sameIns (x0 : List (Int × Int × Int × Int × Int)) (x1 : List (Int × Int × Int × Int × Int)) : Option (Bool) :=
  bif (!(decide ((x0.length : Int) = (x1.length : Int)))) then
    some false
  else
    (f_laws_sameIns.l0 N x0 x1 false 0).bind fun r136 =>
    cs r136 (fun a137 =>
      some a137) (fun b138 =>
      some true)
noncomputable def C58 : Con := ⟨[(.B, false, [(.sl R2)]), (.B, false, [(.sl R2)])], [(false, [.bool])], [(.sl R2), (.sl R2)], [.bool], fun (p : (List (Int × Int × Int × Int × Int)) × (List (Int × Int × Int × Int × Int))) => f_laws_sameIns p.1 p.2⟩
noncomputable def f_laws_sameIns.l0.c : LoopCon := ⟨1000, 6, [0, 1, 4, 5], ⟨[(0, .bor none R2 []), (1, .bor none R2 []), (4, .bool false), (5, .int .i64 0)], [], 1000⟩, [(.sl R2), (.sl R2), .bool, (.int .i64)], [⟨.ret, [4], ⟨[(4, .bool false)], [], 1000⟩, [.bool]⟩, ⟨.exit 0, [4], ⟨[(4, .bool false)], [], 1000⟩, [.bool]⟩], fun (p : (List (Int × Int × Int × Int × Int)) × (List (Int × Int × Int × Int × Int)) × Bool × Int) => f_laws_sameIns.l0 N p.1 p.2.1 p.2.2.1 p.2.2.2⟩
noncomputable abbrev K58 : Cons := []
noncomputable abbrev L58 : List (Nat × Loops) := [(58, [(4, f_laws_sameIns.l0.c)])]
abbrev Q58 : List (Nat × List (Int × Nat) × Nat) := []
noncomputable abbrev X58 : Nat → Ctx := ctxOf tb K58 L58 Q58
theorem f_laws_sameIns.l0.ok : ∀ n p, (fun (p : (List (Int × Int × Int × Int × Int)) × (List (Int × Int × Int × Int × Int)) × Bool × Int) => f_laws_sameIns.l0 n p.1 p.2.1 p.2.2.1 p.2.2.2) p = iterD (roundOf fs X58 6 58 4 false f_laws_sameIns.l0.c) n p :=
  iter_of (l := fun n => fun (p : (List (Int × Int × Int × Int × Int)) × (List (Int × Int × Int × Int × Int)) × Bool × Int) => f_laws_sameIns.l0 n p.1 p.2.1 p.2.2.1 p.2.2.2) (fun _ => rfl) (fun n p => by kernel_rfl)
theorem E58 : ∀ x, funRun fs X58 6 58 C58 x = C58.fn x := fun x => by kernel_rfl
theorem B58 : ConB Try.prog 58 C58 := ConB.make FS MIX TY (cons := K58) (L := L58) (ptrs := Q58) trivial trivial ⟨⟨⟨N, fun p => f_laws_sameIns.l0.ok N p⟩, trivial⟩, trivial⟩ rfl rfl E58
theorem S58 : ConS Try.prog 58 C58 := B58.call rfl
/-! spec.l10Draw: function 136 -/
noncomputable def f_spec_l10Draw (x0 : List Int) (x1 : Int) (x2 : Int) : Option (Int × (List (Int × Int × Int × Int × Int)) × Int × Int) :=
  (f_spec_l9DrawMem x0 x1 x2).bind fun y139 =>
  (f_spec_l1Below x0 y139.2.1 y139.2.2 24).bind fun y140 =>
  bif ((decide ((0 : Int) ≤ (IntKind.wrap .i64 ((IntKind.wrap .i64 (Int.tdiv y140.1 (4 : Int))) * (4 : Int))))) && ((decide ((IntKind.wrap .i64 ((IntKind.wrap .i64 (Int.tdiv y140.1 (4 : Int))) * (4 : Int))) ≤ (IntKind.wrap .i64 ((IntKind.wrap .i64 ((IntKind.wrap .i64 (Int.tdiv y140.1 (4 : Int))) * (4 : Int))) + (4 : Int))))) && (decide ((IntKind.wrap .i64 ((IntKind.wrap .i64 ((IntKind.wrap .i64 (Int.tdiv y140.1 (4 : Int))) * (4 : Int))) + (4 : Int))) ≤ (y139.1.length : Int))))) then
  (f_spec_BlockOf ((y139.1.drop (IntKind.wrap .i64 ((IntKind.wrap .i64 (Int.tdiv y140.1 (4 : Int))) * (4 : Int))).toNat).take ((IntKind.wrap .i64 ((IntKind.wrap .i64 ((IntKind.wrap .i64 (Int.tdiv y140.1 (4 : Int))) * (4 : Int))) + (4 : Int))) - (IntKind.wrap .i64 ((IntKind.wrap .i64 (Int.tdiv y140.1 (4 : Int))) * (4 : Int)))).toNat) y140.1).bind fun y141 =>
  (f_spec_l1Below x0 y140.2.1 y140.2.2 12).bind fun y142 =>
  bif (decide (y142.1 = (0 : Int))) then
    (f_spec_l1PickInt x0 y142.2.1 y142.2.2 ([-1, 23, 24] : List Int)).bind fun y143 =>
    some (y143.1, y141.2, y143.2.1, y143.2.2)
  else
    bif (decide (y142.1 = (1 : Int))) then
      some (y141.1, [], y142.2.1, y142.2.2)
    else
      bif (decide (y142.1 = (2 : Int))) then
        bif (Nat.blt (y141.2.length + ([(9, 0, 0, 0, 0)] : List (Int × Int × Int × Int × Int)).length) 3518437208883) then
        (some ((y141.2 ++ ([(9, 0, 0, 0, 0)] : List (Int × Int × Int × Int × Int))) : List (Int × Int × Int × Int × Int))).bind fun z144 =>
        some (y141.1, z144, y142.2.1, y142.2.2)
        else none
      else
        bif (decide (y142.1 = (3 : Int))) then
          (f_spec_l1Below x0 y142.2.1 y142.2.2 12).bind fun y145 =>
          bif (decide ((0 : Int) < (y141.2.length : Int))) then
          (some ((y141.2.set 0 (y145.1, (y141.2.getD 0 (0, 0, 0, 0, 0)).2.1, (y141.2.getD 0 (0, 0, 0, 0, 0)).2.2.1, (y141.2.getD 0 (0, 0, 0, 0, 0)).2.2.2.1, (y141.2.getD 0 (0, 0, 0, 0, 0)).2.2.2.2)) : List (Int × Int × Int × Int × Int))).bind fun z146 =>
          some (y141.1, z146, y145.2.1, y145.2.2)
          else none
        else
          some (y141.1, y141.2, y142.2.1, y142.2.2)
  else none
noncomputable def C136 : Con := ⟨[(.P [false, true, true], false, [(.sl R0), (.int .i64), (.int .i64)])], [(true, [(.int .i64), (.sl R2)])], [(.sl R0), (.int .i64), (.int .i64)], [(.int .i64), (.sl R2), (.int .i64), (.int .i64)], fun (p : List Int × Int × Int) => f_spec_l10Draw p.1 p.2.1 p.2.2⟩
noncomputable abbrev K136 : Cons := [(51, C51), (109, C109), (110, C110), (127, C127)]
noncomputable abbrev L136 : List (Nat × Loops) := []
abbrev Q136 : List (Nat × List (Int × Nat) × Nat) := []
noncomputable abbrev X136 : Nat → Ctx := ctxOf tb K136 L136 Q136
theorem E136 : ∀ x, funG fs X136 6 136 C136 x = C136.fn x := fun x => by kernel_rfl
theorem B136 : ConG Try.prog 136 C136 := ConG.make FS MIX TY (cons := K136) (L := L136) (ptrs := Q136) ⟨S51, S109, S110, S127, trivial⟩ trivial trivial rfl (by kernel_rfl) E136
theorem S136 : ConS Try.prog 136 C136 := B136.call (by kernel_rfl)
/-! spec.DrawBlockOk: function 59 -/
noncomputable def f_spec_DrawBlockOk.l0 : Nat → (List Int) → Int → Int → Int → Option (List Int × Int × Int)
  | 0, _, _, _, _ => none
  | n + 1, p147, p148, p149, p150 =>
    bif (decide (p149 < (p147.length : Int))) then
      bif (decide (p149 < (4000 : Int))) then
        bif ((decide ((0 : Int) ≤ p149)) && (decide (p149 < (p147.length : Int)))) then
        f_spec_DrawBlockOk.l0 n p147 (bitI .and .i64 (IntKind.wrap .i64 ((IntKind.wrap .i64 ((IntKind.wrap .i64 (p148 * (131 : Int))) + (IntKind.wrap .i64 ((p147.getD p149.toNat 0))))) + (7 : Int))) (1073741823 : Int)) (IntKind.wrap .i64 (p149 + (1 : Int))) p150
        else none
      else
        some (p147, p148, p150)
    else
      some (p147, p148, p150)
noncomputable def f_spec_DrawBlockOk (x0 : List Int) : Option (Int × (List (Int × Int × Int × Int × Int))) :=
  (f_spec_DrawBlockOk.l0 N x0 (IntKind.wrap .i64 ((20404 : Int) + (x0.length : Int))) 0 0).bind fun r151 =>
  (f_spec_l10Draw r151.1 0 r151.2.1).bind fun y152 =>
  some (y152.1, y152.2.1)
noncomputable def C59 : Con := ⟨[(.B, false, [(.sl R0)])], [(true, [(.int .i64), (.sl R2)])], [(.sl R0)], [(.int .i64), (.sl R2)], fun (p : List Int) => f_spec_DrawBlockOk p⟩
noncomputable def f_spec_DrawBlockOk.l0.c : LoopCon := ⟨1081, 5, [0, 3, 4], ⟨[(0, .bor none R0 []), (3, .int .i64 0), (4, .int .i64 0)], [(1001, .box [.int .i64 0, .nil (some R2)])], 1081⟩, [(.sl R0), (.int .i64), (.int .i64), (.int .i64)], [⟨.exit 0, [0, 3], ⟨[(0, .bor none R0 []), (3, .int .i64 0)], [(1001, .box [.int .i64 0, .nil (some R2)])], 1081⟩, [(.sl R0), (.int .i64), (.int .i64)]⟩], fun (p : List Int × Int × Int × Int) => f_spec_DrawBlockOk.l0 N p.1 p.2.1 p.2.2.1 p.2.2.2⟩
noncomputable abbrev K59 : Cons := [(136, C136)]
noncomputable abbrev L59 : List (Nat × Loops) := [(107, [(3, f_spec_DrawBlockOk.l0.c)])]
abbrev Q59 : List (Nat × List (Int × Nat) × Nat) := []
noncomputable abbrev X59 : Nat → Ctx := ctxOf tb K59 L59 Q59
theorem f_spec_DrawBlockOk.l0.ok : ∀ n p, (fun (p : List Int × Int × Int × Int) => f_spec_DrawBlockOk.l0 n p.1 p.2.1 p.2.2.1 p.2.2.2) p = iterD (roundOf fs X59 5 107 3 true f_spec_DrawBlockOk.l0.c) n p :=
  iter_of (l := fun n => fun (p : List Int × Int × Int × Int) => f_spec_DrawBlockOk.l0 n p.1 p.2.1 p.2.2.1 p.2.2.2) (fun _ => rfl) (fun n p => by kernel_rfl)
theorem E59 : ∀ x, funRun fs X59 6 59 C59 x = C59.fn x := fun x => by kernel_rfl
theorem B59 : ConB Try.prog 59 C59 := ConB.make FS MIX TY (cons := K59) (L := L59) (ptrs := Q59) ⟨S136, trivial⟩ trivial ⟨⟨⟨N, fun p => f_spec_DrawBlockOk.l0.ok N p⟩, trivial⟩, trivial⟩ rfl rfl E59
theorem S59 : ConS Try.prog 59 C59 := B59.call rfl
/-! spec.DrawAt: function 60 -/
noncomputable def f_spec_DrawAt.l0 : Nat → (List Int) → Int → Int → Int → Option (List Int × Int × Int)
  | 0, _, _, _, _ => none
  | n + 1, p153, p154, p155, p156 =>
    bif (decide (p155 < (p153.length : Int))) then
      bif (decide (p155 < (4000 : Int))) then
        bif ((decide ((0 : Int) ≤ p155)) && (decide (p155 < (p153.length : Int)))) then
        f_spec_DrawAt.l0 n p153 (bitI .and .i64 (IntKind.wrap .i64 ((IntKind.wrap .i64 ((IntKind.wrap .i64 (p154 * (131 : Int))) + (IntKind.wrap .i64 ((p153.getD p155.toNat 0))))) + (7 : Int))) (1073741823 : Int)) (IntKind.wrap .i64 (p155 + (1 : Int))) p156
        else none
      else
        some (p153, p154, p156)
    else
      some (p153, p154, p156)
noncomputable def f_spec_DrawAt (x0 : List Int) : Option (Int × (List (Int × Int × Int × Int × Int)) × Int) :=
  (f_spec_DrawAt.l0 N x0 (IntKind.wrap .i64 ((20404 : Int) + (x0.length : Int))) 0 0).bind fun r157 =>
  (f_spec_l10Draw r157.1 0 r157.2.1).bind fun y158 =>
  (f_spec_l1Below r157.1 y158.2.2.1 y158.2.2.2 6).bind fun y159 =>
  some (y158.1, y158.2.1, (IntKind.wrap .i64 ((IntKind.wrap .i64 (y158.1 + y159.1)) - (1 : Int))))
noncomputable def C60 : Con := ⟨[(.B, false, [(.sl R0)])], [(true, [(.int .i64), (.sl R2)]), (false, [(.int .i64)])], [(.sl R0)], [(.int .i64), (.sl R2), (.int .i64)], fun (p : List Int) => f_spec_DrawAt p⟩
noncomputable def f_spec_DrawAt.l0.c : LoopCon := ⟨1081, 5, [0, 3, 4], ⟨[(0, .bor none R0 []), (3, .int .i64 0), (4, .int .i64 0)], [(1001, .box [.int .i64 0, .nil (some R2)])], 1081⟩, [(.sl R0), (.int .i64), (.int .i64), (.int .i64)], [⟨.exit 0, [0, 3], ⟨[(0, .bor none R0 []), (3, .int .i64 0)], [(1001, .box [.int .i64 0, .nil (some R2)])], 1081⟩, [(.sl R0), (.int .i64), (.int .i64)]⟩], fun (p : List Int × Int × Int × Int) => f_spec_DrawAt.l0 N p.1 p.2.1 p.2.2.1 p.2.2.2⟩
noncomputable abbrev K60 : Cons := [(109, C109), (136, C136)]
noncomputable abbrev L60 : List (Nat × Loops) := [(107, [(3, f_spec_DrawAt.l0.c)])]
abbrev Q60 : List (Nat × List (Int × Nat) × Nat) := []
noncomputable abbrev X60 : Nat → Ctx := ctxOf tb K60 L60 Q60
theorem f_spec_DrawAt.l0.ok : ∀ n p, (fun (p : List Int × Int × Int × Int) => f_spec_DrawAt.l0 n p.1 p.2.1 p.2.2.1 p.2.2.2) p = iterD (roundOf fs X60 5 107 3 true f_spec_DrawAt.l0.c) n p :=
  iter_of (l := fun n => fun (p : List Int × Int × Int × Int) => f_spec_DrawAt.l0 n p.1 p.2.1 p.2.2.1 p.2.2.2) (fun _ => rfl) (fun n p => by kernel_rfl)
theorem E60 : ∀ x, funRun fs X60 6 60 C60 x = C60.fn x := fun x => by kernel_rfl
theorem B60 : ConB Try.prog 60 C60 := ConB.make FS MIX TY (cons := K60) (L := L60) (ptrs := Q60) ⟨S109, S136, trivial⟩ trivial ⟨⟨⟨N, fun p => f_spec_DrawAt.l0.ok N p⟩, trivial⟩, trivial⟩ rfl rfl E60
theorem S60 : ConS Try.prog 60 C60 := B60.call rfl
/-! impl.BlockOk: function 49 -/
noncomputable def f_impl_BlockOk.l0 : Nat → Bool → (List (Int × Int × Int × Int × Int)) → Int → Int → Int → (List (Int × Int × Int × Int × Int)) → Option ((Bool) ⊕ (Bool))
  | 0, _, _, _, _, _, _ => none
  | n + 1, p162, p163, p164, p165, p166, p167 =>
    bif (decide (p165 < p164)) then
      bif ((decide ((0 : Int) ≤ p165)) && (decide (p165 < (p163.length : Int)))) then
      bif (!((decide (((p163.getD p165.toNat (0, 0, 0, 0, 0)).1) = (0 : Int))) && ((decide (((p163.getD p165.toNat (0, 0, 0, 0, 0)).2.1) = (0 : Int))) && ((decide (((p163.getD p165.toNat (0, 0, 0, 0, 0)).2.2.1) = (0 : Int))) && ((decide (((p163.getD p165.toNat (0, 0, 0, 0, 0)).2.2.2.1) = (0 : Int))) && (decide (((p163.getD p165.toNat (0, 0, 0, 0, 0)).2.2.2.2) = (0 : Int)))))))) then
        (f_impl_InsOk ((p163.getD p165.toNat (0, 0, 0, 0, 0)).1) ((p163.getD p165.toNat (0, 0, 0, 0, 0)).2.1) ((p163.getD p165.toNat (0, 0, 0, 0, 0)).2.2.1) ((p163.getD p165.toNat (0, 0, 0, 0, 0)).2.2.2.1) ((p163.getD p165.toNat (0, 0, 0, 0, 0)).2.2.2.2)).bind fun y168 =>
        bif (!y168) then
          some (.inl false)
        else
          (f_impl_Ends ((p163.getD p165.toNat (0, 0, 0, 0, 0)).1) ((p163.getD p165.toNat (0, 0, 0, 0, 0)).2.1) ((p163.getD p165.toNat (0, 0, 0, 0, 0)).2.2.1) ((p163.getD p165.toNat (0, 0, 0, 0, 0)).2.2.2.1) ((p163.getD p165.toNat (0, 0, 0, 0, 0)).2.2.2.2)).bind fun y169 =>
          bif y169 then
            bif (decide ((IntKind.wrap .i64 (p165 + (1 : Int))) < (p167.length : Int))) then
              some (.inl false)
            else
              f_impl_BlockOk.l0 n p162 p163 p164 (IntKind.wrap .i64 (p165 + (1 : Int))) p166 p167
          else
            f_impl_BlockOk.l0 n p162 p163 p164 (IntKind.wrap .i64 (p165 + (1 : Int))) p166 p167
      else
        (f_impl_Ends ((p163.getD p165.toNat (0, 0, 0, 0, 0)).1) ((p163.getD p165.toNat (0, 0, 0, 0, 0)).2.1) ((p163.getD p165.toNat (0, 0, 0, 0, 0)).2.2.1) ((p163.getD p165.toNat (0, 0, 0, 0, 0)).2.2.2.1) ((p163.getD p165.toNat (0, 0, 0, 0, 0)).2.2.2.2)).bind fun y170 =>
        bif y170 then
          bif (decide ((IntKind.wrap .i64 (p165 + (1 : Int))) < (p167.length : Int))) then
            some (.inl false)
          else
            f_impl_BlockOk.l0 n p162 p163 p164 (IntKind.wrap .i64 (p165 + (1 : Int))) p166 p167
        else
          f_impl_BlockOk.l0 n p162 p163 p164 (IntKind.wrap .i64 (p165 + (1 : Int))) p166 p167
      else none
    else
      some (.inr p162)
noncomputable def f_impl_BlockOk (x0 : Int) (x1 : List (Int × Int × Int × Int × Int)) : Option (Bool) :=
  (f_impl_isCell x0).bind fun y160 =>
  bif (!y160) then
    some false
  else
    (f_impl_from (x1.length : Int) 1 (bif (decide ((IntKind.wrap .i64 ((4 : Int) - (Int.tmod x0 (4 : Int)))) < (4 : Int))) then (IntKind.wrap .i64 ((4 : Int) - (Int.tmod x0 (4 : Int)))) else 4)).bind fun y161 =>
    bif (!y161) then
      some false
    else
      (f_impl_BlockOk.l0 N false x1 (x1.length : Int) 0 x0 x1).bind fun r171 =>
      cs r171 (fun a172 =>
        some a172) (fun b173 =>
        some true)
noncomputable def C49 : Con := ⟨[(.B, true, [(.int .i64), (.sl R2)])], [(false, [.bool])], [(.int .i64), (.sl R2)], [.bool], fun (p : Int × (List (Int × Int × Int × Int × Int))) => f_impl_BlockOk p.1 p.2⟩
noncomputable def f_impl_BlockOk.l0.c : LoopCon := ⟨1000, 6, [1, 2, 22, 23, 24], ⟨[(1, .ptr 1000 0), (2, .bool false), (22, .bor none R2 []), (23, .int .i64 0), (24, .int .i64 0)], [(1000, .box [.int .i64 0, .bor none R2 []])], 1001⟩, [.bool, (.sl R2), (.int .i64), (.int .i64), (.int .i64), (.sl R2)], [⟨.ret, [2], ⟨[(2, .bool false)], [], 1000⟩, [.bool]⟩, ⟨.exit 0, [2], ⟨[(2, .bool false)], [], 1000⟩, [.bool]⟩], fun (p : Bool × (List (Int × Int × Int × Int × Int)) × Int × Int × Int × (List (Int × Int × Int × Int × Int))) => f_impl_BlockOk.l0 N p.1 p.2.1 p.2.2.1 p.2.2.2.1 p.2.2.2.2.1 p.2.2.2.2.2⟩
noncomputable abbrev K49 : Cons := [(103, C103), (128, C128), (129, C129), (130, C130)]
noncomputable abbrev L49 : List (Nat × Loops) := [(49, [(4, f_impl_BlockOk.l0.c)])]
abbrev Q49 : List (Nat × List (Int × Nat) × Nat) := []
noncomputable abbrev X49 : Nat → Ctx := ctxOf tb K49 L49 Q49
theorem f_impl_BlockOk.l0.ok : ∀ n p, (fun (p : Bool × (List (Int × Int × Int × Int × Int)) × Int × Int × Int × (List (Int × Int × Int × Int × Int))) => f_impl_BlockOk.l0 n p.1 p.2.1 p.2.2.1 p.2.2.2.1 p.2.2.2.2.1 p.2.2.2.2.2) p = iterD (roundOf fs X49 6 49 4 false f_impl_BlockOk.l0.c) n p :=
  iter_of (l := fun n => fun (p : Bool × (List (Int × Int × Int × Int × Int)) × Int × Int × Int × (List (Int × Int × Int × Int × Int))) => f_impl_BlockOk.l0 n p.1 p.2.1 p.2.2.1 p.2.2.2.1 p.2.2.2.2.1 p.2.2.2.2.2) (fun _ => rfl) (fun n p => by kernel_rfl)
theorem E49 : ∀ x, funRun fs X49 6 49 C49 x = C49.fn x := fun x => by kernel_rfl
theorem B49 : ConB Try.prog 49 C49 := ConB.make FS MIX TY (cons := K49) (L := L49) (ptrs := Q49) ⟨S103, S128, S129, S130, trivial⟩ trivial ⟨⟨⟨N, fun p => f_impl_BlockOk.l0.ok N p⟩, trivial⟩, trivial⟩ rfl rfl E49
theorem S49 : ConS Try.prog 49 C49 := B49.call rfl
/-! impl.At: function 53 -/
noncomputable def f_impl_At (x0 : Int) (x1 : List (Int × Int × Int × Int × Int)) (x2 : Int) : Option (Int × Int × Int × Int × Int × Bool) :=
  (f_impl_BlockOk x0 x1).bind fun y174 =>
  bif (!y174) then
    some (0, 0, 0, 0, 0, false)
  else
    (f_impl_from x2 x0 (IntKind.wrap .i64 ((IntKind.wrap .i64 (x0 + (x1.length : Int))) - (1 : Int)))).bind fun y175 =>
    bif (!y175) then
      some (0, 0, 0, 0, 0, false)
    else
      bif ((decide ((0 : Int) ≤ (IntKind.wrap .i64 (x2 - x0)))) && (decide ((IntKind.wrap .i64 (x2 - x0)) < (x1.length : Int)))) then
      some ((x1.getD (IntKind.wrap .i64 (x2 - x0)).toNat (0, 0, 0, 0, 0)).1, (x1.getD (IntKind.wrap .i64 (x2 - x0)).toNat (0, 0, 0, 0, 0)).2.1, (x1.getD (IntKind.wrap .i64 (x2 - x0)).toNat (0, 0, 0, 0, 0)).2.2.1, (x1.getD (IntKind.wrap .i64 (x2 - x0)).toNat (0, 0, 0, 0, 0)).2.2.2.1, (x1.getD (IntKind.wrap .i64 (x2 - x0)).toNat (0, 0, 0, 0, 0)).2.2.2.2, true)
      else none
noncomputable def C53 : Con := ⟨[(.B, true, [(.int .i64), (.sl R2)]), (.B, false, [(.int .i64)])], [(true, [(.int .i64), (.int .i64), (.int .i64), (.int .i64), (.int .i64)]), (false, [.bool])], [(.int .i64), (.sl R2), (.int .i64)], [(.int .i64), (.int .i64), (.int .i64), (.int .i64), (.int .i64), .bool], fun (p : Int × (List (Int × Int × Int × Int × Int)) × Int) => f_impl_At p.1 p.2.1 p.2.2⟩
noncomputable abbrev K53 : Cons := [(49, C49), (103, C103)]
noncomputable abbrev L53 : List (Nat × Loops) := []
abbrev Q53 : List (Nat × List (Int × Nat) × Nat) := []
noncomputable abbrev X53 : Nat → Ctx := ctxOf tb K53 L53 Q53
theorem E53 : ∀ x, funRun fs X53 6 53 C53 x = C53.fn x := fun x => by kernel_rfl
theorem B53 : ConB Try.prog 53 C53 := ConB.make FS MIX TY (cons := K53) (L := L53) (ptrs := Q53) ⟨S49, S103, trivial⟩ trivial trivial rfl rfl E53
theorem S53 : ConS Try.prog 53 C53 := B53.call rfl
/-! spec.BlockOk: function 50 -/
noncomputable def f_spec_BlockOk.l0 : Nat → Bool → Int → Int → (List (Int × Int × Int × Int × Int)) → Option ((Bool) ⊕ (Bool))
  | 0, _, _, _, _ => none
  | n + 1, p178, p179, p180, p181 =>
    bif (decide (p179 < (p181.length : Int))) then
      bif ((decide ((0 : Int) ≤ p179)) && (decide (p179 < (p181.length : Int)))) then
      (f_spec_InsOk ((p181.getD p179.toNat (0, 0, 0, 0, 0)).1) ((p181.getD p179.toNat (0, 0, 0, 0, 0)).2.1) ((p181.getD p179.toNat (0, 0, 0, 0, 0)).2.2.1) ((p181.getD p179.toNat (0, 0, 0, 0, 0)).2.2.2.1) ((p181.getD p179.toNat (0, 0, 0, 0, 0)).2.2.2.2)).bind fun y182 =>
      bif (!y182) then
        bif (!((decide (((p181.getD p179.toNat (0, 0, 0, 0, 0)).1) = (0 : Int))) && ((decide (((p181.getD p179.toNat (0, 0, 0, 0, 0)).2.1) = (0 : Int))) && ((decide (((p181.getD p179.toNat (0, 0, 0, 0, 0)).2.2.1) = (0 : Int))) && ((decide (((p181.getD p179.toNat (0, 0, 0, 0, 0)).2.2.2.1) = (0 : Int))) && (decide (((p181.getD p179.toNat (0, 0, 0, 0, 0)).2.2.2.2) = (0 : Int)))))))) then
          some (.inl false)
        else
          bif (decide (p179 < (IntKind.wrap .i64 ((p181.length : Int) - (1 : Int))))) then
            (f_spec_Ends ((p181.getD p179.toNat (0, 0, 0, 0, 0)).1) ((p181.getD p179.toNat (0, 0, 0, 0, 0)).2.1) ((p181.getD p179.toNat (0, 0, 0, 0, 0)).2.2.1) ((p181.getD p179.toNat (0, 0, 0, 0, 0)).2.2.2.1) ((p181.getD p179.toNat (0, 0, 0, 0, 0)).2.2.2.2)).bind fun y183 =>
            bif y183 then
              some (.inl false)
            else
              f_spec_BlockOk.l0 n p178 (IntKind.wrap .i64 (p179 + (1 : Int))) p180 p181
          else
            f_spec_BlockOk.l0 n p178 (IntKind.wrap .i64 (p179 + (1 : Int))) p180 p181
      else
        bif (decide (p179 < (IntKind.wrap .i64 ((p181.length : Int) - (1 : Int))))) then
          (f_spec_Ends ((p181.getD p179.toNat (0, 0, 0, 0, 0)).1) ((p181.getD p179.toNat (0, 0, 0, 0, 0)).2.1) ((p181.getD p179.toNat (0, 0, 0, 0, 0)).2.2.1) ((p181.getD p179.toNat (0, 0, 0, 0, 0)).2.2.2.1) ((p181.getD p179.toNat (0, 0, 0, 0, 0)).2.2.2.2)).bind fun y184 =>
          bif y184 then
            some (.inl false)
          else
            f_spec_BlockOk.l0 n p178 (IntKind.wrap .i64 (p179 + (1 : Int))) p180 p181
        else
          f_spec_BlockOk.l0 n p178 (IntKind.wrap .i64 (p179 + (1 : Int))) p180 p181
      else none
    else
      some (.inr p178)
noncomputable def f_spec_BlockOk (x0 : Int) (x1 : List (Int × Int × Int × Int × Int)) : Option (Bool) :=
  (f_spec_l1In x0 0 23).bind fun y176 =>
  bif (!y176) then
    some false
  else
    (f_spec_l1In (x1.length : Int) 1 (IntKind.wrap .i64 ((4 : Int) - (Int.tmod x0 (4 : Int))))).bind fun y177 =>
    bif (!y177) then
      some false
    else
      (f_spec_BlockOk.l0 N false 0 x0 x1).bind fun r185 =>
      cs r185 (fun a186 =>
        some a186) (fun b187 =>
        some true)
noncomputable def C50 : Con := ⟨[(.B, true, [(.int .i64), (.sl R2)])], [(false, [.bool])], [(.int .i64), (.sl R2)], [.bool], fun (p : Int × (List (Int × Int × Int × Int × Int))) => f_spec_BlockOk p.1 p.2⟩
noncomputable def f_spec_BlockOk.l0.c : LoopCon := ⟨1000, 6, [1, 2, 3], ⟨[(1, .ptr 1000 0), (2, .bool false), (3, .int .i64 0)], [(1000, .box [.int .i64 0, .bor none R2 []])], 1001⟩, [.bool, (.int .i64), (.int .i64), (.sl R2)], [⟨.ret, [2], ⟨[(2, .bool false)], [], 1000⟩, [.bool]⟩, ⟨.exit 0, [2], ⟨[(2, .bool false)], [], 1000⟩, [.bool]⟩], fun (p : Bool × Int × Int × (List (Int × Int × Int × Int × Int))) => f_spec_BlockOk.l0 N p.1 p.2.1 p.2.2.1 p.2.2.2⟩
noncomputable abbrev K50 : Cons := [(97, C97), (131, C131), (132, C132)]
noncomputable abbrev L50 : List (Nat × Loops) := [(50, [(4, f_spec_BlockOk.l0.c)])]
abbrev Q50 : List (Nat × List (Int × Nat) × Nat) := []
noncomputable abbrev X50 : Nat → Ctx := ctxOf tb K50 L50 Q50
theorem f_spec_BlockOk.l0.ok : ∀ n p, (fun (p : Bool × Int × Int × (List (Int × Int × Int × Int × Int))) => f_spec_BlockOk.l0 n p.1 p.2.1 p.2.2.1 p.2.2.2) p = iterD (roundOf fs X50 6 50 4 false f_spec_BlockOk.l0.c) n p :=
  iter_of (l := fun n => fun (p : Bool × Int × Int × (List (Int × Int × Int × Int × Int))) => f_spec_BlockOk.l0 n p.1 p.2.1 p.2.2.1 p.2.2.2) (fun _ => rfl) (fun n p => by kernel_rfl)
theorem E50 : ∀ x, funRun fs X50 6 50 C50 x = C50.fn x := fun x => by kernel_rfl
theorem B50 : ConB Try.prog 50 C50 := ConB.make FS MIX TY (cons := K50) (L := L50) (ptrs := Q50) ⟨S97, S131, S132, trivial⟩ trivial ⟨⟨⟨N, fun p => f_spec_BlockOk.l0.ok N p⟩, trivial⟩, trivial⟩ rfl rfl E50
theorem S50 : ConS Try.prog 50 C50 := B50.call rfl
/-! spec.At: function 61 -/
noncomputable def f_spec_At (x0 : Int) (x1 : List (Int × Int × Int × Int × Int)) (x2 : Int) : Option (Int × Int × Int × Int × Int × Bool) :=
  (f_spec_BlockOk x0 x1).bind fun y188 =>
  bif (!y188) then
    some (0, 0, 0, 0, 0, false)
  else
    bif (decide (x2 < x0)) then
      some (0, 0, 0, 0, 0, false)
    else
      bif (decide ((IntKind.wrap .i64 (x0 + (x1.length : Int))) ≤ x2)) then
        some (0, 0, 0, 0, 0, false)
      else
        bif ((decide ((0 : Int) ≤ (IntKind.wrap .i64 (x2 - x0)))) && (decide ((IntKind.wrap .i64 (x2 - x0)) < (x1.length : Int)))) then
        some ((x1.getD (IntKind.wrap .i64 (x2 - x0)).toNat (0, 0, 0, 0, 0)).1, (x1.getD (IntKind.wrap .i64 (x2 - x0)).toNat (0, 0, 0, 0, 0)).2.1, (x1.getD (IntKind.wrap .i64 (x2 - x0)).toNat (0, 0, 0, 0, 0)).2.2.1, (x1.getD (IntKind.wrap .i64 (x2 - x0)).toNat (0, 0, 0, 0, 0)).2.2.2.1, (x1.getD (IntKind.wrap .i64 (x2 - x0)).toNat (0, 0, 0, 0, 0)).2.2.2.2, true)
        else none
noncomputable def C61 : Con := ⟨[(.B, true, [(.int .i64), (.sl R2)]), (.B, false, [(.int .i64)])], [(true, [(.int .i64), (.int .i64), (.int .i64), (.int .i64), (.int .i64)]), (false, [.bool])], [(.int .i64), (.sl R2), (.int .i64)], [(.int .i64), (.int .i64), (.int .i64), (.int .i64), (.int .i64), .bool], fun (p : Int × (List (Int × Int × Int × Int × Int)) × Int) => f_spec_At p.1 p.2.1 p.2.2⟩
noncomputable abbrev K61 : Cons := [(50, C50)]
noncomputable abbrev L61 : List (Nat × Loops) := []
abbrev Q61 : List (Nat × List (Int × Nat) × Nat) := []
noncomputable abbrev X61 : Nat → Ctx := ctxOf tb K61 L61 Q61
theorem E61 : ∀ x, funRun fs X61 6 61 C61 x = C61.fn x := fun x => by kernel_rfl
theorem B61 : ConB Try.prog 61 C61 := ConB.make FS MIX TY (cons := K61) (L := L61) (ptrs := Q61) ⟨S50, trivial⟩ trivial trivial rfl rfl E61
theorem S61 : ConS Try.prog 61 C61 := B61.call rfl
/-! spec.DrawPageOf: function 62 -/
noncomputable def f_spec_DrawPageOf.l0 : Nat → (List Int) → Int → Int → Int → Option (List Int × Int × Int)
  | 0, _, _, _, _ => none
  | n + 1, p189, p190, p191, p192 =>
    bif (decide (p191 < (p189.length : Int))) then
      bif (decide (p191 < (4000 : Int))) then
        bif ((decide ((0 : Int) ≤ p191)) && (decide (p191 < (p189.length : Int)))) then
        f_spec_DrawPageOf.l0 n p189 (bitI .and .i64 (IntKind.wrap .i64 ((IntKind.wrap .i64 ((IntKind.wrap .i64 (p190 * (131 : Int))) + (IntKind.wrap .i64 ((p189.getD p191.toNat 0))))) + (7 : Int))) (1073741823 : Int)) (IntKind.wrap .i64 (p191 + (1 : Int))) p192
        else none
      else
        some (p189, p190, p192)
    else
      some (p189, p190, p192)
noncomputable def f_spec_DrawPageOf (x0 : List Int) : Option (Int × (List (Int × Int × Int × Int × Int))) :=
  (f_spec_DrawPageOf.l0 N x0 (IntKind.wrap .i64 ((20404 : Int) + (x0.length : Int))) 0 0).bind fun r193 =>
  (f_spec_l10Draw r193.1 0 r193.2.1).bind fun y194 =>
  some (y194.1, y194.2.1)
noncomputable def C62 : Con := ⟨[(.B, false, [(.sl R0)])], [(true, [(.int .i64), (.sl R2)])], [(.sl R0)], [(.int .i64), (.sl R2)], fun (p : List Int) => f_spec_DrawPageOf p⟩
noncomputable def f_spec_DrawPageOf.l0.c : LoopCon := ⟨1081, 5, [0, 3, 4], ⟨[(0, .bor none R0 []), (3, .int .i64 0), (4, .int .i64 0)], [(1001, .box [.int .i64 0, .nil (some R2)])], 1081⟩, [(.sl R0), (.int .i64), (.int .i64), (.int .i64)], [⟨.exit 0, [0, 3], ⟨[(0, .bor none R0 []), (3, .int .i64 0)], [(1001, .box [.int .i64 0, .nil (some R2)])], 1081⟩, [(.sl R0), (.int .i64), (.int .i64)]⟩], fun (p : List Int × Int × Int × Int) => f_spec_DrawPageOf.l0 N p.1 p.2.1 p.2.2.1 p.2.2.2⟩
noncomputable abbrev K62 : Cons := [(136, C136)]
noncomputable abbrev L62 : List (Nat × Loops) := [(107, [(3, f_spec_DrawPageOf.l0.c)])]
abbrev Q62 : List (Nat × List (Int × Nat) × Nat) := []
noncomputable abbrev X62 : Nat → Ctx := ctxOf tb K62 L62 Q62
theorem f_spec_DrawPageOf.l0.ok : ∀ n p, (fun (p : List Int × Int × Int × Int) => f_spec_DrawPageOf.l0 n p.1 p.2.1 p.2.2.1 p.2.2.2) p = iterD (roundOf fs X62 5 107 3 true f_spec_DrawPageOf.l0.c) n p :=
  iter_of (l := fun n => fun (p : List Int × Int × Int × Int) => f_spec_DrawPageOf.l0 n p.1 p.2.1 p.2.2.1 p.2.2.2) (fun _ => rfl) (fun n p => by kernel_rfl)
theorem E62 : ∀ x, funRun fs X62 6 62 C62 x = C62.fn x := fun x => by kernel_rfl
theorem B62 : ConB Try.prog 62 C62 := ConB.make FS MIX TY (cons := K62) (L := L62) (ptrs := Q62) ⟨S136, trivial⟩ trivial ⟨⟨⟨N, fun p => f_spec_DrawPageOf.l0.ok N p⟩, trivial⟩, trivial⟩ rfl rfl E62
theorem S62 : ConS Try.prog 62 C62 := B62.call rfl
/-! impl.PageOf: function 52 -/
noncomputable def f_impl_PageOf (x0 : Int) (x1 : List (Int × Int × Int × Int × Int)) : Option (Int) :=
  (f_impl_BlockOk x0 x1).bind fun y195 =>
  bif (!y195) then
    some (-1)
  else
    some (IntKind.wrap .i64 (Int.tdiv x0 (4 : Int)))
noncomputable def C52 : Con := ⟨[(.B, true, [(.int .i64), (.sl R2)])], [(false, [(.int .i64)])], [(.int .i64), (.sl R2)], [(.int .i64)], fun (p : Int × (List (Int × Int × Int × Int × Int))) => f_impl_PageOf p.1 p.2⟩
noncomputable abbrev K52 : Cons := [(49, C49)]
noncomputable abbrev L52 : List (Nat × Loops) := []
abbrev Q52 : List (Nat × List (Int × Nat) × Nat) := []
noncomputable abbrev X52 : Nat → Ctx := ctxOf tb K52 L52 Q52
theorem E52 : ∀ x, funRun fs X52 6 52 C52 x = C52.fn x := fun x => by kernel_rfl
theorem B52 : ConB Try.prog 52 C52 := ConB.make FS MIX TY (cons := K52) (L := L52) (ptrs := Q52) ⟨S49, trivial⟩ trivial trivial rfl rfl E52
theorem S52 : ConS Try.prog 52 C52 := B52.call rfl
/-! spec.PageOf: function 54 -/
noncomputable def f_spec_PageOf (x0 : Int) (x1 : List (Int × Int × Int × Int × Int)) : Option (Int) :=
  (f_spec_BlockOk x0 x1).bind fun y196 =>
  bif (!y196) then
    some (-1)
  else
    some (IntKind.wrap .i64 (Int.tdiv x0 (4 : Int)))
noncomputable def C54 : Con := ⟨[(.B, true, [(.int .i64), (.sl R2)])], [(false, [(.int .i64)])], [(.int .i64), (.sl R2)], [(.int .i64)], fun (p : Int × (List (Int × Int × Int × Int × Int))) => f_spec_PageOf p.1 p.2⟩
noncomputable abbrev K54 : Cons := [(50, C50)]
noncomputable abbrev L54 : List (Nat × Loops) := []
abbrev Q54 : List (Nat × List (Int × Nat) × Nat) := []
noncomputable abbrev X54 : Nat → Ctx := ctxOf tb K54 L54 Q54
theorem E54 : ∀ x, funRun fs X54 6 54 C54 x = C54.fn x := fun x => by kernel_rfl
theorem B54 : ConB Try.prog 54 C54 := ConB.make FS MIX TY (cons := K54) (L := L54) (ptrs := Q54) ⟨S50, trivial⟩ trivial trivial rfl rfl E54
theorem S54 : ConS Try.prog 54 C54 := B54.call rfl
/-! laws.FnBlocks: function 9 -/
noncomputable def f_laws_FnBlocks.l0 : Nat → Bool → Int → Int → (List Int) → Int → (List (Int × Int × Int × Int × Int)) → Option ((Bool) ⊕ (Bool × Int × Int × (List (Int × Int × Int × Int × Int))))
  | 0, _, _, _, _, _, _ => none
  | n + 1, p211, p212, p213, p214, p215, p216 =>
    bif (decide (p213 < (p216.length : Int))) then
      bif ((decide ((0 : Int) ≤ (IntKind.wrap .i64 ((Int.tmod p212 (4 : Int)) + p213)))) && (decide ((IntKind.wrap .i64 ((Int.tmod p212 (4 : Int)) + p213)) < (p214.length : Int)))) then
      (f_impl_Decode (p214.getD (IntKind.wrap .i64 ((Int.tmod p212 (4 : Int)) + p213)).toNat 0)).bind fun y217 =>
      (f_impl_At p215 p216 (IntKind.wrap .i64 (p212 + p213))).bind fun y218 =>
      bif (!((decide (y218.1 = y217.1)) && ((decide (y218.2.1 = y217.2.1)) && ((decide (y218.2.2.1 = y217.2.2.1)) && ((decide (y218.2.2.2.1 = y217.2.2.2.1)) && (decide (y218.2.2.2.2.1 = y217.2.2.2.2.1))))))) then
        some (.inl false)
      else
        bif (!y218.2.2.2.2.2) then
          some (.inl false)
        else
          f_laws_FnBlocks.l0 n p211 p212 (IntKind.wrap .i64 (p213 + (1 : Int))) p214 p215 p216
      else none
    else
      some (.inr (p211, p212, p215, p216))
noncomputable def f_laws_FnBlocks (x0 : List Int) : Option (Bool) :=
  (f_laws_big x0).bind fun y197 =>
  bif y197 then
    some true
  else
    (f_spec_DrawBlockOf x0).bind fun y198 =>
    (f_impl_BlockOf y198.1 y198.2).bind fun y199 =>
    (f_spec_BlockOf y198.1 y198.2).bind fun y200 =>
    bif (!(decide (y199.1 = y200.1))) then
      some false
    else
      (f_laws_sameIns y199.2 y200.2).bind fun y201 =>
      bif (!y201) then
        some false
      else
        (f_spec_DrawBlockOk x0).bind fun y202 =>
        (f_spec_DrawAt x0).bind fun y203 =>
        (f_impl_At y203.1 y203.2.1 y203.2.2).bind fun y204 =>
        (f_spec_At y203.1 y203.2.1 y203.2.2).bind fun y205 =>
        (f_spec_DrawPageOf x0).bind fun y206 =>
        (f_impl_BlockOk y202.1 y202.2).bind fun y207 =>
        (f_spec_BlockOk y202.1 y202.2).bind fun y208 =>
        bif (!(y207 == y208)) then
          some false
        else
          bif (!((decide (y204.1 = y205.1)) && ((decide (y204.2.1 = y205.2.1)) && ((decide (y204.2.2.1 = y205.2.2.1)) && ((decide (y204.2.2.2.1 = y205.2.2.2.1)) && (decide (y204.2.2.2.2.1 = y205.2.2.2.2.1))))))) then
            some false
          else
            bif (!(y204.2.2.2.2.2 == y205.2.2.2.2.2)) then
              some false
            else
              (f_impl_PageOf y206.1 y206.2).bind fun y209 =>
              (f_spec_PageOf y206.1 y206.2).bind fun y210 =>
              bif (!(decide (y209 = y210))) then
                some false
              else
                bif (decide ((y199.2.length : Int) = (0 : Int))) then
                  some (decide (y199.1 = (0 : Int)))
                else
                  (f_laws_FnBlocks.l0 N false y198.2 0 y198.1 y199.1 y199.2).bind fun r219 =>
                  cs r219 (fun a220 =>
                    some a220) (fun b221 =>
                    (f_impl_BlockOk b221.2.2.1 b221.2.2.2).bind fun y222 =>
                    bif y222 then
                      (f_impl_PageOf b221.2.2.1 b221.2.2.2).bind fun y223 =>
                      some (decide (y223 = (IntKind.wrap .i64 (Int.tdiv b221.2.1 (4 : Int)))))
                    else
                      some false)
noncomputable def C9 : Con := ⟨[(.B, false, [(.sl R0)])], [(false, [.bool])], [(.sl R0)], [.bool], fun (p : List Int) => f_laws_FnBlocks p⟩
noncomputable def f_laws_FnBlocks.l0.c : LoopCon := ⟨1000, 6, [2, 3, 4, 5, 15], ⟨[(2, .bool false), (3, .ref 1000 [] none), (4, .int .i64 0), (5, .ptr 1001 0), (15, .int .i64 0)], [(1000, .row R1 []), (1001, .box [.int .i64 0, .ref 1002 [] none]), (1002, .row R2 [])], 1003⟩, [.bool, (.int .i64), (.int .i64), (.sl R1), (.int .i64), (.sl R2)], [⟨.ret, [2], ⟨[(2, .bool false)], [], 1000⟩, [.bool]⟩, ⟨.exit 0, [2, 4, 5], ⟨[(2, .bool false), (4, .int .i64 0), (5, .ptr 1000 0)], [(1000, .box [.int .i64 0, .ref 1001 [] none]), (1001, .row R2 [])], 1002⟩, [.bool, (.int .i64), (.int .i64), (.sl R2)]⟩], fun (p : Bool × Int × Int × List Int × Int × (List (Int × Int × Int × Int × Int))) => f_laws_FnBlocks.l0 N p.1 p.2.1 p.2.2.1 p.2.2.2.1 p.2.2.2.2.1 p.2.2.2.2.2⟩
noncomputable abbrev K9 : Cons := [(26, C26), (47, C47), (48, C48), (49, C49), (50, C50), (51, C51), (52, C52), (53, C53), (54, C54), (58, C58), (59, C59), (60, C60), (61, C61), (62, C62), (63, C63)]
noncomputable abbrev L9 : List (Nat × Loops) := [(9, [(18, f_laws_FnBlocks.l0.c)])]
abbrev Q9 : List (Nat × List (Int × Nat) × Nat) := []
noncomputable abbrev X9 : Nat → Ctx := ctxOf tb K9 L9 Q9
theorem f_laws_FnBlocks.l0.ok : ∀ n p, (fun (p : Bool × Int × Int × List Int × Int × (List (Int × Int × Int × Int × Int))) => f_laws_FnBlocks.l0 n p.1 p.2.1 p.2.2.1 p.2.2.2.1 p.2.2.2.2.1 p.2.2.2.2.2) p = iterD (roundOf fs X9 6 9 18 false f_laws_FnBlocks.l0.c) n p :=
  iter_of (l := fun n => fun (p : Bool × Int × Int × List Int × Int × (List (Int × Int × Int × Int × Int))) => f_laws_FnBlocks.l0 n p.1 p.2.1 p.2.2.1 p.2.2.2.1 p.2.2.2.2.1 p.2.2.2.2.2) (fun _ => rfl) (fun n p => by kernel_rfl)
theorem E9 : ∀ x, funRun fs X9 6 9 C9 x = C9.fn x := fun x => by kernel_rfl
theorem B9 : ConB Try.prog 9 C9 := ConB.make FS MIX TY (cons := K9) (L := L9) (ptrs := Q9) ⟨S26, S47, S48, S49, S50, S51, S52, S53, S54, S58, S59, S60, S61, S62, S63, trivial⟩ trivial ⟨⟨⟨N, fun p => f_laws_FnBlocks.l0.ok N p⟩, trivial⟩, trivial⟩ rfl rfl E9
theorem S9 : ConS Try.prog 9 C9 := B9.call rfl
/-- What is left: the plain law. -/
def Pure : Prop := ∀ x : Tup [(.sl R0)], WfT [(.sl R0)] x → C9.fn x = some (true : Bool)
end
end Go.Abs
