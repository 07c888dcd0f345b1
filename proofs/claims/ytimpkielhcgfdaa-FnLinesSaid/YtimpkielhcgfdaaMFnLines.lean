import Derived.Test.YtimpkielhcgfdaaProg
import Derived.Test.YtimpkielhcgfdaaAbtD
import Derived.KernelRfl
namespace Go.Abs
open Go.Proofs
set_option linter.unusedVariables false
set_option maxRecDepth 100000
noncomputable section
abbrev N : Nat := 1152921504606846976
abbrev R0 : RT := .one (.int .u8)
abbrev R1 : RT := .one (.int .i64)
abbrev R2 : RT := .cons (.int .i64) (.cons (.int .i64) (.cons .bool (.one (.sl R1))))
noncomputable def tb : Tb := [(0, ⟨false, [], [], 0, 0⟩),
  (3, ⟨false, [(.int .i64)], [], 0, 8⟩),
  (4, ⟨false, [.bool], [], 0, 1⟩),
  (5, ⟨false, [(.int .u8)], [], 0, 1⟩),
  (22, ⟨false, [(.sl R1)], [], 3, 24⟩),
  (35, ⟨false, [(.sl R0)], [], 5, 24⟩),
  (37, ⟨false, [(.sl R2)], [], 51, 24⟩),
  (39, ⟨true, [(.int .i64), (.sl R2)], [(0, 3), (1, 37)], 0, 32⟩),
  (40, ⟨false, [], [], 0, 0⟩),
  (43, ⟨true, [(.int .i64)], [(0, 3)], 0, 8⟩),
  (44, ⟨false, [], [], 0, 0⟩),
  (47, ⟨false, [], [], 0, 0⟩),
  (51, ⟨true, [(.int .i64), (.int .i64), .bool, (.sl R1)], [(0, 3), (1, 3), (2, 4), (3, 22)], 0, 48⟩),
  (54, ⟨false, [], [], 0, 8⟩),
  (83, ⟨false, [], [], 0, 0⟩),
  (85, ⟨false, [], [], 0, 0⟩),
  (88, ⟨true, [(.int .i64), (.int .i64), .bool, (.int .i64), (.int .i64), (.int .i64), .bool, (.sl R1)], [(0, 3), (1, 3), (2, 4), (3, 3), (4, 51)], 0, 80⟩),
  (89, ⟨false, [], [], 0, 0⟩),
  (150, ⟨false, [], [], 0, 8⟩),
  (156, ⟨false, [], [], 0, 8⟩),
  (200, ⟨true, [(.sl R0), (.int .i64), (.int .i64)], [(0, 35), (1, 3), (2, 3)], 0, 40⟩)]
noncomputable def fsL : List (Nat × Func) := [(26, Try.f26), (107, Try.f107), (177, Try.f177), (109, Try.f109), (110, Try.f110), (141, Try.f141), (188, Try.f188), (134, Try.f134), (115, Try.f115), (108, Try.f108), (64, Try.f64), (100, Try.f100), (138, Try.f138), (111, Try.f111), (103, Try.f103), (112, Try.f112), (119, Try.f119), (137, Try.f137), (180, Try.f180), (207, Try.f207), (179, Try.f179), (120, Try.f120), (37, Try.f37), (114, Try.f114), (178, Try.f178), (113, Try.f113), (32, Try.f32), (65, Try.f65), (140, Try.f140), (139, Try.f139), (97, Try.f97), (126, Try.f126), (45, Try.f45), (33, Try.f33), (66, Try.f66), (27, Try.f27), (29, Try.f29), (67, Try.f67), (28, Try.f28), (30, Try.f30), (31, Try.f31), (68, Try.f68), (142, Try.f142), (69, Try.f69), (70, Try.f70), (10, Try.f10)]
noncomputable def fs : Nat → Option Func := getF fsL
theorem MIX : Try.prog.follows .mixedOrders = true := by kernel_rfl
theorem TY : tyCheck Try.prog tb = true := by kernel_rfl
theorem CAT : catCheck tb = true := by kernel_rfl
theorem FSP : FsP Try.prog fsL := ⟨Try.func26, Try.func107, Try.func177, Try.func109, Try.func110, Try.func141, Try.func188, Try.func134, Try.func115, Try.func108, Try.func64, Try.func100, Try.func138, Try.func111, Try.func103, Try.func112, Try.func119, Try.func137, Try.func180, Try.func207, Try.func179, Try.func120, Try.func37, Try.func114, Try.func178, Try.func113, Try.func32, Try.func65, Try.func140, Try.func139, Try.func97, Try.func126, Try.func45, Try.func33, Try.func66, Try.func27, Try.func29, Try.func67, Try.func28, Try.func30, Try.func31, Try.func68, Try.func142, Try.func69, Try.func70, Try.func10, trivial⟩
theorem FSC : (fsL.all fun p => fnChk p.2) = true := by kernel_rfl
theorem FS : FsS Try.prog fs := FsS.of FSP FSC
/-! laws.big: function 26 -/
noncomputable def f_laws_big (x0 : List Int) : Option (Bool) :=
  some (decide ((1048576 : Int) < (x0.length : Int)))
noncomputable def C26 : Con := ⟨[(.B, false, [(.sl R0)])], [(false, [.bool])], [(.sl R0)], [.bool], fun (p : List Int) => f_laws_big p⟩
noncomputable abbrev K26 : Cons := []
noncomputable abbrev L26 : List (Nat × Loops) := []
abbrev Q26 : List (Nat × List (Int × Nat) × Nat) := []
noncomputable abbrev X26 : Nat → Ctx := ctxOf tb K26 L26 Q26
theorem E26 : ∀ x, funRun fs X26 6 26 C26 x = C26.fn x := fun x => by kernel_rfl
theorem B26 : ConB Try.prog 26 C26 := ConB.make FS MIX TY (cons := K26) (L := L26) (ptrs := Q26) trivial trivial trivial rfl rfl E26
theorem S26 : ConS Try.prog 26 C26 := B26.call rfl
/-! spec.l1Byte: function 177 -/
noncomputable def f_spec_l1Byte (x0 : List Int) (x1 : Int) (x2 : Int) : Option (Int × Int × Int) :=
  bif (decide (x1 < (x0.length : Int))) then
    bif ((decide ((0 : Int) ≤ x1)) && (decide (x1 < (x0.length : Int)))) then
    some ((bitI .and .i64 (IntKind.wrap .i64 ((bitI .and .i64 (bitI .xor .i64 (shrI .i64 (IntKind.wrap .i64 ((IntKind.wrap .i64 (x2 * (6364136223846793005 : Int))) + (1442695040888963407 : Int))) (33 : Int)) (shrI .i64 (IntKind.wrap .i64 ((IntKind.wrap .i64 (x2 * (6364136223846793005 : Int))) + (1442695040888963407 : Int))) (45 : Int))) (255 : Int)) + (IntKind.wrap .i64 ((x0.getD x1.toNat 0))))) (255 : Int)), (IntKind.wrap .i64 (x1 + (1 : Int))), (IntKind.wrap .i64 ((IntKind.wrap .i64 (x2 * (6364136223846793005 : Int))) + (1442695040888963407 : Int))))
    else none
  else
    some ((bitI .and .i64 (bitI .xor .i64 (shrI .i64 (IntKind.wrap .i64 ((IntKind.wrap .i64 (x2 * (6364136223846793005 : Int))) + (1442695040888963407 : Int))) (33 : Int)) (shrI .i64 (IntKind.wrap .i64 ((IntKind.wrap .i64 (x2 * (6364136223846793005 : Int))) + (1442695040888963407 : Int))) (45 : Int))) (255 : Int)), x1, (IntKind.wrap .i64 ((IntKind.wrap .i64 (x2 * (6364136223846793005 : Int))) + (1442695040888963407 : Int))))
noncomputable def C177 : Con := ⟨[(.P [false, true, true], false, [(.sl R0), (.int .i64), (.int .i64)])], [(false, [(.int .i64)])], [(.sl R0), (.int .i64), (.int .i64)], [(.int .i64), (.int .i64), (.int .i64)], fun (p : List Int × Int × Int) => f_spec_l1Byte p.1 p.2.1 p.2.2⟩
noncomputable abbrev K177 : Cons := []
noncomputable abbrev L177 : List (Nat × Loops) := []
abbrev Q177 : List (Nat × List (Int × Nat) × Nat) := []
noncomputable abbrev X177 : Nat → Ctx := ctxOf tb K177 L177 Q177
theorem E177 : ∀ x, funG fs X177 6 177 C177 x = C177.fn x := fun x => by kernel_rfl
theorem B177 : ConG Try.prog 177 C177 := ConG.make FS MIX TY (cons := K177) (L := L177) (ptrs := Q177) trivial trivial trivial rfl (by kernel_rfl) E177
theorem S177 : ConS Try.prog 177 C177 := B177.call (by kernel_rfl)
/-! spec.l1Below: function 109 -/
noncomputable def f_spec_l1Below (x0 : List Int) (x1 : Int) (x2 : Int) (x3 : Int) : Option (Int × Int × Int) :=
  bif (decide (x3 ≤ (0 : Int))) then
    some (0, x1, x2)
  else
    bif (decide (x3 ≤ (256 : Int))) then
      (f_spec_l1Byte x0 x1 x2).bind fun y1 =>
      bif (decide (x3 = (0 : Int))) then none else
      some ((Int.tmod y1.1 x3), y1.2.1, y1.2.2)
    else
      (f_spec_l1Byte x0 x1 x2).bind fun y2 =>
      (f_spec_l1Byte x0 y2.2.1 y2.2.2).bind fun y3 =>
      (f_spec_l1Byte x0 y3.2.1 y3.2.2).bind fun y4 =>
      (f_spec_l1Byte x0 y4.2.1 y4.2.2).bind fun y5 =>
      bif (decide (x3 = (0 : Int))) then none else
      some ((Int.tmod (IntKind.wrap .i64 ((IntKind.wrap .i64 ((IntKind.wrap .i64 ((IntKind.wrap .i64 (y2.1 * (16777216 : Int))) + (IntKind.wrap .i64 (y3.1 * (65536 : Int))))) + (IntKind.wrap .i64 (y4.1 * (256 : Int))))) + y5.1)) x3), y5.2.1, y5.2.2)
noncomputable def C109 : Con := ⟨[(.P [false, true, true], false, [(.sl R0), (.int .i64), (.int .i64)]), (.B, false, [(.int .i64)])], [(false, [(.int .i64)])], [(.sl R0), (.int .i64), (.int .i64), (.int .i64)], [(.int .i64), (.int .i64), (.int .i64)], fun (p : List Int × Int × Int × Int) => f_spec_l1Below p.1 p.2.1 p.2.2.1 p.2.2.2⟩
noncomputable abbrev K109 : Cons := [(177, C177)]
noncomputable abbrev L109 : List (Nat × Loops) := []
abbrev Q109 : List (Nat × List (Int × Nat) × Nat) := []
noncomputable abbrev X109 : Nat → Ctx := ctxOf tb K109 L109 Q109
theorem E109 : ∀ x, funG fs X109 6 109 C109 x = C109.fn x := fun x => by kernel_rfl
theorem B109 : ConG Try.prog 109 C109 := ConG.make FS MIX TY (cons := K109) (L := L109) (ptrs := Q109) ⟨S177, trivial⟩ trivial trivial rfl (by kernel_rfl) E109
theorem S109 : ConS Try.prog 109 C109 := B109.call (by kernel_rfl)
/-! spec.l1PickInt: function 110 -/
noncomputable def f_spec_l1PickInt (x0 : List Int) (x1 : Int) (x2 : Int) (x3 : List Int) : Option (Int × Int × Int) :=
  (f_spec_l1Below x0 x1 x2 (x3.length : Int)).bind fun y6 =>
  bif ((decide ((0 : Int) ≤ y6.1)) && (decide (y6.1 < (x3.length : Int)))) then
  some ((x3.getD y6.1.toNat 0), y6.2.1, y6.2.2)
  else none
noncomputable def C110 : Con := ⟨[(.P [false, true, true], false, [(.sl R0), (.int .i64), (.int .i64)]), (.B, false, [(.sl R1)])], [(false, [(.int .i64)])], [(.sl R0), (.int .i64), (.int .i64), (.sl R1)], [(.int .i64), (.int .i64), (.int .i64)], fun (p : List Int × Int × Int × List Int) => f_spec_l1PickInt p.1 p.2.1 p.2.2.1 p.2.2.2⟩
noncomputable abbrev K110 : Cons := [(109, C109)]
noncomputable abbrev L110 : List (Nat × Loops) := []
abbrev Q110 : List (Nat × List (Int × Nat) × Nat) := []
noncomputable abbrev X110 : Nat → Ctx := ctxOf tb K110 L110 Q110
theorem E110 : ∀ x, funG fs X110 6 110 C110 x = C110.fn x := fun x => by kernel_rfl
theorem B110 : ConG Try.prog 110 C110 := ConG.make FS MIX TY (cons := K110) (L := L110) (ptrs := Q110) ⟨S109, trivial⟩ trivial trivial rfl (by kernel_rfl) E110
theorem S110 : ConS Try.prog 110 C110 := B110.call (by kernel_rfl)
/-! spec.l1Once: function 141 -/
noncomputable def f_spec_l1Once (x0 : List Int) (x1 : Int) (x2 : Int) (x3 : Int) : Option (Bool × Int × Int) :=
  (f_spec_l1Below x0 x1 x2 x3).bind fun y7 =>
  some ((decide (y7.1 = (0 : Int))), y7.2.1, y7.2.2)
noncomputable def C141 : Con := ⟨[(.P [false, true, true], false, [(.sl R0), (.int .i64), (.int .i64)]), (.B, false, [(.int .i64)])], [(false, [.bool])], [(.sl R0), (.int .i64), (.int .i64), (.int .i64)], [.bool, (.int .i64), (.int .i64)], fun (p : List Int × Int × Int × Int) => f_spec_l1Once p.1 p.2.1 p.2.2.1 p.2.2.2⟩
noncomputable abbrev K141 : Cons := [(109, C109)]
noncomputable abbrev L141 : List (Nat × Loops) := []
abbrev Q141 : List (Nat × List (Int × Nat) × Nat) := []
noncomputable abbrev X141 : Nat → Ctx := ctxOf tb K141 L141 Q141
theorem E141 : ∀ x, funG fs X141 6 141 C141 x = C141.fn x := fun x => by kernel_rfl
theorem B141 : ConG Try.prog 141 C141 := ConG.make FS MIX TY (cons := K141) (L := L141) (ptrs := Q141) ⟨S109, trivial⟩ trivial trivial rfl (by kernel_rfl) E141
theorem S141 : ConS Try.prog 141 C141 := B141.call (by kernel_rfl)
/-! spec.l1DrawList: function 188 -/
noncomputable def f_spec_l1DrawList.l0 : Nat → Int → (List Int) → Int → Int → (List Int) → Option (List Int × Int × Int × List Int)
  | 0, _, _, _, _, _ => none
  | n + 1, p8, p9, p10, p11, p12 =>
    bif (decide (p8 < (4 : Int))) then
      (f_spec_l1PickInt p9 p10 p11 ([0, 1, 5, 300, 65535] : List Int)).bind fun y13 =>
      bif (Nat.blt (p12.length + ([y13.1] : List Int).length) 17592186044416) then
      (some ((p12 ++ ([y13.1] : List Int)) : List Int)).bind fun z14 =>
      f_spec_l1DrawList.l0 n (IntKind.wrap .i64 (p8 + (1 : Int))) p9 y13.2.1 y13.2.2 z14
      else none
    else
      some (p9, p10, p11, p12)
noncomputable def f_spec_l1DrawList (x0 : List Int) (x1 : Int) (x2 : Int) : Option (List Int × Int × Int) :=
  (f_spec_l1DrawList.l0 N 0 x0 x1 x2 ([] : List Int)).bind fun r15 =>
  some (r15.2.2.2, r15.2.1, r15.2.2.1)
noncomputable def C188 : Con := ⟨[(.P [false, true, true], false, [(.sl R0), (.int .i64), (.int .i64)])], [(false, [(.sl R1)])], [(.sl R0), (.int .i64), (.int .i64)], [(.sl R1), (.int .i64), (.int .i64)], fun (p : List Int × Int × Int) => f_spec_l1DrawList p.1 p.2.1 p.2.2⟩
noncomputable def f_spec_l1DrawList.l0.c : LoopCon := ⟨1000, 6, [0, 2, 3, 4], ⟨[(0, .ptr 500 0), (2, .nil (some R1)), (3, .ref 1000 [] none), (4, .int .i64 0)], [(500, .box [.bor (some 0) R0 [], .int .i64 0, .int .i64 0]), (1000, .row R1 [])], 1001⟩, [(.int .i64), (.sl R0), (.int .i64), (.int .i64), (.sl R1)], [⟨.exit 0, [2, 3], ⟨[(2, .nil (some R1)), (3, .ref 1000 [] none)], [(500, .box [.bor (some 0) R0 [], .int .i64 0, .int .i64 0]), (1000, .row R1 [])], 1001⟩, [(.sl R0), (.int .i64), (.int .i64), (.sl R1)]⟩], fun (p : Int × List Int × Int × Int × List Int) => f_spec_l1DrawList.l0 N p.1 p.2.1 p.2.2.1 p.2.2.2.1 p.2.2.2.2⟩
noncomputable abbrev K188 : Cons := [(110, C110)]
noncomputable abbrev L188 : List (Nat × Loops) := [(188, [(3, f_spec_l1DrawList.l0.c)])]
abbrev Q188 : List (Nat × List (Int × Nat) × Nat) := []
noncomputable abbrev X188 : Nat → Ctx := ctxOf tb K188 L188 Q188
theorem f_spec_l1DrawList.l0.ok : ∀ n p, (fun (p : Int × List Int × Int × Int × List Int) => f_spec_l1DrawList.l0 n p.1 p.2.1 p.2.2.1 p.2.2.2.1 p.2.2.2.2) p = iterD (roundOf fs X188 6 188 3 false f_spec_l1DrawList.l0.c) n p :=
  iter_of (l := fun n => fun (p : Int × List Int × Int × Int × List Int) => f_spec_l1DrawList.l0 n p.1 p.2.1 p.2.2.1 p.2.2.2.1 p.2.2.2.2) (fun _ => rfl) (fun n p => by kernel_rfl)
theorem E188 : ∀ x, funG fs X188 6 188 C188 x = C188.fn x := fun x => by kernel_rfl
theorem B188 : ConG Try.prog 188 C188 := ConG.make FS MIX TY (cons := K188) (L := L188) (ptrs := Q188) ⟨S110, trivial⟩ trivial ⟨⟨⟨N, fun p => f_spec_l1DrawList.l0.ok N p⟩, trivial⟩, trivial⟩ rfl (by kernel_rfl) E188
theorem S188 : ConS Try.prog 188 C188 := B188.call (by kernel_rfl)
/-! spec.l1DrawRight: function 134 -/
noncomputable def f_spec_l1DrawRight (x0 : List Int) (x1 : Int) (x2 : Int) : Option (Int × Int × Bool × List Int × Int × Int) :=
  (f_spec_l1Below x0 x1 x2 7).bind fun y16 =>
  (f_spec_l1Below x0 y16.2.1 y16.2.2 6).bind fun y17 =>
  bif (decide ((IntKind.wrap .i64 ((1 : Int) + y16.1)) = (3 : Int))) then
    (f_spec_l1Once x0 y17.2.1 y17.2.2 2).bind fun y18 =>
    bif (decide ((IntKind.wrap .i64 ((1 : Int) + y16.1)) = (3 : Int))) then
      (f_spec_l1DrawList x0 y18.2.1 y18.2.2).bind fun y19 =>
      some ((IntKind.wrap .i64 ((1 : Int) + y16.1)), y17.1, y18.1, y19.1, y19.2.1, y19.2.2)
    else
      bif (decide ((IntKind.wrap .i64 ((1 : Int) + y16.1)) = (7 : Int))) then
        (f_spec_l1DrawList x0 y18.2.1 y18.2.2).bind fun y20 =>
        some ((IntKind.wrap .i64 ((1 : Int) + y16.1)), y17.1, y18.1, y20.1, y20.2.1, y20.2.2)
      else
        some ((IntKind.wrap .i64 ((1 : Int) + y16.1)), y17.1, y18.1, [], y18.2.1, y18.2.2)
  else
    bif (decide ((IntKind.wrap .i64 ((1 : Int) + y16.1)) = (6 : Int))) then
      (f_spec_l1Once x0 y17.2.1 y17.2.2 2).bind fun y21 =>
      bif (decide ((IntKind.wrap .i64 ((1 : Int) + y16.1)) = (3 : Int))) then
        (f_spec_l1DrawList x0 y21.2.1 y21.2.2).bind fun y22 =>
        some ((IntKind.wrap .i64 ((1 : Int) + y16.1)), y17.1, y21.1, y22.1, y22.2.1, y22.2.2)
      else
        bif (decide ((IntKind.wrap .i64 ((1 : Int) + y16.1)) = (7 : Int))) then
          (f_spec_l1DrawList x0 y21.2.1 y21.2.2).bind fun y23 =>
          some ((IntKind.wrap .i64 ((1 : Int) + y16.1)), y17.1, y21.1, y23.1, y23.2.1, y23.2.2)
        else
          some ((IntKind.wrap .i64 ((1 : Int) + y16.1)), y17.1, y21.1, [], y21.2.1, y21.2.2)
    else
      bif (decide ((IntKind.wrap .i64 ((1 : Int) + y16.1)) = (3 : Int))) then
        (f_spec_l1DrawList x0 y17.2.1 y17.2.2).bind fun y24 =>
        some ((IntKind.wrap .i64 ((1 : Int) + y16.1)), y17.1, false, y24.1, y24.2.1, y24.2.2)
      else
        bif (decide ((IntKind.wrap .i64 ((1 : Int) + y16.1)) = (7 : Int))) then
          (f_spec_l1DrawList x0 y17.2.1 y17.2.2).bind fun y25 =>
          some ((IntKind.wrap .i64 ((1 : Int) + y16.1)), y17.1, false, y25.1, y25.2.1, y25.2.2)
        else
          some ((IntKind.wrap .i64 ((1 : Int) + y16.1)), y17.1, false, [], y17.2.1, y17.2.2)
noncomputable def C134 : Con := ⟨[(.P [false, true, true], false, [(.sl R0), (.int .i64), (.int .i64)])], [(true, [(.int .i64), (.int .i64), .bool, (.sl R1)])], [(.sl R0), (.int .i64), (.int .i64)], [(.int .i64), (.int .i64), .bool, (.sl R1), (.int .i64), (.int .i64)], fun (p : List Int × Int × Int) => f_spec_l1DrawRight p.1 p.2.1 p.2.2⟩
noncomputable abbrev K134 : Cons := [(109, C109), (141, C141), (188, C188)]
noncomputable abbrev L134 : List (Nat × Loops) := []
abbrev Q134 : List (Nat × List (Int × Nat) × Nat) := []
noncomputable abbrev X134 : Nat → Ctx := ctxOf tb K134 L134 Q134
theorem E134 : ∀ x, funG fs X134 6 134 C134 x = C134.fn x := fun x => by kernel_rfl
theorem B134 : ConG Try.prog 134 C134 := ConG.make FS MIX TY (cons := K134) (L := L134) (ptrs := Q134) ⟨S109, S141, S188, trivial⟩ trivial trivial rfl (by kernel_rfl) E134
theorem S134 : ConS Try.prog 134 C134 := B134.call (by kernel_rfl)
/-! spec.l1Draw: function 115 -/
noncomputable def f_spec_l1Draw (x0 : List Int) (x1 : Int) (x2 : Int) : Option (Int × Int × Bool × List Int × Int × Int) :=
  (f_spec_l1DrawRight x0 x1 x2).bind fun y26 =>
  (f_spec_l1Below x0 y26.2.2.2.2.1 y26.2.2.2.2.2 12).bind fun y27 =>
  bif (decide (y27.1 = (0 : Int))) then
    (f_spec_l1Below x0 y27.2.1 y27.2.2 9).bind fun y28 =>
    some (y28.1, y26.2.1, y26.2.2.1, y26.2.2.2.1, y28.2.1, y28.2.2)
  else
    bif (decide (y27.1 = (1 : Int))) then
      (f_spec_l1PickInt x0 y27.2.1 y27.2.2 ([-1, 6] : List Int)).bind fun y29 =>
      some (y26.1, y29.1, y26.2.2.1, y26.2.2.2.1, y29.2.1, y29.2.2)
    else
      bif (decide (y27.1 = (2 : Int))) then
        some (y26.1, y26.2.1, (!y26.2.2.1), y26.2.2.2.1, y27.2.1, y27.2.2)
      else
        bif (decide (y27.1 = (3 : Int))) then
          (f_spec_l1PickInt x0 y27.2.1 y27.2.2 ([-1, 3, 65536] : List Int)).bind fun y30 =>
          bif (Nat.blt (y26.2.2.2.1.length + ([y30.1] : List Int).length) 17592186044416) then
          (some ((y26.2.2.2.1 ++ ([y30.1] : List Int)) : List Int)).bind fun z31 =>
          some (y26.1, y26.2.1, y26.2.2.1, z31, y30.2.1, y30.2.2)
          else none
        else
          some (y26.1, y26.2.1, y26.2.2.1, y26.2.2.2.1, y27.2.1, y27.2.2)
noncomputable def C115 : Con := ⟨[(.P [false, true, true], false, [(.sl R0), (.int .i64), (.int .i64)])], [(true, [(.int .i64), (.int .i64), .bool, (.sl R1)])], [(.sl R0), (.int .i64), (.int .i64)], [(.int .i64), (.int .i64), .bool, (.sl R1), (.int .i64), (.int .i64)], fun (p : List Int × Int × Int) => f_spec_l1Draw p.1 p.2.1 p.2.2⟩
noncomputable abbrev K115 : Cons := [(109, C109), (110, C110), (134, C134)]
noncomputable abbrev L115 : List (Nat × Loops) := []
abbrev Q115 : List (Nat × List (Int × Nat) × Nat) := []
noncomputable abbrev X115 : Nat → Ctx := ctxOf tb K115 L115 Q115
theorem E115 : ∀ x, funG fs X115 6 115 C115 x = C115.fn x := fun x => by kernel_rfl
theorem B115 : ConG Try.prog 115 C115 := ConG.make FS MIX TY (cons := K115) (L := L115) (ptrs := Q115) ⟨S109, S110, S134, trivial⟩ trivial trivial rfl (by kernel_rfl) E115
theorem S115 : ConS Try.prog 115 C115 := B115.call (by kernel_rfl)
/-! spec.l2Draw: function 108 -/
noncomputable def f_spec_l2Draw.l1 : Nat → (List Int) → Int → Int → Int → Int → (List (Int × Int × Bool × List Int)) → (List (Int × Int × Bool × List Int)) → Option (List Int × Int × Int × Int × Int × (List (Int × Int × Bool × List Int)) × (List (Int × Int × Bool × List Int)))
  | 0, _, _, _, _, _, _, _ => none
  | n + 1, p49, p50, p51, p52, p53, p54, p55 =>
    (f_spec_l1Below p49 p50 p51 2).bind fun y56 =>
    bif (decide ((p55.length : Int) < (IntKind.wrap .i64 ((30 : Int) + y56.1)))) then
      bif (Nat.blt (p55.length + ([(5, 0, false, [])] : List (Int × Int × Bool × List Int)).length) 2932031007402) then
      (some ((p55 ++ ([(5, 0, false, [])] : List (Int × Int × Bool × List Int))) : List (Int × Int × Bool × List Int))).bind fun z57 =>
      f_spec_l2Draw.l1 n p49 y56.2.1 y56.2.2 p52 p53 p54 z57
      else none
    else
      some (p49, y56.2.1, y56.2.2, p52, p53, p54, p55)
noncomputable def f_spec_l2Draw.l0 : Nat → Int → (List Int) → Int → Int → Int → Int → (List (Int × Int × Bool × List Int)) → (List (Int × Int × Bool × List Int)) → Option (List Int × Int × Int × Int × Int × (List (Int × Int × Bool × List Int)) × (List (Int × Int × Bool × List Int)))
  | 0, _, _, _, _, _, _, _, _ => none
  | n + 1, p33, p34, p35, p36, p37, p38, p39, p40 =>
    (f_spec_l1Below p34 p35 p36 5).bind fun y41 =>
    bif (decide (p33 < y41.1)) then
      (f_spec_l1DrawRight p34 y41.2.1 y41.2.2).bind fun y42 =>
      bif (Nat.blt (p40.length + ([(y42.1, y42.2.1, y42.2.2.1, y42.2.2.2.1)] : List (Int × Int × Bool × List Int)).length) 2932031007402) then
      (some ((p40 ++ ([(y42.1, y42.2.1, y42.2.2.1, y42.2.2.2.1)] : List (Int × Int × Bool × List Int))) : List (Int × Int × Bool × List Int))).bind fun z43 =>
      f_spec_l2Draw.l0 n (IntKind.wrap .i64 (p33 + (1 : Int))) p34 y42.2.2.2.2.1 y42.2.2.2.2.2 p37 p38 p39 z43
      else none
    else
      some (p34, y41.2.1, y41.2.2, p37, p38, p39, p40)
noncomputable def f_spec_l2Draw (x0 : List Int) (x1 : Int) (x2 : Int) : Option (Int × (List (Int × Int × Bool × List Int)) × Int × Int) :=
  (f_spec_l1PickInt x0 x1 x2 ([0, 0, 3, 50] : List Int)).bind fun y32 =>
  (f_spec_l2Draw.l0 N 0 x0 y32.2.1 y32.2.2 0 y32.1 ([] : List (Int × Int × Bool × List Int)) ([] : List (Int × Int × Bool × List Int))).bind fun r44 =>
  (f_spec_l1Below r44.1 r44.2.1 r44.2.2.1 12).bind fun y45 =>
  bif (decide (y45.1 = (0 : Int))) then
    (f_spec_l1PickInt r44.1 y45.2.1 y45.2.2 ([-1, 100000, 99998, 100001] : List Int)).bind fun y46 =>
    some (y46.1, r44.2.2.2.2.2.2, y46.2.1, y46.2.2)
  else
    bif (decide (y45.1 = (1 : Int))) then
      (f_spec_l1Draw r44.1 y45.2.1 y45.2.2).bind fun y47 =>
      bif (Nat.blt (r44.2.2.2.2.2.2.length + ([(y47.1, y47.2.1, y47.2.2.1, y47.2.2.2.1)] : List (Int × Int × Bool × List Int)).length) 2932031007402) then
      (some ((r44.2.2.2.2.2.2 ++ ([(y47.1, y47.2.1, y47.2.2.1, y47.2.2.2.1)] : List (Int × Int × Bool × List Int))) : List (Int × Int × Bool × List Int))).bind fun z48 =>
      some (r44.2.2.2.2.1, z48, y47.2.2.2.2.1, y47.2.2.2.2.2)
      else none
    else
      bif (decide (y45.1 = (2 : Int))) then
        (f_spec_l2Draw.l1 N r44.1 y45.2.1 y45.2.2 r44.2.2.2.1 r44.2.2.2.2.1 r44.2.2.2.2.2.1 r44.2.2.2.2.2.2).bind fun r58 =>
        some (r58.2.2.2.2.1, r58.2.2.2.2.2.2, r58.2.1, r58.2.2.1)
      else
        some (r44.2.2.2.2.1, r44.2.2.2.2.2.2, y45.2.1, y45.2.2)
noncomputable def C108 : Con := ⟨[(.P [false, true, true], false, [(.sl R0), (.int .i64), (.int .i64)])], [(true, [(.int .i64), (.sl R2)])], [(.sl R0), (.int .i64), (.int .i64)], [(.int .i64), (.sl R2), (.int .i64), (.int .i64)], fun (p : List Int × Int × Int) => f_spec_l2Draw p.1 p.2.1 p.2.2⟩
noncomputable def f_spec_l2Draw.l0.c : LoopCon := ⟨1000, 6, [0, 2, 3, 4], ⟨[(0, .ptr 500 0), (2, .ptr 1000 0), (3, .ptr 1001 0), (4, .int .i64 0)], [(500, .box [.bor (some 0) R0 [], .int .i64 0, .int .i64 0]), (1000, .box [.int .i64 0, .ref 1002 [] none]), (1001, .box [.int .i64 0, .ref 1003 [] none]), (1002, .row R2 []), (1003, .row R2 [])], 1004⟩, [(.int .i64), (.sl R0), (.int .i64), (.int .i64), (.int .i64), (.int .i64), (.sl R2), (.sl R2)], [⟨.exit 0, [0, 2, 3], ⟨[(0, .ptr 500 0), (2, .ptr 1000 0), (3, .ptr 1001 0)], [(500, .box [.bor (some 0) R0 [], .int .i64 0, .int .i64 0]), (1000, .box [.int .i64 0, .ref 1002 [] none]), (1001, .box [.int .i64 0, .ref 1003 [] none]), (1002, .row R2 []), (1003, .row R2 [])], 1004⟩, [(.sl R0), (.int .i64), (.int .i64), (.int .i64), (.int .i64), (.sl R2), (.sl R2)]⟩], fun (p : Int × List Int × Int × Int × Int × Int × (List (Int × Int × Bool × List Int)) × (List (Int × Int × Bool × List Int))) => f_spec_l2Draw.l0 N p.1 p.2.1 p.2.2.1 p.2.2.2.1 p.2.2.2.2.1 p.2.2.2.2.2.1 p.2.2.2.2.2.2.1 p.2.2.2.2.2.2.2⟩
noncomputable def f_spec_l2Draw.l1.c : LoopCon := ⟨1000, 6, [0, 2, 3], ⟨[(0, .ptr 500 0), (2, .ptr 1000 0), (3, .ptr 1001 0)], [(500, .box [.bor (some 0) R0 [], .int .i64 0, .int .i64 0]), (1000, .box [.int .i64 0, .ref 1002 [] none]), (1001, .box [.int .i64 0, .ref 1003 [] none]), (1002, .row R2 []), (1003, .row R2 [])], 1004⟩, [(.sl R0), (.int .i64), (.int .i64), (.int .i64), (.int .i64), (.sl R2), (.sl R2)], [⟨.exit 3, [2, 3], ⟨[(2, .ptr 1000 0), (3, .ptr 1001 0)], [(500, .box [.bor (some 0) R0 [], .int .i64 0, .int .i64 0]), (1000, .box [.int .i64 0, .ref 1002 [] none]), (1001, .box [.int .i64 0, .ref 1003 [] none]), (1002, .row R2 []), (1003, .row R2 [])], 1004⟩, [(.sl R0), (.int .i64), (.int .i64), (.int .i64), (.int .i64), (.sl R2), (.sl R2)]⟩], fun (p : List Int × Int × Int × Int × Int × (List (Int × Int × Bool × List Int)) × (List (Int × Int × Bool × List Int))) => f_spec_l2Draw.l1 N p.1 p.2.1 p.2.2.1 p.2.2.2.1 p.2.2.2.2.1 p.2.2.2.2.2.1 p.2.2.2.2.2.2⟩
noncomputable abbrev K108 : Cons := [(109, C109), (110, C110), (115, C115), (134, C134)]
noncomputable abbrev L108 : List (Nat × Loops) := [(108, [(3, f_spec_l2Draw.l0.c), (12, f_spec_l2Draw.l1.c)])]
abbrev Q108 : List (Nat × List (Int × Nat) × Nat) := []
noncomputable abbrev X108 : Nat → Ctx := ctxOf tb K108 L108 Q108
theorem f_spec_l2Draw.l0.ok : ∀ n p, (fun (p : Int × List Int × Int × Int × Int × Int × (List (Int × Int × Bool × List Int)) × (List (Int × Int × Bool × List Int))) => f_spec_l2Draw.l0 n p.1 p.2.1 p.2.2.1 p.2.2.2.1 p.2.2.2.2.1 p.2.2.2.2.2.1 p.2.2.2.2.2.2.1 p.2.2.2.2.2.2.2) p = iterD (roundOf fs X108 6 108 3 false f_spec_l2Draw.l0.c) n p :=
  iter_of (l := fun n => fun (p : Int × List Int × Int × Int × Int × Int × (List (Int × Int × Bool × List Int)) × (List (Int × Int × Bool × List Int))) => f_spec_l2Draw.l0 n p.1 p.2.1 p.2.2.1 p.2.2.2.1 p.2.2.2.2.1 p.2.2.2.2.2.1 p.2.2.2.2.2.2.1 p.2.2.2.2.2.2.2) (fun _ => rfl) (fun n p => by kernel_rfl)
theorem f_spec_l2Draw.l1.ok : ∀ n p, (fun (p : List Int × Int × Int × Int × Int × (List (Int × Int × Bool × List Int)) × (List (Int × Int × Bool × List Int))) => f_spec_l2Draw.l1 n p.1 p.2.1 p.2.2.1 p.2.2.2.1 p.2.2.2.2.1 p.2.2.2.2.2.1 p.2.2.2.2.2.2) p = iterD (roundOf fs X108 6 108 12 false f_spec_l2Draw.l1.c) n p :=
  iter_of (l := fun n => fun (p : List Int × Int × Int × Int × Int × (List (Int × Int × Bool × List Int)) × (List (Int × Int × Bool × List Int))) => f_spec_l2Draw.l1 n p.1 p.2.1 p.2.2.1 p.2.2.2.1 p.2.2.2.2.1 p.2.2.2.2.2.1 p.2.2.2.2.2.2) (fun _ => rfl) (fun n p => by kernel_rfl)
theorem E108 : ∀ x, funG fs X108 6 108 C108 x = C108.fn x := fun x => by kernel_rfl
theorem B108 : ConG Try.prog 108 C108 := ConG.make FS MIX TY (cons := K108) (L := L108) (ptrs := Q108) ⟨S109, S110, S115, S134, trivial⟩ trivial ⟨⟨⟨N, fun p => f_spec_l2Draw.l0.ok N p⟩, ⟨N, fun p => f_spec_l2Draw.l1.ok N p⟩, trivial⟩, trivial⟩ rfl (by kernel_rfl) E108
theorem S108 : ConS Try.prog 108 C108 := B108.call (by kernel_rfl)
/-! spec.DrawQueue: function 64 -/
noncomputable def f_spec_DrawQueue.l0 : Nat → (List Int) → Int → Int → Int → Int → Int → Bool → Option (List Int × Int × Int × Int × Int × Bool)
  | 0, _, _, _, _, _, _, _ => none
  | n + 1, p59, p60, p61, p62, p63, p64, p65 =>
    bif (decide (p61 < (p59.length : Int))) then
      bif (decide (p61 < (4000 : Int))) then
        bif ((decide ((0 : Int) ≤ p61)) && (decide (p61 < (p59.length : Int)))) then
        f_spec_DrawQueue.l0 n p59 (bitI .and .i64 (IntKind.wrap .i64 ((IntKind.wrap .i64 ((IntKind.wrap .i64 (p60 * (131 : Int))) + (IntKind.wrap .i64 ((p59.getD p61.toNat 0))))) + (7 : Int))) (1073741823 : Int)) (IntKind.wrap .i64 (p61 + (1 : Int))) p62 p63 p64 p65
        else none
      else
        some (p59, p60, p62, p63, p64, p65)
    else
      some (p59, p60, p62, p63, p64, p65)
noncomputable def f_spec_DrawQueue (x0 : List Int) : Option (Int × (List (Int × Int × Bool × List Int)) × Int × Int × Bool × List Int) :=
  (f_spec_DrawQueue.l0 N x0 (IntKind.wrap .i64 ((20404 : Int) + (x0.length : Int))) 0 0 0 0 false).bind fun r66 =>
  (f_spec_l2Draw r66.1 0 r66.2.1).bind fun y67 =>
  (f_spec_l1Draw r66.1 y67.2.2.1 y67.2.2.2).bind fun y68 =>
  some (y67.1, y67.2.1, y68.1, y68.2.1, y68.2.2.1, y68.2.2.2.1)
noncomputable def C64 : Con := ⟨[(.B, false, [(.sl R0)])], [(true, [(.int .i64), (.sl R2)]), (true, [(.int .i64), (.int .i64), .bool, (.sl R1)])], [(.sl R0)], [(.int .i64), (.sl R2), (.int .i64), (.int .i64), .bool, (.sl R1)], fun (p : List Int) => f_spec_DrawQueue p⟩
noncomputable def f_spec_DrawQueue.l0.c : LoopCon := ⟨1081, 5, [0, 3, 4], ⟨[(0, .bor none R0 []), (3, .int .i64 0), (4, .int .i64 0)], [(1001, .box [.int .i64 0, .nil (some R2)]), (1017, .box [.int .i64 0, .int .i64 0, .bool false, .nil (some R1)])], 1081⟩, [(.sl R0), (.int .i64), (.int .i64), (.int .i64), (.int .i64), (.int .i64), .bool], [⟨.exit 0, [0, 3], ⟨[(0, .bor none R0 []), (3, .int .i64 0)], [(1001, .box [.int .i64 0, .nil (some R2)]), (1017, .box [.int .i64 0, .int .i64 0, .bool false, .nil (some R1)])], 1081⟩, [(.sl R0), (.int .i64), (.int .i64), (.int .i64), (.int .i64), .bool]⟩], fun (p : List Int × Int × Int × Int × Int × Int × Bool) => f_spec_DrawQueue.l0 N p.1 p.2.1 p.2.2.1 p.2.2.2.1 p.2.2.2.2.1 p.2.2.2.2.2.1 p.2.2.2.2.2.2⟩
noncomputable abbrev K64 : Cons := [(108, C108), (115, C115)]
noncomputable abbrev L64 : List (Nat × Loops) := [(107, [(3, f_spec_DrawQueue.l0.c)])]
abbrev Q64 : List (Nat × List (Int × Nat) × Nat) := []
noncomputable abbrev X64 : Nat → Ctx := ctxOf tb K64 L64 Q64
theorem f_spec_DrawQueue.l0.ok : ∀ n p, (fun (p : List Int × Int × Int × Int × Int × Int × Bool) => f_spec_DrawQueue.l0 n p.1 p.2.1 p.2.2.1 p.2.2.2.1 p.2.2.2.2.1 p.2.2.2.2.2.1 p.2.2.2.2.2.2) p = iterD (roundOf fs X64 5 107 3 true f_spec_DrawQueue.l0.c) n p :=
  iter_of (l := fun n => fun (p : List Int × Int × Int × Int × Int × Int × Bool) => f_spec_DrawQueue.l0 n p.1 p.2.1 p.2.2.1 p.2.2.2.1 p.2.2.2.2.1 p.2.2.2.2.2.1 p.2.2.2.2.2.2) (fun _ => rfl) (fun n p => by kernel_rfl)
theorem E64 : ∀ x, funRun fs X64 6 64 C64 x = C64.fn x := fun x => by kernel_rfl
theorem B64 : ConB Try.prog 64 C64 := ConB.make FS MIX TY (cons := K64) (L := L64) (ptrs := Q64) ⟨S108, S115, trivial⟩ trivial ⟨⟨⟨N, fun p => f_spec_DrawQueue.l0.ok N p⟩, trivial⟩, trivial⟩ rfl rfl E64
theorem S64 : ConS Try.prog 64 C64 := B64.call rfl
/-! slices.Clone[[]int,int]: function 100 -/
noncomputable def f_slices_Clone_int_int (x0 : List Int) : Option (List Int) := bif Nat.blt (0 + x0.length) 17592186044416 then some x0 else none
noncomputable def C100 : Con := ⟨[(.B, false, [(.sl R1)])], [(false, [(.sl R1)])], [(.sl R1)], [(.sl R1)], f_slices_Clone_int_int⟩
noncomputable abbrev X100 : Nat → Ctx := ctxOf tb [] [] []
theorem E100 : ∀ x : List R1.den, bodyRun fs X100 6 100 C100 [] [] [.bor (some 1000) R1 x] [] = f_slices_Clone_int_int x := fun x => by kernel_rfl
theorem Z100 : bodyRun fs X100 6 100 C100 [] [] [.nil (some R1)] [] = f_slices_Clone_int_int ([] : List R1.den) := by kernel_rfl
theorem B100 : ConB Try.prog 100 C100 := ConB.copy FS MIX TY (cons := []) (L := []) (ptrs := []) trivial trivial trivial rfl E100 Z100
theorem S100 : ConS Try.prog 100 C100 := B100.call rfl
/-! impl.copyMsg: function 138 -/
noncomputable def f_impl_copyMsg (x0 : Int) (x1 : Int) (x2 : Bool) (x3 : List Int) : Option (Int × Int × Bool × List Int) :=
  (f_slices_Clone_int_int x3).bind fun y69 =>
  some (x0, x1, x2, y69)
noncomputable def C138 : Con := ⟨[(.B, true, [(.int .i64), (.int .i64), .bool, (.sl R1)])], [(true, [(.int .i64), (.int .i64), .bool, (.sl R1)])], [(.int .i64), (.int .i64), .bool, (.sl R1)], [(.int .i64), (.int .i64), .bool, (.sl R1)], fun (p : Int × Int × Bool × List Int) => f_impl_copyMsg p.1 p.2.1 p.2.2.1 p.2.2.2⟩
noncomputable abbrev K138 : Cons := [(100, C100)]
noncomputable abbrev L138 : List (Nat × Loops) := []
abbrev Q138 : List (Nat × List (Int × Nat) × Nat) := []
noncomputable abbrev X138 : Nat → Ctx := ctxOf tb K138 L138 Q138
theorem E138 : ∀ x, funRun fs X138 6 138 C138 x = C138.fn x := fun x => by kernel_rfl
theorem B138 : ConB Try.prog 138 C138 := ConB.make FS MIX TY (cons := K138) (L := L138) (ptrs := Q138) ⟨S100, trivial⟩ trivial trivial rfl rfl E138
theorem S138 : ConS Try.prog 138 C138 := B138.call rfl
/-! impl.copySender: function 111 -/
noncomputable def f_impl_copySender.l0 : Nat → (List (Int × Int × Bool × List Int)) → Int → Int → Int → Int → (List (Int × Int × Bool × List Int)) → (List (Int × Int × Bool × List Int)) → Option (Int × Int × (List (Int × Int × Bool × List Int)) × (List (Int × Int × Bool × List Int)))
  | 0, _, _, _, _, _, _, _ => none
  | n + 1, p70, p71, p72, p73, p74, p75, p76 =>
    bif (decide (p72 < p71)) then
      bif ((decide ((0 : Int) ≤ p72)) && (decide (p72 < (p70.length : Int)))) then
      (f_impl_copyMsg ((p70.getD p72.toNat (0, 0, false, [])).1) ((p70.getD p72.toNat (0, 0, false, [])).2.1) ((p70.getD p72.toNat (0, 0, false, [])).2.2.1) ((p70.getD p72.toNat (0, 0, false, [])).2.2.2)).bind fun y77 =>
      bif (Nat.blt (p76.length + ([(y77.1, y77.2.1, y77.2.2.1, y77.2.2.2)] : List (Int × Int × Bool × List Int)).length) 2932031007402) then
      (some ((p76 ++ ([(y77.1, y77.2.1, y77.2.2.1, y77.2.2.2)] : List (Int × Int × Bool × List Int))) : List (Int × Int × Bool × List Int))).bind fun z78 =>
      f_impl_copySender.l0 n p70 p71 (IntKind.wrap .i64 (p72 + (1 : Int))) p73 p74 p75 z78
      else none
      else none
    else
      some (p73, p74, p75, p76)
noncomputable def f_impl_copySender (x0 : Int) (x1 : List (Int × Int × Bool × List Int)) : Option (Int × (List (Int × Int × Bool × List Int))) :=
  (f_impl_copySender.l0 N x1 (x1.length : Int) 0 0 x0 ([] : List (Int × Int × Bool × List Int)) ([] : List (Int × Int × Bool × List Int))).bind fun r79 =>
  some (r79.2.1, r79.2.2.2)
noncomputable def C111 : Con := ⟨[(.B, true, [(.int .i64), (.sl R2)])], [(true, [(.int .i64), (.sl R2)])], [(.int .i64), (.sl R2)], [(.int .i64), (.sl R2)], fun (p : Int × (List (Int × Int × Bool × List Int))) => f_impl_copySender p.1 p.2⟩
noncomputable def f_impl_copySender.l0.c : LoopCon := ⟨1000, 6, [2, 3, 10, 11, 12], ⟨[(2, .ptr 1000 0), (3, .ptr 1001 0), (10, .bor none R2 []), (11, .int .i64 0), (12, .int .i64 0)], [(1000, .box [.int .i64 0, .ref 1002 [] none]), (1001, .box [.int .i64 0, .ref 1003 [] none]), (1002, .row R2 []), (1003, .row R2 [])], 1004⟩, [(.sl R2), (.int .i64), (.int .i64), (.int .i64), (.int .i64), (.sl R2), (.sl R2)], [⟨.exit 0, [2, 3], ⟨[(2, .ptr 1000 0), (3, .ptr 1001 0)], [(1000, .box [.int .i64 0, .ref 1002 [] none]), (1001, .box [.int .i64 0, .ref 1003 [] none]), (1002, .row R2 []), (1003, .row R2 [])], 1004⟩, [(.int .i64), (.int .i64), (.sl R2), (.sl R2)]⟩], fun (p : (List (Int × Int × Bool × List Int)) × Int × Int × Int × Int × (List (Int × Int × Bool × List Int)) × (List (Int × Int × Bool × List Int))) => f_impl_copySender.l0 N p.1 p.2.1 p.2.2.1 p.2.2.2.1 p.2.2.2.2.1 p.2.2.2.2.2.1 p.2.2.2.2.2.2⟩
noncomputable abbrev K111 : Cons := [(138, C138)]
noncomputable abbrev L111 : List (Nat × Loops) := [(111, [(3, f_impl_copySender.l0.c)])]
abbrev Q111 : List (Nat × List (Int × Nat) × Nat) := []
noncomputable abbrev X111 : Nat → Ctx := ctxOf tb K111 L111 Q111
theorem f_impl_copySender.l0.ok : ∀ n p, (fun (p : (List (Int × Int × Bool × List Int)) × Int × Int × Int × Int × (List (Int × Int × Bool × List Int)) × (List (Int × Int × Bool × List Int))) => f_impl_copySender.l0 n p.1 p.2.1 p.2.2.1 p.2.2.2.1 p.2.2.2.2.1 p.2.2.2.2.2.1 p.2.2.2.2.2.2) p = iterD (roundOf fs X111 6 111 3 false f_impl_copySender.l0.c) n p :=
  iter_of (l := fun n => fun (p : (List (Int × Int × Bool × List Int)) × Int × Int × Int × Int × (List (Int × Int × Bool × List Int)) × (List (Int × Int × Bool × List Int))) => f_impl_copySender.l0 n p.1 p.2.1 p.2.2.1 p.2.2.2.1 p.2.2.2.2.1 p.2.2.2.2.2.1 p.2.2.2.2.2.2) (fun _ => rfl) (fun n p => by kernel_rfl)
theorem E111 : ∀ x, funRun fs X111 6 111 C111 x = C111.fn x := fun x => by kernel_rfl
theorem B111 : ConB Try.prog 111 C111 := ConB.make FS MIX TY (cons := K111) (L := L111) (ptrs := Q111) ⟨S138, trivial⟩ trivial ⟨⟨⟨N, fun p => f_impl_copySender.l0.ok N p⟩, trivial⟩, trivial⟩ rfl rfl E111
theorem S111 : ConS Try.prog 111 C111 := B111.call rfl
/-! impl.from: function 103 -/
noncomputable def f_impl_from (x0 : Int) (x1 : Int) (x2 : Int) : Option (Bool) :=
  bif (decide (x1 ≤ x0)) then
    some (decide (x0 ≤ x2))
  else
    some false
noncomputable def C103 : Con := ⟨[(.B, false, [(.int .i64)]), (.B, false, [(.int .i64)]), (.B, false, [(.int .i64)])], [(false, [.bool])], [(.int .i64), (.int .i64), (.int .i64)], [.bool], fun (p : Int × Int × Int) => f_impl_from p.1 p.2.1 p.2.2⟩
noncomputable abbrev K103 : Cons := []
noncomputable abbrev L103 : List (Nat × Loops) := []
abbrev Q103 : List (Nat × List (Int × Nat) × Nat) := []
noncomputable abbrev X103 : Nat → Ctx := ctxOf tb K103 L103 Q103
theorem E103 : ∀ x, funRun fs X103 6 103 C103 x = C103.fn x := fun x => by kernel_rfl
theorem B103 : ConB Try.prog 103 C103 := ConB.make FS MIX TY (cons := K103) (L := L103) (ptrs := Q103) trivial trivial trivial rfl rfl E103
theorem S103 : ConS Try.prog 103 C103 := B103.call rfl
/-! impl.isSeq: function 112 -/
noncomputable def f_impl_isSeq (x0 : Int) : Option (Bool) :=
  (f_impl_from x0 0 100000).bind fun y80 =>
  some y80
noncomputable def C112 : Con := ⟨[(.B, false, [(.int .i64)])], [(false, [.bool])], [(.int .i64)], [.bool], fun (p : Int) => f_impl_isSeq p⟩
noncomputable abbrev K112 : Cons := [(103, C103)]
noncomputable abbrev L112 : List (Nat × Loops) := []
abbrev Q112 : List (Nat × List (Int × Nat) × Nat) := []
noncomputable abbrev X112 : Nat → Ctx := ctxOf tb K112 L112 Q112
theorem E112 : ∀ x, funRun fs X112 6 112 C112 x = C112.fn x := fun x => by kernel_rfl
theorem B112 : ConB Try.prog 112 C112 := ConB.make FS MIX TY (cons := K112) (L := L112) (ptrs := Q112) ⟨S103, trivial⟩ trivial trivial rfl rfl E112
theorem S112 : ConS Try.prog 112 C112 := B112.call rfl
/-! impl.isPage: function 119 -/
noncomputable def f_impl_isPage (x0 : Int) : Option (Bool) :=
  (f_impl_from x0 0 5).bind fun y81 =>
  some y81
noncomputable def C119 : Con := ⟨[(.B, false, [(.int .i64)])], [(false, [.bool])], [(.int .i64)], [.bool], fun (p : Int) => f_impl_isPage p⟩
noncomputable abbrev K119 : Cons := [(103, C103)]
noncomputable abbrev L119 : List (Nat × Loops) := []
abbrev Q119 : List (Nat × List (Int × Nat) × Nat) := []
noncomputable abbrev X119 : Nat → Ctx := ctxOf tb K119 L119 Q119
theorem E119 : ∀ x, funRun fs X119 6 119 C119 x = C119.fn x := fun x => by kernel_rfl
theorem B119 : ConB Try.prog 119 C119 := ConB.make FS MIX TY (cons := K119) (L := L119) (ptrs := Q119) ⟨S103, trivial⟩ trivial trivial rfl rfl E119
theorem S119 : ConS Try.prog 119 C119 := B119.call rfl
/-! impl.isWord: function 137 -/
noncomputable def f_impl_isWord (x0 : Int) : Option (Bool) :=
  (f_impl_from x0 0 65535).bind fun y82 =>
  some y82
noncomputable def C137 : Con := ⟨[(.B, false, [(.int .i64)])], [(false, [.bool])], [(.int .i64)], [.bool], fun (p : Int) => f_impl_isWord p⟩
noncomputable abbrev K137 : Cons := [(103, C103)]
noncomputable abbrev L137 : List (Nat × Loops) := []
abbrev Q137 : List (Nat × List (Int × Nat) × Nat) := []
noncomputable abbrev X137 : Nat → Ctx := ctxOf tb K137 L137 Q137
theorem E137 : ∀ x, funRun fs X137 6 137 C137 x = C137.fn x := fun x => by kernel_rfl
theorem B137 : ConB Try.prog 137 C137 := ConB.make FS MIX TY (cons := K137) (L := L137) (ptrs := Q137) ⟨S103, trivial⟩ trivial trivial rfl rfl E137
theorem S137 : ConS Try.prog 137 C137 := B137.call rfl
/-! impl.wordsOk$1: function 180 -/
noncomputable def f_impl_wordsOk_1 (x0 : Int) : Option (Bool) :=
  (f_impl_isWord x0).bind fun y83 =>
  some (!y83)
noncomputable def C180 : Con := ⟨[(.B, false, [(.int .i64)])], [(false, [.bool])], [(.int .i64)], [.bool], fun (p : Int) => f_impl_wordsOk_1 p⟩
noncomputable abbrev K180 : Cons := [(137, C137)]
noncomputable abbrev L180 : List (Nat × Loops) := []
abbrev Q180 : List (Nat × List (Int × Nat) × Nat) := []
noncomputable abbrev X180 : Nat → Ctx := ctxOf tb K180 L180 Q180
theorem E180 : ∀ x, funRun fs X180 6 180 C180 x = C180.fn x := fun x => by kernel_rfl
theorem B180 : ConB Try.prog 180 C180 := ConB.make FS MIX TY (cons := K180) (L := L180) (ptrs := Q180) ⟨S137, trivial⟩ trivial trivial rfl rfl E180
theorem S180 : ConS Try.prog 180 C180 := B180.call rfl
/-! impl.wordsOk: function 120 -/
noncomputable def f_impl_wordsOk.l0 : Nat → (List Int) → Int → Int → Int → Option ((Int) ⊕ (Int))
  | 0, _, _, _, _ => none
  | n + 1, p84, p85, p86, p87 =>
    bif (decide (p87 < p86)) then
      bif ((decide ((0 : Int) ≤ p87)) && (decide (p87 < (p84.length : Int)))) then
      (f_impl_wordsOk_1 (p84.getD p87.toNat 0)).bind fun y88 =>
      bif y88 then
        some (.inl p87)
      else
        f_impl_wordsOk.l0 n p84 p85 p86 (IntKind.wrap .i64 (p87 + (1 : Int)))
      else none
    else
      some (.inr p85)
noncomputable def f_impl_wordsOk (x0 : List Int) (x1 : Int) : Option (Bool) :=
  bif (decide ((x0.length : Int) = x1)) then
    (f_impl_wordsOk.l0 N x0 0 (x0.length : Int) 0).bind fun r89 =>
    cs r89 (fun a90 =>
      some (!(decide ((0 : Int) ≤ a90)))) (fun b91 =>
      some true)
  else
    some false
noncomputable def C120 : Con := ⟨[(.B, false, [(.sl R1)]), (.B, false, [(.int .i64)])], [(false, [.bool])], [(.sl R1), (.int .i64)], [.bool], fun (p : List Int × Int) => f_impl_wordsOk p.1 p.2⟩
noncomputable def f_impl_wordsOk.l0.c : LoopCon := ⟨1274, 4, [0, 1, 4, 7, 8], ⟨[(0, .bor none R1 []), (1, .func 180 []), (4, .int .i64 0), (7, .int .i64 0), (8, .int .i64 0)], [], 1274⟩, [(.sl R1), (.int .i64), (.int .i64), (.int .i64)], [⟨.ret, [4], ⟨[(4, .int .i64 0)], [], 1274⟩, [(.int .i64)]⟩, ⟨.exit 0, [4], ⟨[(4, .int .i64 0)], [], 1274⟩, [(.int .i64)]⟩], fun (p : List Int × Int × Int × Int) => f_impl_wordsOk.l0 N p.1 p.2.1 p.2.2.1 p.2.2.2⟩
noncomputable abbrev K120 : Cons := [(180, C180)]
noncomputable abbrev L120 : List (Nat × Loops) := [(207, [(2, f_impl_wordsOk.l0.c)])]
abbrev Q120 : List (Nat × List (Int × Nat) × Nat) := []
noncomputable abbrev X120 : Nat → Ctx := ctxOf tb K120 L120 Q120
theorem f_impl_wordsOk.l0.ok : ∀ n p, (fun (p : List Int × Int × Int × Int) => f_impl_wordsOk.l0 n p.1 p.2.1 p.2.2.1 p.2.2.2) p = iterD (roundOf fs X120 4 207 2 true f_impl_wordsOk.l0.c) n p :=
  iter_of (l := fun n => fun (p : List Int × Int × Int × Int) => f_impl_wordsOk.l0 n p.1 p.2.1 p.2.2.1 p.2.2.2) (fun _ => rfl) (fun n p => by kernel_rfl)
theorem E120 : ∀ x, funRun fs X120 6 120 C120 x = C120.fn x := fun x => by kernel_rfl
theorem B120 : ConB Try.prog 120 C120 := ConB.make FS MIX TY (cons := K120) (L := L120) (ptrs := Q120) ⟨S180, trivial⟩ trivial ⟨⟨⟨N, fun p => f_impl_wordsOk.l0.ok N p⟩, trivial⟩, trivial⟩ rfl rfl E120
theorem S120 : ConS Try.prog 120 C120 := B120.call rfl
/-! impl.MsgOk: function 37 -/
noncomputable def f_impl_MsgOk (x0 : Int) (x1 : Int) (x2 : Bool) (x3 : List Int) : Option (Bool) :=
  (f_impl_from x0 1 7).bind fun y92 =>
  bif (!y92) then
    some false
  else
    (f_impl_isPage x1).bind fun y93 =>
    bif (!y93) then
      some false
    else
      bif x2 then
        bif (!(decide (x0 = (3 : Int)))) then
          bif (!(decide (x0 = (6 : Int)))) then
            some false
          else
            bif (decide (x0 = (3 : Int))) then
              (f_impl_wordsOk x3 4).bind fun y94 =>
              some y94
            else
              bif (decide (x0 = (7 : Int))) then
                (f_impl_wordsOk x3 4).bind fun y95 =>
                some y95
              else
                some (decide ((x3.length : Int) = (0 : Int)))
        else
          bif (decide (x0 = (3 : Int))) then
            (f_impl_wordsOk x3 4).bind fun y96 =>
            some y96
          else
            bif (decide (x0 = (7 : Int))) then
              (f_impl_wordsOk x3 4).bind fun y97 =>
              some y97
            else
              some (decide ((x3.length : Int) = (0 : Int)))
      else
        bif (decide (x0 = (3 : Int))) then
          (f_impl_wordsOk x3 4).bind fun y98 =>
          some y98
        else
          bif (decide (x0 = (7 : Int))) then
            (f_impl_wordsOk x3 4).bind fun y99 =>
            some y99
          else
            some (decide ((x3.length : Int) = (0 : Int)))
noncomputable def C37 : Con := ⟨[(.B, true, [(.int .i64), (.int .i64), .bool, (.sl R1)])], [(false, [.bool])], [(.int .i64), (.int .i64), .bool, (.sl R1)], [.bool], fun (p : Int × Int × Bool × List Int) => f_impl_MsgOk p.1 p.2.1 p.2.2.1 p.2.2.2⟩
noncomputable abbrev K37 : Cons := [(103, C103), (119, C119), (120, C120)]
noncomputable abbrev L37 : List (Nat × Loops) := []
abbrev Q37 : List (Nat × List (Int × Nat) × Nat) := []
noncomputable abbrev X37 : Nat → Ctx := ctxOf tb K37 L37 Q37
theorem E37 : ∀ x, funRun fs X37 6 37 C37 x = C37.fn x := fun x => by kernel_rfl
theorem B37 : ConB Try.prog 37 C37 := ConB.make FS MIX TY (cons := K37) (L := L37) (ptrs := Q37) ⟨S103, S119, S120, trivial⟩ trivial trivial rfl rfl E37
theorem S37 : ConS Try.prog 37 C37 := B37.call rfl
/-! impl.SenderOk$1: function 114 -/
noncomputable def f_impl_SenderOk_1 (x0 : Int) (x1 : Int) (x2 : Bool) (x3 : List Int) : Option (Bool) :=
  (f_impl_MsgOk x0 x1 x2 x3).bind fun y100 =>
  some (!y100)
noncomputable def C114 : Con := ⟨[(.B, true, [(.int .i64), (.int .i64), .bool, (.sl R1)])], [(false, [.bool])], [(.int .i64), (.int .i64), .bool, (.sl R1)], [.bool], fun (p : Int × Int × Bool × List Int) => f_impl_SenderOk_1 p.1 p.2.1 p.2.2.1 p.2.2.2⟩
noncomputable abbrev K114 : Cons := [(37, C37)]
noncomputable abbrev L114 : List (Nat × Loops) := []
abbrev Q114 : List (Nat × List (Int × Nat) × Nat) := []
noncomputable abbrev X114 : Nat → Ctx := ctxOf tb K114 L114 Q114
theorem E114 : ∀ x, funRun fs X114 6 114 C114 x = C114.fn x := fun x => by kernel_rfl
theorem B114 : ConB Try.prog 114 C114 := ConB.make FS MIX TY (cons := K114) (L := L114) (ptrs := Q114) ⟨S37, trivial⟩ trivial trivial rfl rfl E114
theorem S114 : ConS Try.prog 114 C114 := B114.call rfl
/-! impl.SenderOk: function 32 -/
noncomputable def f_impl_SenderOk.l0 : Nat → (List (Int × Int × Bool × List Int)) → Int → Int → Int → Int → (List (Int × Int × Bool × List Int)) → Option ((Int × Int × (List (Int × Int × Bool × List Int))) ⊕ (Int × Int × (List (Int × Int × Bool × List Int))))
  | 0, _, _, _, _, _, _ => none
  | n + 1, p102, p103, p104, p105, p106, p107 =>
    bif (decide (p105 < p104)) then
      bif ((decide ((0 : Int) ≤ p105)) && (decide (p105 < (p102.length : Int)))) then
      (f_impl_SenderOk_1 ((p102.getD p105.toNat (0, 0, false, [])).1) ((p102.getD p105.toNat (0, 0, false, [])).2.1) ((p102.getD p105.toNat (0, 0, false, [])).2.2.1) ((p102.getD p105.toNat (0, 0, false, [])).2.2.2)).bind fun y108 =>
      bif y108 then
        some (.inl (p105, p106, p107))
      else
        f_impl_SenderOk.l0 n p102 p103 p104 (IntKind.wrap .i64 (p105 + (1 : Int))) p106 p107
      else none
    else
      some (.inr (p103, p106, p107))
noncomputable def f_impl_SenderOk (x0 : Int) (x1 : List (Int × Int × Bool × List Int)) : Option (Bool) :=
  (f_impl_isSeq x0).bind fun y101 =>
  bif y101 then
    bif (decide ((x1.length : Int) ≤ (30 : Int))) then
      bif (decide ((IntKind.wrap .i64 (x0 + (x1.length : Int))) ≤ (100000 : Int))) then
        (f_impl_SenderOk.l0 N x1 0 (x1.length : Int) 0 x0 x1).bind fun r109 =>
        cs r109 (fun a110 =>
          some (!(decide ((0 : Int) ≤ a110.1)))) (fun b111 =>
          some true)
      else
        some false
    else
      some false
  else
    some false
noncomputable def C32 : Con := ⟨[(.B, true, [(.int .i64), (.sl R2)])], [(false, [.bool])], [(.int .i64), (.sl R2)], [.bool], fun (p : Int × (List (Int × Int × Bool × List Int))) => f_impl_SenderOk p.1 p.2⟩
noncomputable def f_impl_SenderOk.l0.c : LoopCon := ⟨1530, 4, [0, 1, 4, 7, 8], ⟨[(0, .bor none R2 []), (1, .func 114 []), (4, .int .i64 0), (7, .int .i64 0), (8, .int .i64 0)], [(1002, .box [.int .i64 0, .bor (some 1) R2 []])], 1530⟩, [(.sl R2), (.int .i64), (.int .i64), (.int .i64), (.int .i64), (.sl R2)], [⟨.ret, [4], ⟨[(4, .int .i64 0)], [(1002, .box [.int .i64 0, .bor (some 1) R2 []])], 1530⟩, [(.int .i64), (.int .i64), (.sl R2)]⟩, ⟨.exit 0, [4], ⟨[(4, .int .i64 0)], [(1002, .box [.int .i64 0, .bor (some 1) R2 []])], 1530⟩, [(.int .i64), (.int .i64), (.sl R2)]⟩], fun (p : (List (Int × Int × Bool × List Int)) × Int × Int × Int × Int × (List (Int × Int × Bool × List Int))) => f_impl_SenderOk.l0 N p.1 p.2.1 p.2.2.1 p.2.2.2.1 p.2.2.2.2.1 p.2.2.2.2.2⟩
noncomputable abbrev K32 : Cons := [(112, C112), (114, C114)]
noncomputable abbrev L32 : List (Nat × Loops) := [(178, [(2, f_impl_SenderOk.l0.c)])]
abbrev Q32 : List (Nat × List (Int × Nat) × Nat) := []
noncomputable abbrev X32 : Nat → Ctx := ctxOf tb K32 L32 Q32
theorem f_impl_SenderOk.l0.ok : ∀ n p, (fun (p : (List (Int × Int × Bool × List Int)) × Int × Int × Int × Int × (List (Int × Int × Bool × List Int))) => f_impl_SenderOk.l0 n p.1 p.2.1 p.2.2.1 p.2.2.2.1 p.2.2.2.2.1 p.2.2.2.2.2) p = iterD (roundOf fs X32 4 178 2 true f_impl_SenderOk.l0.c) n p :=
  iter_of (l := fun n => fun (p : (List (Int × Int × Bool × List Int)) × Int × Int × Int × Int × (List (Int × Int × Bool × List Int))) => f_impl_SenderOk.l0 n p.1 p.2.1 p.2.2.1 p.2.2.2.1 p.2.2.2.2.1 p.2.2.2.2.2) (fun _ => rfl) (fun n p => by kernel_rfl)
theorem E32 : ∀ x, funRun fs X32 6 32 C32 x = C32.fn x := fun x => by kernel_rfl
theorem B32 : ConB Try.prog 32 C32 := ConB.make FS MIX TY (cons := K32) (L := L32) (ptrs := Q32) ⟨S112, S114, trivial⟩ trivial ⟨⟨⟨N, fun p => f_impl_SenderOk.l0.ok N p⟩, trivial⟩, trivial⟩ rfl rfl E32
theorem S32 : ConS Try.prog 32 C32 := B32.call rfl
/-! impl.Queue: function 65 -/
noncomputable def f_impl_Queue (x0 : Int) (x1 : List (Int × Int × Bool × List Int)) (x2 : Int) (x3 : Int) (x4 : Bool) (x5 : List Int) : Option (Int × (List (Int × Int × Bool × List Int)) × Bool) :=
  (f_impl_copySender x0 x1).bind fun y112 =>
  (f_impl_SenderOk y112.1 y112.2).bind fun y113 =>
  bif (!y113) then
    some (y112.1, y112.2, false)
  else
    (f_impl_MsgOk x2 x3 x4 x5).bind fun y114 =>
    bif (!y114) then
      some (y112.1, y112.2, false)
    else
      bif (decide ((y112.2.length : Int) = (30 : Int))) then
        some (y112.1, y112.2, false)
      else
        bif (decide ((IntKind.wrap .i64 (y112.1 + (y112.2.length : Int))) = (100000 : Int))) then
          some (y112.1, y112.2, false)
        else
          (f_impl_copyMsg x2 x3 x4 x5).bind fun y115 =>
          bif (Nat.blt (y112.2.length + ([(y115.1, y115.2.1, y115.2.2.1, y115.2.2.2)] : List (Int × Int × Bool × List Int)).length) 2932031007402) then
          (some ((y112.2 ++ ([(y115.1, y115.2.1, y115.2.2.1, y115.2.2.2)] : List (Int × Int × Bool × List Int))) : List (Int × Int × Bool × List Int))).bind fun z116 =>
          some (y112.1, z116, true)
          else none
noncomputable def C65 : Con := ⟨[(.B, true, [(.int .i64), (.sl R2)]), (.B, true, [(.int .i64), (.int .i64), .bool, (.sl R1)])], [(true, [(.int .i64), (.sl R2)]), (false, [.bool])], [(.int .i64), (.sl R2), (.int .i64), (.int .i64), .bool, (.sl R1)], [(.int .i64), (.sl R2), .bool], fun (p : Int × (List (Int × Int × Bool × List Int)) × Int × Int × Bool × List Int) => f_impl_Queue p.1 p.2.1 p.2.2.1 p.2.2.2.1 p.2.2.2.2.1 p.2.2.2.2.2⟩
noncomputable abbrev K65 : Cons := [(32, C32), (37, C37), (111, C111), (138, C138)]
noncomputable abbrev L65 : List (Nat × Loops) := []
abbrev Q65 : List (Nat × List (Int × Nat) × Nat) := []
noncomputable abbrev X65 : Nat → Ctx := ctxOf tb K65 L65 Q65
theorem E65 : ∀ x, funRun fs X65 6 65 C65 x = C65.fn x := fun x => by kernel_rfl
theorem B65 : ConB Try.prog 65 C65 := ConB.make FS MIX TY (cons := K65) (L := L65) (ptrs := Q65) ⟨S32, S37, S111, S138, trivial⟩ trivial trivial rfl rfl E65
theorem S65 : ConS Try.prog 65 C65 := B65.call rfl
/-! spec.l1Msg: function 140 -/
noncomputable def f_spec_l1Msg (x0 : Int) (x1 : Int) (x2 : Bool) (x3 : List Int) : Option (Int × Int × Bool × List Int) :=
  bif (Nat.blt (([] : List Int).length + x3.length) 17592186044416) then
  (some ((([] : List Int) ++ x3) : List Int)).bind fun z117 =>
  some (x0, x1, x2, z117)
  else none
noncomputable def C140 : Con := ⟨[(.B, true, [(.int .i64), (.int .i64), .bool, (.sl R1)])], [(true, [(.int .i64), (.int .i64), .bool, (.sl R1)])], [(.int .i64), (.int .i64), .bool, (.sl R1)], [(.int .i64), (.int .i64), .bool, (.sl R1)], fun (p : Int × Int × Bool × List Int) => f_spec_l1Msg p.1 p.2.1 p.2.2.1 p.2.2.2⟩
noncomputable abbrev K140 : Cons := []
noncomputable abbrev L140 : List (Nat × Loops) := []
abbrev Q140 : List (Nat × List (Int × Nat) × Nat) := []
noncomputable abbrev X140 : Nat → Ctx := ctxOf tb K140 L140 Q140
theorem E140 : ∀ x, funRun fs X140 6 140 C140 x = C140.fn x := fun x => by kernel_rfl
theorem B140 : ConB Try.prog 140 C140 := ConB.make FS MIX TY (cons := K140) (L := L140) (ptrs := Q140) trivial trivial trivial rfl rfl E140
theorem S140 : ConS Try.prog 140 C140 := B140.call rfl
/-! spec.l2Sender: function 139 -/
noncomputable def f_spec_l2Sender.l0 : Nat → Int → Int → (List (Int × Int × Bool × List Int)) → Int → Int → (List (Int × Int × Bool × List Int)) → (List (Int × Int × Bool × List Int)) → Option (Int × Int × (List (Int × Int × Bool × List Int)) × (List (Int × Int × Bool × List Int)))
  | 0, _, _, _, _, _, _, _ => none
  | n + 1, p118, p119, p120, p121, p122, p123, p124 =>
    bif (decide (p118 < (p120.length : Int))) then
      bif ((decide ((0 : Int) ≤ p118)) && (decide (p118 < (p120.length : Int)))) then
      (f_spec_l1Msg ((p120.getD p118.toNat (0, 0, false, [])).1) ((p120.getD p118.toNat (0, 0, false, [])).2.1) ((p120.getD p118.toNat (0, 0, false, [])).2.2.1) ((p120.getD p118.toNat (0, 0, false, [])).2.2.2)).bind fun y125 =>
      bif (Nat.blt (p124.length + ([(y125.1, y125.2.1, y125.2.2.1, y125.2.2.2)] : List (Int × Int × Bool × List Int)).length) 2932031007402) then
      (some ((p124 ++ ([(y125.1, y125.2.1, y125.2.2.1, y125.2.2.2)] : List (Int × Int × Bool × List Int))) : List (Int × Int × Bool × List Int))).bind fun z126 =>
      f_spec_l2Sender.l0 n (IntKind.wrap .i64 (p118 + (1 : Int))) p119 p120 p121 p122 p123 z126
      else none
      else none
    else
      some (p121, p122, p123, p124)
noncomputable def f_spec_l2Sender (x0 : Int) (x1 : List (Int × Int × Bool × List Int)) : Option (Int × (List (Int × Int × Bool × List Int))) :=
  (f_spec_l2Sender.l0 N 0 x0 x1 0 x0 ([] : List (Int × Int × Bool × List Int)) ([] : List (Int × Int × Bool × List Int))).bind fun r127 =>
  some (r127.2.1, r127.2.2.2)
noncomputable def C139 : Con := ⟨[(.B, true, [(.int .i64), (.sl R2)])], [(true, [(.int .i64), (.sl R2)])], [(.int .i64), (.sl R2)], [(.int .i64), (.sl R2)], fun (p : Int × (List (Int × Int × Bool × List Int))) => f_spec_l2Sender p.1 p.2⟩
noncomputable def f_spec_l2Sender.l0.c : LoopCon := ⟨1000, 6, [1, 2, 3, 4], ⟨[(1, .ptr 1000 0), (2, .ptr 1001 0), (3, .ptr 1002 0), (4, .int .i64 0)], [(1000, .box [.int .i64 0, .bor none R2 []]), (1001, .box [.int .i64 0, .ref 1003 [] none]), (1002, .box [.int .i64 0, .ref 1004 [] none]), (1003, .row R2 []), (1004, .row R2 [])], 1005⟩, [(.int .i64), (.int .i64), (.sl R2), (.int .i64), (.int .i64), (.sl R2), (.sl R2)], [⟨.exit 0, [2, 3], ⟨[(2, .ptr 1000 0), (3, .ptr 1001 0)], [(1000, .box [.int .i64 0, .ref 1002 [] none]), (1001, .box [.int .i64 0, .ref 1003 [] none]), (1002, .row R2 []), (1003, .row R2 [])], 1004⟩, [(.int .i64), (.int .i64), (.sl R2), (.sl R2)]⟩], fun (p : Int × Int × (List (Int × Int × Bool × List Int)) × Int × Int × (List (Int × Int × Bool × List Int)) × (List (Int × Int × Bool × List Int))) => f_spec_l2Sender.l0 N p.1 p.2.1 p.2.2.1 p.2.2.2.1 p.2.2.2.2.1 p.2.2.2.2.2.1 p.2.2.2.2.2.2⟩
noncomputable abbrev K139 : Cons := [(140, C140)]
noncomputable abbrev L139 : List (Nat × Loops) := [(139, [(3, f_spec_l2Sender.l0.c)])]
abbrev Q139 : List (Nat × List (Int × Nat) × Nat) := []
noncomputable abbrev X139 : Nat → Ctx := ctxOf tb K139 L139 Q139
theorem f_spec_l2Sender.l0.ok : ∀ n p, (fun (p : Int × Int × (List (Int × Int × Bool × List Int)) × Int × Int × (List (Int × Int × Bool × List Int)) × (List (Int × Int × Bool × List Int))) => f_spec_l2Sender.l0 n p.1 p.2.1 p.2.2.1 p.2.2.2.1 p.2.2.2.2.1 p.2.2.2.2.2.1 p.2.2.2.2.2.2) p = iterD (roundOf fs X139 6 139 3 false f_spec_l2Sender.l0.c) n p :=
  iter_of (l := fun n => fun (p : Int × Int × (List (Int × Int × Bool × List Int)) × Int × Int × (List (Int × Int × Bool × List Int)) × (List (Int × Int × Bool × List Int))) => f_spec_l2Sender.l0 n p.1 p.2.1 p.2.2.1 p.2.2.2.1 p.2.2.2.2.1 p.2.2.2.2.2.1 p.2.2.2.2.2.2) (fun _ => rfl) (fun n p => by kernel_rfl)
theorem E139 : ∀ x, funRun fs X139 6 139 C139 x = C139.fn x := fun x => by kernel_rfl
theorem B139 : ConB Try.prog 139 C139 := ConB.make FS MIX TY (cons := K139) (L := L139) (ptrs := Q139) ⟨S140, trivial⟩ trivial ⟨⟨⟨N, fun p => f_spec_l2Sender.l0.ok N p⟩, trivial⟩, trivial⟩ rfl rfl E139
theorem S139 : ConS Try.prog 139 C139 := B139.call rfl
/-! spec.l1In: function 97 -/
noncomputable def f_spec_l1In (x0 : Int) (x1 : Int) (x2 : Int) : Option (Bool) :=
  bif (decide (x1 ≤ x0)) then
    some (decide (x0 ≤ x2))
  else
    some false
noncomputable def C97 : Con := ⟨[(.B, false, [(.int .i64)]), (.B, false, [(.int .i64)]), (.B, false, [(.int .i64)])], [(false, [.bool])], [(.int .i64), (.int .i64), (.int .i64)], [.bool], fun (p : Int × Int × Int) => f_spec_l1In p.1 p.2.1 p.2.2⟩
noncomputable abbrev K97 : Cons := []
noncomputable abbrev L97 : List (Nat × Loops) := []
abbrev Q97 : List (Nat × List (Int × Nat) × Nat) := []
noncomputable abbrev X97 : Nat → Ctx := ctxOf tb K97 L97 Q97
theorem E97 : ∀ x, funRun fs X97 6 97 C97 x = C97.fn x := fun x => by kernel_rfl
theorem B97 : ConB Try.prog 97 C97 := ConB.make FS MIX TY (cons := K97) (L := L97) (ptrs := Q97) trivial trivial trivial rfl rfl E97
theorem S97 : ConS Try.prog 97 C97 := B97.call rfl
/-! spec.l1Words: function 126 -/
noncomputable def f_spec_l1Words.l0 : Nat → (List Int) → Int → Bool → Int → Option ((Bool) ⊕ (List Int × Int × Bool))
  | 0, _, _, _, _ => none
  | n + 1, p128, p129, p130, p131 =>
    bif (decide (p131 < (p128.length : Int))) then
      bif ((decide ((0 : Int) ≤ p131)) && (decide (p131 < (p128.length : Int)))) then
      (f_spec_l1In (p128.getD p131.toNat 0) 0 65535).bind fun y132 =>
      bif (!y132) then
        some (.inl false)
      else
        f_spec_l1Words.l0 n p128 p129 p130 (IntKind.wrap .i64 (p131 + (1 : Int)))
      else none
    else
      some (.inr (p128, p129, p130))
noncomputable def f_spec_l1Words (x0 : List Int) (x1 : Int) : Option (Bool) :=
  (f_spec_l1Words.l0 N x0 x1 false 0).bind fun r133 =>
  cs r133 (fun a134 =>
    some a134) (fun b135 =>
    some (decide ((b135.1.length : Int) = b135.2.1)))
noncomputable def C126 : Con := ⟨[(.B, false, [(.sl R1)]), (.B, false, [(.int .i64)])], [(false, [.bool])], [(.sl R1), (.int .i64)], [.bool], fun (p : List Int × Int) => f_spec_l1Words p.1 p.2⟩
noncomputable def f_spec_l1Words.l0.c : LoopCon := ⟨1000, 6, [0, 1, 4, 5], ⟨[(0, .bor none R1 []), (1, .int .i64 0), (4, .bool false), (5, .int .i64 0)], [], 1000⟩, [(.sl R1), (.int .i64), .bool, (.int .i64)], [⟨.ret, [4], ⟨[(4, .bool false)], [], 1000⟩, [.bool]⟩, ⟨.exit 0, [0, 1, 4], ⟨[(0, .bor none R1 []), (1, .int .i64 0), (4, .bool false)], [], 1000⟩, [(.sl R1), (.int .i64), .bool]⟩], fun (p : List Int × Int × Bool × Int) => f_spec_l1Words.l0 N p.1 p.2.1 p.2.2.1 p.2.2.2⟩
noncomputable abbrev K126 : Cons := [(97, C97)]
noncomputable abbrev L126 : List (Nat × Loops) := [(126, [(2, f_spec_l1Words.l0.c)])]
abbrev Q126 : List (Nat × List (Int × Nat) × Nat) := []
noncomputable abbrev X126 : Nat → Ctx := ctxOf tb K126 L126 Q126
theorem f_spec_l1Words.l0.ok : ∀ n p, (fun (p : List Int × Int × Bool × Int) => f_spec_l1Words.l0 n p.1 p.2.1 p.2.2.1 p.2.2.2) p = iterD (roundOf fs X126 6 126 2 false f_spec_l1Words.l0.c) n p :=
  iter_of (l := fun n => fun (p : List Int × Int × Bool × Int) => f_spec_l1Words.l0 n p.1 p.2.1 p.2.2.1 p.2.2.2) (fun _ => rfl) (fun n p => by kernel_rfl)
theorem E126 : ∀ x, funRun fs X126 6 126 C126 x = C126.fn x := fun x => by kernel_rfl
theorem B126 : ConB Try.prog 126 C126 := ConB.make FS MIX TY (cons := K126) (L := L126) (ptrs := Q126) ⟨S97, trivial⟩ trivial ⟨⟨⟨N, fun p => f_spec_l1Words.l0.ok N p⟩, trivial⟩, trivial⟩ rfl rfl E126
theorem S126 : ConS Try.prog 126 C126 := B126.call rfl
/-! spec.MsgOk: function 45 -/
noncomputable def f_spec_MsgOk (x0 : Int) (x1 : Int) (x2 : Bool) (x3 : List Int) : Option (Bool) :=
  bif (decide (x0 = (3 : Int))) then
    bif (decide (x0 = (3 : Int))) then
      (f_spec_l1In x0 1 7).bind fun y136 =>
      bif y136 then
        (f_spec_l1In x1 0 5).bind fun y137 =>
        bif y137 then
          (f_spec_l1Words x3 4).bind fun y138 =>
          some y138
        else
          some false
      else
        some false
    else
      (f_spec_l1In x0 1 7).bind fun y139 =>
      bif y139 then
        (f_spec_l1In x1 0 5).bind fun y140 =>
        bif y140 then
          bif (decide (x0 = (6 : Int))) then
            (f_spec_l1Words x3 4).bind fun y141 =>
            some y141
          else
            bif (!x2) then
              (f_spec_l1Words x3 4).bind fun y142 =>
              some y142
            else
              some false
        else
          some false
      else
        some false
  else
    bif (decide (x0 = (7 : Int))) then
      bif (decide (x0 = (3 : Int))) then
        (f_spec_l1In x0 1 7).bind fun y143 =>
        bif y143 then
          (f_spec_l1In x1 0 5).bind fun y144 =>
          bif y144 then
            (f_spec_l1Words x3 4).bind fun y145 =>
            some y145
          else
            some false
        else
          some false
      else
        (f_spec_l1In x0 1 7).bind fun y146 =>
        bif y146 then
          (f_spec_l1In x1 0 5).bind fun y147 =>
          bif y147 then
            bif (decide (x0 = (6 : Int))) then
              (f_spec_l1Words x3 4).bind fun y148 =>
              some y148
            else
              bif (!x2) then
                (f_spec_l1Words x3 4).bind fun y149 =>
                some y149
              else
                some false
          else
            some false
        else
          some false
    else
      bif (decide (x0 = (3 : Int))) then
        (f_spec_l1In x0 1 7).bind fun y150 =>
        bif y150 then
          (f_spec_l1In x1 0 5).bind fun y151 =>
          bif y151 then
            (f_spec_l1Words x3 0).bind fun y152 =>
            some y152
          else
            some false
        else
          some false
      else
        (f_spec_l1In x0 1 7).bind fun y153 =>
        bif y153 then
          (f_spec_l1In x1 0 5).bind fun y154 =>
          bif y154 then
            bif (decide (x0 = (6 : Int))) then
              (f_spec_l1Words x3 0).bind fun y155 =>
              some y155
            else
              bif (!x2) then
                (f_spec_l1Words x3 0).bind fun y156 =>
                some y156
              else
                some false
          else
            some false
        else
          some false
noncomputable def C45 : Con := ⟨[(.B, true, [(.int .i64), (.int .i64), .bool, (.sl R1)])], [(false, [.bool])], [(.int .i64), (.int .i64), .bool, (.sl R1)], [.bool], fun (p : Int × Int × Bool × List Int) => f_spec_MsgOk p.1 p.2.1 p.2.2.1 p.2.2.2⟩
noncomputable abbrev K45 : Cons := [(97, C97), (126, C126)]
noncomputable abbrev L45 : List (Nat × Loops) := []
abbrev Q45 : List (Nat × List (Int × Nat) × Nat) := []
noncomputable abbrev X45 : Nat → Ctx := ctxOf tb K45 L45 Q45
theorem E45 : ∀ x, funRun fs X45 6 45 C45 x = C45.fn x := fun x => by kernel_rfl
theorem B45 : ConB Try.prog 45 C45 := ConB.make FS MIX TY (cons := K45) (L := L45) (ptrs := Q45) ⟨S97, S126, trivial⟩ trivial trivial rfl rfl E45
theorem S45 : ConS Try.prog 45 C45 := B45.call rfl
/-! spec.SenderOk: function 33 -/
noncomputable def f_spec_SenderOk.l0 : Nat → Bool → Int → Int → (List (Int × Int × Bool × List Int)) → Option ((Bool) ⊕ (Bool × Int × (List (Int × Int × Bool × List Int))))
  | 0, _, _, _, _ => none
  | n + 1, p157, p158, p159, p160 =>
    bif (decide (p158 < (p160.length : Int))) then
      bif ((decide ((0 : Int) ≤ p158)) && (decide (p158 < (p160.length : Int)))) then
      (f_spec_MsgOk ((p160.getD p158.toNat (0, 0, false, [])).1) ((p160.getD p158.toNat (0, 0, false, [])).2.1) ((p160.getD p158.toNat (0, 0, false, [])).2.2.1) ((p160.getD p158.toNat (0, 0, false, [])).2.2.2)).bind fun y161 =>
      bif (!y161) then
        some (.inl false)
      else
        f_spec_SenderOk.l0 n p157 (IntKind.wrap .i64 (p158 + (1 : Int))) p159 p160
      else none
    else
      some (.inr (p157, p159, p160))
noncomputable def f_spec_SenderOk (x0 : Int) (x1 : List (Int × Int × Bool × List Int)) : Option (Bool) :=
  (f_spec_SenderOk.l0 N false 0 x0 x1).bind fun r162 =>
  cs r162 (fun a163 =>
    some a163) (fun b164 =>
    (f_spec_l1In b164.2.1 0 100000).bind fun y165 =>
    bif y165 then
      bif (decide ((b164.2.2.length : Int) ≤ (30 : Int))) then
        some (decide ((IntKind.wrap .i64 (b164.2.1 + (b164.2.2.length : Int))) ≤ (100000 : Int)))
      else
        some false
    else
      some false)
noncomputable def C33 : Con := ⟨[(.B, true, [(.int .i64), (.sl R2)])], [(false, [.bool])], [(.int .i64), (.sl R2)], [.bool], fun (p : Int × (List (Int × Int × Bool × List Int))) => f_spec_SenderOk p.1 p.2⟩
noncomputable def f_spec_SenderOk.l0.c : LoopCon := ⟨1000, 6, [1, 2, 3], ⟨[(1, .ptr 1000 0), (2, .bool false), (3, .int .i64 0)], [(1000, .box [.int .i64 0, .bor none R2 []])], 1001⟩, [.bool, (.int .i64), (.int .i64), (.sl R2)], [⟨.ret, [2], ⟨[(2, .bool false)], [], 1000⟩, [.bool]⟩, ⟨.exit 0, [1, 2], ⟨[(1, .ptr 1000 0), (2, .bool false)], [(1000, .box [.int .i64 0, .bor none R2 []])], 1001⟩, [.bool, (.int .i64), (.sl R2)]⟩], fun (p : Bool × Int × Int × (List (Int × Int × Bool × List Int))) => f_spec_SenderOk.l0 N p.1 p.2.1 p.2.2.1 p.2.2.2⟩
noncomputable abbrev K33 : Cons := [(45, C45), (97, C97)]
noncomputable abbrev L33 : List (Nat × Loops) := [(33, [(2, f_spec_SenderOk.l0.c)])]
abbrev Q33 : List (Nat × List (Int × Nat) × Nat) := []
noncomputable abbrev X33 : Nat → Ctx := ctxOf tb K33 L33 Q33
theorem f_spec_SenderOk.l0.ok : ∀ n p, (fun (p : Bool × Int × Int × (List (Int × Int × Bool × List Int))) => f_spec_SenderOk.l0 n p.1 p.2.1 p.2.2.1 p.2.2.2) p = iterD (roundOf fs X33 6 33 2 false f_spec_SenderOk.l0.c) n p :=
  iter_of (l := fun n => fun (p : Bool × Int × Int × (List (Int × Int × Bool × List Int))) => f_spec_SenderOk.l0 n p.1 p.2.1 p.2.2.1 p.2.2.2) (fun _ => rfl) (fun n p => by kernel_rfl)
theorem E33 : ∀ x, funRun fs X33 6 33 C33 x = C33.fn x := fun x => by kernel_rfl
theorem B33 : ConB Try.prog 33 C33 := ConB.make FS MIX TY (cons := K33) (L := L33) (ptrs := Q33) ⟨S45, S97, trivial⟩ trivial ⟨⟨⟨N, fun p => f_spec_SenderOk.l0.ok N p⟩, trivial⟩, trivial⟩ rfl rfl E33
theorem S33 : ConS Try.prog 33 C33 := B33.call rfl
/-! spec.Queue: function 66 -/
noncomputable def f_spec_Queue (x0 : Int) (x1 : List (Int × Int × Bool × List Int)) (x2 : Int) (x3 : Int) (x4 : Bool) (x5 : List Int) : Option (Int × (List (Int × Int × Bool × List Int)) × Bool) :=
  (f_spec_l2Sender x0 x1).bind fun y166 =>
  (f_spec_SenderOk x0 x1).bind fun y167 =>
  bif (!y167) then
    some (y166.1, y166.2, false)
  else
    (f_spec_MsgOk x2 x3 x4 x5).bind fun y168 =>
    bif (!y168) then
      some (y166.1, y166.2, false)
    else
      bif (decide ((x1.length : Int) = (30 : Int))) then
        some (y166.1, y166.2, false)
      else
        bif (decide ((IntKind.wrap .i64 (x0 + (x1.length : Int))) = (100000 : Int))) then
          some (y166.1, y166.2, false)
        else
          (f_spec_l1Msg x2 x3 x4 x5).bind fun y169 =>
          bif (Nat.blt (y166.2.length + ([(y169.1, y169.2.1, y169.2.2.1, y169.2.2.2)] : List (Int × Int × Bool × List Int)).length) 2932031007402) then
          (some ((y166.2 ++ ([(y169.1, y169.2.1, y169.2.2.1, y169.2.2.2)] : List (Int × Int × Bool × List Int))) : List (Int × Int × Bool × List Int))).bind fun z170 =>
          some (y166.1, z170, true)
          else none
noncomputable def C66 : Con := ⟨[(.B, true, [(.int .i64), (.sl R2)]), (.B, true, [(.int .i64), (.int .i64), .bool, (.sl R1)])], [(true, [(.int .i64), (.sl R2)]), (false, [.bool])], [(.int .i64), (.sl R2), (.int .i64), (.int .i64), .bool, (.sl R1)], [(.int .i64), (.sl R2), .bool], fun (p : Int × (List (Int × Int × Bool × List Int)) × Int × Int × Bool × List Int) => f_spec_Queue p.1 p.2.1 p.2.2.1 p.2.2.2.1 p.2.2.2.2.1 p.2.2.2.2.2⟩
noncomputable abbrev K66 : Cons := [(33, C33), (45, C45), (139, C139), (140, C140)]
noncomputable abbrev L66 : List (Nat × Loops) := []
abbrev Q66 : List (Nat × List (Int × Nat) × Nat) := []
noncomputable abbrev X66 : Nat → Ctx := ctxOf tb K66 L66 Q66
theorem E66 : ∀ x, funRun fs X66 6 66 C66 x = C66.fn x := fun x => by kernel_rfl
theorem B66 : ConB Try.prog 66 C66 := ConB.make FS MIX TY (cons := K66) (L := L66) (ptrs := Q66) ⟨S33, S45, S139, S140, trivial⟩ trivial trivial rfl rfl E66
theorem S66 : ConS Try.prog 66 C66 := B66.call rfl
/-! spec.DrawAcked: function 27 -/
noncomputable def f_spec_DrawAcked.l0 : Nat → (List Int) → Int → Int → Int → Option (List Int × Int × Int)
  | 0, _, _, _, _ => none
  | n + 1, p171, p172, p173, p174 =>
    bif (decide (p173 < (p171.length : Int))) then
      bif (decide (p173 < (4000 : Int))) then
        bif ((decide ((0 : Int) ≤ p173)) && (decide (p173 < (p171.length : Int)))) then
        f_spec_DrawAcked.l0 n p171 (bitI .and .i64 (IntKind.wrap .i64 ((IntKind.wrap .i64 ((IntKind.wrap .i64 (p172 * (131 : Int))) + (IntKind.wrap .i64 ((p171.getD p173.toNat 0))))) + (7 : Int))) (1073741823 : Int)) (IntKind.wrap .i64 (p173 + (1 : Int))) p174
        else none
      else
        some (p171, p172, p174)
    else
      some (p171, p172, p174)
noncomputable def f_spec_DrawAcked (x0 : List Int) : Option (Int × (List (Int × Int × Bool × List Int)) × Int) :=
  (f_spec_DrawAcked.l0 N x0 (IntKind.wrap .i64 ((20404 : Int) + (x0.length : Int))) 0 0).bind fun r175 =>
  (f_spec_l2Draw r175.1 0 r175.2.1).bind fun y176 =>
  (f_spec_l1Below r175.1 y176.2.2.1 y176.2.2.2 (IntKind.wrap .i64 ((y176.2.1.length : Int) + (4 : Int)))).bind fun y177 =>
  some (y176.1, y176.2.1, (IntKind.wrap .i64 ((IntKind.wrap .i64 (y176.1 + y177.1)) - (1 : Int))))
noncomputable def C27 : Con := ⟨[(.B, false, [(.sl R0)])], [(true, [(.int .i64), (.sl R2)]), (false, [(.int .i64)])], [(.sl R0)], [(.int .i64), (.sl R2), (.int .i64)], fun (p : List Int) => f_spec_DrawAcked p⟩
noncomputable def f_spec_DrawAcked.l0.c : LoopCon := ⟨1081, 5, [0, 3, 4], ⟨[(0, .bor none R0 []), (3, .int .i64 0), (4, .int .i64 0)], [(1001, .box [.int .i64 0, .nil (some R2)])], 1081⟩, [(.sl R0), (.int .i64), (.int .i64), (.int .i64)], [⟨.exit 0, [0, 3], ⟨[(0, .bor none R0 []), (3, .int .i64 0)], [(1001, .box [.int .i64 0, .nil (some R2)])], 1081⟩, [(.sl R0), (.int .i64), (.int .i64)]⟩], fun (p : List Int × Int × Int × Int) => f_spec_DrawAcked.l0 N p.1 p.2.1 p.2.2.1 p.2.2.2⟩
noncomputable abbrev K27 : Cons := [(108, C108), (109, C109)]
noncomputable abbrev L27 : List (Nat × Loops) := [(107, [(3, f_spec_DrawAcked.l0.c)])]
abbrev Q27 : List (Nat × List (Int × Nat) × Nat) := []
noncomputable abbrev X27 : Nat → Ctx := ctxOf tb K27 L27 Q27
theorem f_spec_DrawAcked.l0.ok : ∀ n p, (fun (p : List Int × Int × Int × Int) => f_spec_DrawAcked.l0 n p.1 p.2.1 p.2.2.1 p.2.2.2) p = iterD (roundOf fs X27 5 107 3 true f_spec_DrawAcked.l0.c) n p :=
  iter_of (l := fun n => fun (p : List Int × Int × Int × Int) => f_spec_DrawAcked.l0 n p.1 p.2.1 p.2.2.1 p.2.2.2) (fun _ => rfl) (fun n p => by kernel_rfl)
theorem E27 : ∀ x, funRun fs X27 6 27 C27 x = C27.fn x := fun x => by kernel_rfl
theorem B27 : ConB Try.prog 27 C27 := ConB.make FS MIX TY (cons := K27) (L := L27) (ptrs := Q27) ⟨S108, S109, trivial⟩ trivial ⟨⟨⟨N, fun p => f_spec_DrawAcked.l0.ok N p⟩, trivial⟩, trivial⟩ rfl rfl E27
theorem S27 : ConS Try.prog 27 C27 := B27.call rfl
/-! impl.Acked: function 29 -/
noncomputable def f_impl_Acked (x0 : Int) (x1 : List (Int × Int × Bool × List Int)) (x2 : Int) : Option (Int × (List (Int × Int × Bool × List Int))) :=
  (f_impl_copySender x0 x1).bind fun y178 =>
  (f_impl_SenderOk y178.1 y178.2).bind fun y179 =>
  bif (!y179) then
    some (y178.1, y178.2)
  else
    (f_impl_from x2 y178.1 (IntKind.wrap .i64 (y178.1 + (y178.2.length : Int)))).bind fun y180 =>
    bif (!y180) then
      some (y178.1, y178.2)
    else
      bif ((decide ((0 : Int) ≤ (IntKind.wrap .i64 (x2 - y178.1)))) && (decide ((IntKind.wrap .i64 (x2 - y178.1)) ≤ (y178.2.length : Int)))) then
      some (x2, ((y178.2.drop (IntKind.wrap .i64 (x2 - y178.1)).toNat).take ((y178.2.length : Int) - (IntKind.wrap .i64 (x2 - y178.1))).toNat))
      else none
noncomputable def C29 : Con := ⟨[(.B, true, [(.int .i64), (.sl R2)]), (.B, false, [(.int .i64)])], [(true, [(.int .i64), (.sl R2)])], [(.int .i64), (.sl R2), (.int .i64)], [(.int .i64), (.sl R2)], fun (p : Int × (List (Int × Int × Bool × List Int)) × Int) => f_impl_Acked p.1 p.2.1 p.2.2⟩
noncomputable abbrev K29 : Cons := [(32, C32), (103, C103), (111, C111)]
noncomputable abbrev L29 : List (Nat × Loops) := []
abbrev Q29 : List (Nat × List (Int × Nat) × Nat) := []
noncomputable abbrev X29 : Nat → Ctx := ctxOf tb K29 L29 Q29
theorem E29 : ∀ x, funRun fs X29 6 29 C29 x = C29.fn x := fun x => by kernel_rfl
theorem B29 : ConB Try.prog 29 C29 := ConB.make FS MIX TY (cons := K29) (L := L29) (ptrs := Q29) ⟨S32, S103, S111, trivial⟩ trivial trivial rfl rfl E29
theorem S29 : ConS Try.prog 29 C29 := B29.call rfl
/-! spec.Acked: function 67 -/
noncomputable def f_spec_Acked (x0 : Int) (x1 : List (Int × Int × Bool × List Int)) (x2 : Int) : Option (Int × (List (Int × Int × Bool × List Int))) :=
  (f_spec_l2Sender x0 x1).bind fun y181 =>
  (f_spec_SenderOk x0 x1).bind fun y182 =>
  bif (!y182) then
    some (y181.1, y181.2)
  else
    bif (decide (x2 ≤ x0)) then
      some (y181.1, y181.2)
    else
      bif (decide ((IntKind.wrap .i64 (x0 + (x1.length : Int))) < x2)) then
        some (y181.1, y181.2)
      else
        bif ((decide ((0 : Int) ≤ (IntKind.wrap .i64 (x2 - x0)))) && (decide ((IntKind.wrap .i64 (x2 - x0)) ≤ (y181.2.length : Int)))) then
        bif (Nat.blt (([] : List (Int × Int × Bool × List Int)).length + ((y181.2.drop (IntKind.wrap .i64 (x2 - x0)).toNat).take ((y181.2.length : Int) - (IntKind.wrap .i64 (x2 - x0))).toNat).length) 2932031007402) then
        (some ((([] : List (Int × Int × Bool × List Int)) ++ ((y181.2.drop (IntKind.wrap .i64 (x2 - x0)).toNat).take ((y181.2.length : Int) - (IntKind.wrap .i64 (x2 - x0))).toNat)) : List (Int × Int × Bool × List Int))).bind fun z183 =>
        some (x2, z183)
        else none
        else none
noncomputable def C67 : Con := ⟨[(.B, true, [(.int .i64), (.sl R2)]), (.B, false, [(.int .i64)])], [(true, [(.int .i64), (.sl R2)])], [(.int .i64), (.sl R2), (.int .i64)], [(.int .i64), (.sl R2)], fun (p : Int × (List (Int × Int × Bool × List Int)) × Int) => f_spec_Acked p.1 p.2.1 p.2.2⟩
noncomputable abbrev K67 : Cons := [(33, C33), (139, C139)]
noncomputable abbrev L67 : List (Nat × Loops) := []
abbrev Q67 : List (Nat × List (Int × Nat) × Nat) := []
noncomputable abbrev X67 : Nat → Ctx := ctxOf tb K67 L67 Q67
theorem E67 : ∀ x, funRun fs X67 6 67 C67 x = C67.fn x := fun x => by kernel_rfl
theorem B67 : ConB Try.prog 67 C67 := ConB.make FS MIX TY (cons := K67) (L := L67) (ptrs := Q67) ⟨S33, S139, trivial⟩ trivial trivial rfl rfl E67
theorem S67 : ConS Try.prog 67 C67 := B67.call rfl
/-! spec.DrawArrived: function 28 -/
noncomputable def f_spec_DrawArrived.l0 : Nat → (List Int) → Int → Int → Int → Option (List Int × Int × Int)
  | 0, _, _, _, _ => none
  | n + 1, p184, p185, p186, p187 =>
    bif (decide (p186 < (p184.length : Int))) then
      bif (decide (p186 < (4000 : Int))) then
        bif ((decide ((0 : Int) ≤ p186)) && (decide (p186 < (p184.length : Int)))) then
        f_spec_DrawArrived.l0 n p184 (bitI .and .i64 (IntKind.wrap .i64 ((IntKind.wrap .i64 ((IntKind.wrap .i64 (p185 * (131 : Int))) + (IntKind.wrap .i64 ((p184.getD p186.toNat 0))))) + (7 : Int))) (1073741823 : Int)) (IntKind.wrap .i64 (p186 + (1 : Int))) p187
        else none
      else
        some (p184, p185, p187)
    else
      some (p184, p185, p187)
noncomputable def f_spec_DrawArrived (x0 : List Int) : Option (Int × Int) :=
  (f_spec_DrawArrived.l0 N x0 (IntKind.wrap .i64 ((20404 : Int) + (x0.length : Int))) 0 0).bind fun r188 =>
  (f_spec_l1PickInt r188.1 0 r188.2.1 ([0, 3, 100000, 99999, -1] : List Int)).bind fun y189 =>
  (f_spec_l1PickInt r188.1 y189.2.1 y189.2.2 ([0, 0, 1, -1] : List Int)).bind fun y190 =>
  some (y189.1, (IntKind.wrap .i64 (y189.1 + y190.1)))
noncomputable def C28 : Con := ⟨[(.B, false, [(.sl R0)])], [(true, [(.int .i64)]), (false, [(.int .i64)])], [(.sl R0)], [(.int .i64), (.int .i64)], fun (p : List Int) => f_spec_DrawArrived p⟩
noncomputable def f_spec_DrawArrived.l0.c : LoopCon := ⟨1081, 5, [0, 3, 4], ⟨[(0, .bor none R0 []), (3, .int .i64 0), (4, .int .i64 0)], [(1001, .box [.int .i64 0])], 1081⟩, [(.sl R0), (.int .i64), (.int .i64), (.int .i64)], [⟨.exit 0, [0, 3], ⟨[(0, .bor none R0 []), (3, .int .i64 0)], [(1001, .box [.int .i64 0])], 1081⟩, [(.sl R0), (.int .i64), (.int .i64)]⟩], fun (p : List Int × Int × Int × Int) => f_spec_DrawArrived.l0 N p.1 p.2.1 p.2.2.1 p.2.2.2⟩
noncomputable abbrev K28 : Cons := [(110, C110)]
noncomputable abbrev L28 : List (Nat × Loops) := [(107, [(3, f_spec_DrawArrived.l0.c)])]
abbrev Q28 : List (Nat × List (Int × Nat) × Nat) := []
noncomputable abbrev X28 : Nat → Ctx := ctxOf tb K28 L28 Q28
theorem f_spec_DrawArrived.l0.ok : ∀ n p, (fun (p : List Int × Int × Int × Int) => f_spec_DrawArrived.l0 n p.1 p.2.1 p.2.2.1 p.2.2.2) p = iterD (roundOf fs X28 5 107 3 true f_spec_DrawArrived.l0.c) n p :=
  iter_of (l := fun n => fun (p : List Int × Int × Int × Int) => f_spec_DrawArrived.l0 n p.1 p.2.1 p.2.2.1 p.2.2.2) (fun _ => rfl) (fun n p => by kernel_rfl)
theorem E28 : ∀ x, funRun fs X28 6 28 C28 x = C28.fn x := fun x => by kernel_rfl
theorem B28 : ConB Try.prog 28 C28 := ConB.make FS MIX TY (cons := K28) (L := L28) (ptrs := Q28) ⟨S110, trivial⟩ trivial ⟨⟨⟨N, fun p => f_spec_DrawArrived.l0.ok N p⟩, trivial⟩, trivial⟩ rfl rfl E28
theorem S28 : ConS Try.prog 28 C28 := B28.call rfl
/-! impl.Arrived: function 30 -/
noncomputable def f_impl_Arrived (x0 : Int) (x1 : Int) : Option (Int × Bool) :=
  bif (!(decide (x1 = x0))) then
    some (x0, false)
  else
    (f_impl_from x0 0 99999).bind fun y191 =>
    bif (!y191) then
      some (x0, false)
    else
      some ((IntKind.wrap .i64 (x0 + (1 : Int))), true)
noncomputable def C30 : Con := ⟨[(.B, true, [(.int .i64)]), (.B, false, [(.int .i64)])], [(true, [(.int .i64)]), (false, [.bool])], [(.int .i64), (.int .i64)], [(.int .i64), .bool], fun (p : Int × Int) => f_impl_Arrived p.1 p.2⟩
noncomputable abbrev K30 : Cons := [(103, C103)]
noncomputable abbrev L30 : List (Nat × Loops) := []
abbrev Q30 : List (Nat × List (Int × Nat) × Nat) := []
noncomputable abbrev X30 : Nat → Ctx := ctxOf tb K30 L30 Q30
theorem E30 : ∀ x, funRun fs X30 6 30 C30 x = C30.fn x := fun x => by kernel_rfl
theorem B30 : ConB Try.prog 30 C30 := ConB.make FS MIX TY (cons := K30) (L := L30) (ptrs := Q30) ⟨S103, trivial⟩ trivial trivial rfl rfl E30
theorem S30 : ConS Try.prog 30 C30 := B30.call rfl
/-! spec.Arrived: function 31 -/
noncomputable def f_spec_Arrived (x0 : Int) (x1 : Int) : Option (Int × Bool) :=
  bif (!(decide (x1 = x0))) then
    some (x0, false)
  else
    (f_spec_l1In x0 0 99999).bind fun y192 =>
    bif (!y192) then
      some (x0, false)
    else
      some ((IntKind.wrap .i64 (x0 + (1 : Int))), true)
noncomputable def C31 : Con := ⟨[(.B, true, [(.int .i64)]), (.B, false, [(.int .i64)])], [(true, [(.int .i64)]), (false, [.bool])], [(.int .i64), (.int .i64)], [(.int .i64), .bool], fun (p : Int × Int) => f_spec_Arrived p.1 p.2⟩
noncomputable abbrev K31 : Cons := [(97, C97)]
noncomputable abbrev L31 : List (Nat × Loops) := []
abbrev Q31 : List (Nat × List (Int × Nat) × Nat) := []
noncomputable abbrev X31 : Nat → Ctx := ctxOf tb K31 L31 Q31
theorem E31 : ∀ x, funRun fs X31 6 31 C31 x = C31.fn x := fun x => by kernel_rfl
theorem B31 : ConB Try.prog 31 C31 := ConB.make FS MIX TY (cons := K31) (L := L31) (ptrs := Q31) ⟨S97, trivial⟩ trivial trivial rfl rfl E31
theorem S31 : ConS Try.prog 31 C31 := B31.call rfl
/-! spec.DrawPacketOk: function 68 -/
noncomputable def f_spec_DrawPacketOk.l0 : Nat → (List Int) → Int → Int → Int → Int → Bool → Int → Int → Int → Bool → Option (List Int × Int × Int × Int × Bool × Int × Int × Int × Bool)
  | 0, _, _, _, _, _, _, _, _, _, _ => none
  | n + 1, p193, p194, p195, p196, p197, p198, p199, p200, p201, p202 =>
    bif (decide (p195 < (p193.length : Int))) then
      bif (decide (p195 < (4000 : Int))) then
        bif ((decide ((0 : Int) ≤ p195)) && (decide (p195 < (p193.length : Int)))) then
        f_spec_DrawPacketOk.l0 n p193 (bitI .and .i64 (IntKind.wrap .i64 ((IntKind.wrap .i64 ((IntKind.wrap .i64 (p194 * (131 : Int))) + (IntKind.wrap .i64 ((p193.getD p195.toNat 0))))) + (7 : Int))) (1073741823 : Int)) (IntKind.wrap .i64 (p195 + (1 : Int))) p196 p197 p198 p199 p200 p201 p202
        else none
      else
        some (p193, p194, p196, p197, p198, p199, p200, p201, p202)
    else
      some (p193, p194, p196, p197, p198, p199, p200, p201, p202)
noncomputable def f_spec_DrawPacketOk (x0 : List Int) : Option (Int × Int × Bool × Int × Int × Int × Bool × List Int × Int) :=
  (f_spec_DrawPacketOk.l0 N x0 (IntKind.wrap .i64 ((20404 : Int) + (x0.length : Int))) 0 0 0 false 0 0 0 false).bind fun r203 =>
  (f_spec_l1Below r203.1 0 r203.2.1 3).bind fun y204 =>
  (f_spec_l1Below r203.1 y204.2.1 y204.2.2 3).bind fun y205 =>
  (f_spec_l1Once r203.1 y205.2.1 y205.2.2 3).bind fun y206 =>
  (f_spec_l1Below r203.1 y206.2.1 y206.2.2 9).bind fun y207 =>
  bif (!y206.1) then
    (f_spec_l1Draw r203.1 y207.2.1 y207.2.2).bind fun y208 =>
    (f_spec_l1Below r203.1 y208.2.2.2.2.1 y208.2.2.2.2.2 9).bind fun y209 =>
    bif (decide (y209.1 = (0 : Int))) then
      (f_spec_l1PickInt r203.1 y209.2.1 y209.2.2 ([-1, 4] : List Int)).bind fun y210 =>
      (f_spec_l1PickInt r203.1 y210.2.1 y210.2.2 ([3, 3, 4, 2, 0, 5] : List Int)).bind fun y211 =>
      some (y210.1, y205.1, y206.1, y207.1, y208.1, y208.2.1, y208.2.2.1, y208.2.2.2.1, y211.1)
    else
      bif (decide (y209.1 = (1 : Int))) then
        (f_spec_l1PickInt r203.1 y209.2.1 y209.2.2 ([-1, 100000, 100001] : List Int)).bind fun y212 =>
        (f_spec_l1PickInt r203.1 y212.2.1 y212.2.2 ([3, 3, 4, 2, 0, 5] : List Int)).bind fun y213 =>
        some (y204.1, y205.1, y206.1, y212.1, y208.1, y208.2.1, y208.2.2.1, y208.2.2.2.1, y213.1)
      else
        (f_spec_l1PickInt r203.1 y209.2.1 y209.2.2 ([3, 3, 4, 2, 0, 5] : List Int)).bind fun y214 =>
        some (y204.1, y205.1, y206.1, y207.1, y208.1, y208.2.1, y208.2.2.1, y208.2.2.2.1, y214.1)
  else
    (f_spec_l1Once r203.1 y207.2.1 y207.2.2 5).bind fun y215 =>
    bif y215.1 then
      (f_spec_l1Draw r203.1 y215.2.1 y215.2.2).bind fun y216 =>
      (f_spec_l1Below r203.1 y216.2.2.2.2.1 y216.2.2.2.2.2 9).bind fun y217 =>
      bif (decide (y217.1 = (0 : Int))) then
        (f_spec_l1PickInt r203.1 y217.2.1 y217.2.2 ([-1, 4] : List Int)).bind fun y218 =>
        (f_spec_l1PickInt r203.1 y218.2.1 y218.2.2 ([3, 3, 4, 2, 0, 5] : List Int)).bind fun y219 =>
        some (y218.1, y205.1, y206.1, y207.1, y216.1, y216.2.1, y216.2.2.1, y216.2.2.2.1, y219.1)
      else
        bif (decide (y217.1 = (1 : Int))) then
          (f_spec_l1PickInt r203.1 y217.2.1 y217.2.2 ([-1, 100000, 100001] : List Int)).bind fun y220 =>
          (f_spec_l1PickInt r203.1 y220.2.1 y220.2.2 ([3, 3, 4, 2, 0, 5] : List Int)).bind fun y221 =>
          some (y204.1, y205.1, y206.1, y220.1, y216.1, y216.2.1, y216.2.2.1, y216.2.2.2.1, y221.1)
        else
          (f_spec_l1PickInt r203.1 y217.2.1 y217.2.2 ([3, 3, 4, 2, 0, 5] : List Int)).bind fun y222 =>
          some (y204.1, y205.1, y206.1, y207.1, y216.1, y216.2.1, y216.2.2.1, y216.2.2.2.1, y222.1)
    else
      (f_spec_l1Below r203.1 y215.2.1 y215.2.2 9).bind fun y223 =>
      bif (decide (y223.1 = (0 : Int))) then
        (f_spec_l1PickInt r203.1 y223.2.1 y223.2.2 ([-1, 4] : List Int)).bind fun y224 =>
        (f_spec_l1PickInt r203.1 y224.2.1 y224.2.2 ([3, 3, 4, 2, 0, 5] : List Int)).bind fun y225 =>
        some (y224.1, y205.1, y206.1, y207.1, 0, 0, false, [], y225.1)
      else
        bif (decide (y223.1 = (1 : Int))) then
          (f_spec_l1PickInt r203.1 y223.2.1 y223.2.2 ([-1, 100000, 100001] : List Int)).bind fun y226 =>
          (f_spec_l1PickInt r203.1 y226.2.1 y226.2.2 ([3, 3, 4, 2, 0, 5] : List Int)).bind fun y227 =>
          some (y204.1, y205.1, y206.1, y226.1, 0, 0, false, [], y227.1)
        else
          (f_spec_l1PickInt r203.1 y223.2.1 y223.2.2 ([3, 3, 4, 2, 0, 5] : List Int)).bind fun y228 =>
          some (y204.1, y205.1, y206.1, y207.1, 0, 0, false, [], y228.1)
noncomputable def C68 : Con := ⟨[(.B, false, [(.sl R0)])], [(true, [(.int .i64), (.int .i64), .bool, (.int .i64), (.int .i64), (.int .i64), .bool, (.sl R1)]), (false, [(.int .i64)])], [(.sl R0)], [(.int .i64), (.int .i64), .bool, (.int .i64), (.int .i64), (.int .i64), .bool, (.sl R1), (.int .i64)], fun (p : List Int) => f_spec_DrawPacketOk p⟩
noncomputable def f_spec_DrawPacketOk.l0.c : LoopCon := ⟨1081, 5, [0, 3, 4], ⟨[(0, .bor none R0 []), (3, .int .i64 0), (4, .int .i64 0)], [(1001, .box [.int .i64 0, .int .i64 0, .bool false, .int .i64 0, .int .i64 0, .int .i64 0, .bool false, .nil (some R1)])], 1081⟩, [(.sl R0), (.int .i64), (.int .i64), (.int .i64), (.int .i64), .bool, (.int .i64), (.int .i64), (.int .i64), .bool], [⟨.exit 0, [0, 3], ⟨[(0, .bor none R0 []), (3, .int .i64 0)], [(1001, .box [.int .i64 0, .int .i64 0, .bool false, .int .i64 0, .int .i64 0, .int .i64 0, .bool false, .nil (some R1)])], 1081⟩, [(.sl R0), (.int .i64), (.int .i64), (.int .i64), .bool, (.int .i64), (.int .i64), (.int .i64), .bool]⟩], fun (p : List Int × Int × Int × Int × Int × Bool × Int × Int × Int × Bool) => f_spec_DrawPacketOk.l0 N p.1 p.2.1 p.2.2.1 p.2.2.2.1 p.2.2.2.2.1 p.2.2.2.2.2.1 p.2.2.2.2.2.2.1 p.2.2.2.2.2.2.2.1 p.2.2.2.2.2.2.2.2.1 p.2.2.2.2.2.2.2.2.2⟩
noncomputable abbrev K68 : Cons := [(109, C109), (110, C110), (115, C115), (141, C141)]
noncomputable abbrev L68 : List (Nat × Loops) := [(107, [(3, f_spec_DrawPacketOk.l0.c)])]
abbrev Q68 : List (Nat × List (Int × Nat) × Nat) := []
noncomputable abbrev X68 : Nat → Ctx := ctxOf tb K68 L68 Q68
theorem f_spec_DrawPacketOk.l0.ok : ∀ n p, (fun (p : List Int × Int × Int × Int × Int × Bool × Int × Int × Int × Bool) => f_spec_DrawPacketOk.l0 n p.1 p.2.1 p.2.2.1 p.2.2.2.1 p.2.2.2.2.1 p.2.2.2.2.2.1 p.2.2.2.2.2.2.1 p.2.2.2.2.2.2.2.1 p.2.2.2.2.2.2.2.2.1 p.2.2.2.2.2.2.2.2.2) p = iterD (roundOf fs X68 5 107 3 true f_spec_DrawPacketOk.l0.c) n p :=
  iter_of (l := fun n => fun (p : List Int × Int × Int × Int × Int × Bool × Int × Int × Int × Bool) => f_spec_DrawPacketOk.l0 n p.1 p.2.1 p.2.2.1 p.2.2.2.1 p.2.2.2.2.1 p.2.2.2.2.2.1 p.2.2.2.2.2.2.1 p.2.2.2.2.2.2.2.1 p.2.2.2.2.2.2.2.2.1 p.2.2.2.2.2.2.2.2.2) (fun _ => rfl) (fun n p => by kernel_rfl)
theorem E68 : ∀ x, funRun fs X68 6 68 C68 x = C68.fn x := fun x => by kernel_rfl
theorem B68 : ConB Try.prog 68 C68 := ConB.make FS MIX TY (cons := K68) (L := L68) (ptrs := Q68) ⟨S109, S110, S115, S141, trivial⟩ trivial ⟨⟨⟨N, fun p => f_spec_DrawPacketOk.l0.ok N p⟩, trivial⟩, trivial⟩ rfl rfl E68
theorem S68 : ConS Try.prog 68 C68 := B68.call rfl
/-! impl.isOf: function 142 -/
noncomputable def f_impl_isOf (x0 : Int) (x1 : Int) : Option (Bool) :=
  (f_impl_from x1 1 4).bind fun y229 =>
  bif y229 then
    (f_impl_from x0 0 (IntKind.wrap .i64 (x1 - (1 : Int)))).bind fun y230 =>
    some y230
  else
    some false
noncomputable def C142 : Con := ⟨[(.B, false, [(.int .i64)]), (.B, false, [(.int .i64)])], [(false, [.bool])], [(.int .i64), (.int .i64)], [.bool], fun (p : Int × Int) => f_impl_isOf p.1 p.2⟩
noncomputable abbrev K142 : Cons := [(103, C103)]
noncomputable abbrev L142 : List (Nat × Loops) := []
abbrev Q142 : List (Nat × List (Int × Nat) × Nat) := []
noncomputable abbrev X142 : Nat → Ctx := ctxOf tb K142 L142 Q142
theorem E142 : ∀ x, funRun fs X142 6 142 C142 x = C142.fn x := fun x => by kernel_rfl
theorem B142 : ConB Try.prog 142 C142 := ConB.make FS MIX TY (cons := K142) (L := L142) (ptrs := Q142) ⟨S103, trivial⟩ trivial trivial rfl rfl E142
theorem S142 : ConS Try.prog 142 C142 := B142.call rfl
/-! impl.PacketOk: function 69 -/
noncomputable def f_impl_PacketOk (x0 : Int) (x1 : Int) (x2 : Bool) (x3 : Int) (x4 : Int) (x5 : Int) (x6 : Bool) (x7 : List Int) (x8 : Int) : Option (Bool) :=
  (f_impl_isOf x0 x8).bind fun y231 =>
  bif (!y231) then
    some false
  else
    (f_impl_isOf x1 x8).bind fun y232 =>
    bif (!y232) then
      some false
    else
      (f_impl_isSeq x3).bind fun y233 =>
      bif (!y233) then
        some false
      else
        bif x2 then
          bif (decide (x4 = (0 : Int))) then
            bif (decide (x5 = (0 : Int))) then
              bif (!x6) then
                some (decide ((x7.length : Int) = (0 : Int)))
              else
                some false
            else
              some false
          else
            some false
        else
          (f_impl_MsgOk x4 x5 x6 x7).bind fun y234 =>
          some y234
noncomputable def C69 : Con := ⟨[(.B, true, [(.int .i64), (.int .i64), .bool, (.int .i64), (.int .i64), (.int .i64), .bool, (.sl R1)]), (.B, false, [(.int .i64)])], [(false, [.bool])], [(.int .i64), (.int .i64), .bool, (.int .i64), (.int .i64), (.int .i64), .bool, (.sl R1), (.int .i64)], [.bool], fun (p : Int × Int × Bool × Int × Int × Int × Bool × List Int × Int) => f_impl_PacketOk p.1 p.2.1 p.2.2.1 p.2.2.2.1 p.2.2.2.2.1 p.2.2.2.2.2.1 p.2.2.2.2.2.2.1 p.2.2.2.2.2.2.2.1 p.2.2.2.2.2.2.2.2⟩
noncomputable abbrev K69 : Cons := [(37, C37), (112, C112), (142, C142)]
noncomputable abbrev L69 : List (Nat × Loops) := []
abbrev Q69 : List (Nat × List (Int × Nat) × Nat) := []
noncomputable abbrev X69 : Nat → Ctx := ctxOf tb K69 L69 Q69
theorem E69 : ∀ x, funRun fs X69 6 69 C69 x = C69.fn x := fun x => by kernel_rfl
theorem B69 : ConB Try.prog 69 C69 := ConB.make FS MIX TY (cons := K69) (L := L69) (ptrs := Q69) ⟨S37, S112, S142, trivial⟩ trivial trivial rfl rfl E69
theorem S69 : ConS Try.prog 69 C69 := B69.call rfl
/-! spec.PacketOk: function 70 -/
noncomputable def f_spec_PacketOk (x0 : Int) (x1 : Int) (x2 : Bool) (x3 : Int) (x4 : Int) (x5 : Int) (x6 : Bool) (x7 : List Int) (x8 : Int) : Option (Bool) :=
  (f_spec_l1In x8 1 4).bind fun y235 =>
  bif (!y235) then
    some false
  else
    (f_spec_l1In x0 0 (IntKind.wrap .i64 (x8 - (1 : Int)))).bind fun y236 =>
    bif (!y236) then
      some false
    else
      (f_spec_l1In x1 0 (IntKind.wrap .i64 (x8 - (1 : Int)))).bind fun y237 =>
      bif (!y237) then
        some false
      else
        (f_spec_l1In x3 0 100000).bind fun y238 =>
        bif (!y238) then
          some false
        else
          bif x2 then
            bif (decide (x4 = (0 : Int))) then
              bif (decide (x5 = (0 : Int))) then
                bif (!x6) then
                  some (decide ((x7.length : Int) = (0 : Int)))
                else
                  some false
              else
                some false
            else
              some false
          else
            (f_spec_MsgOk x4 x5 x6 x7).bind fun y239 =>
            some y239
noncomputable def C70 : Con := ⟨[(.B, true, [(.int .i64), (.int .i64), .bool, (.int .i64), (.int .i64), (.int .i64), .bool, (.sl R1)]), (.B, false, [(.int .i64)])], [(false, [.bool])], [(.int .i64), (.int .i64), .bool, (.int .i64), (.int .i64), (.int .i64), .bool, (.sl R1), (.int .i64)], [.bool], fun (p : Int × Int × Bool × Int × Int × Int × Bool × List Int × Int) => f_spec_PacketOk p.1 p.2.1 p.2.2.1 p.2.2.2.1 p.2.2.2.2.1 p.2.2.2.2.2.1 p.2.2.2.2.2.2.1 p.2.2.2.2.2.2.2.1 p.2.2.2.2.2.2.2.2⟩
noncomputable abbrev K70 : Cons := [(45, C45), (97, C97)]
noncomputable abbrev L70 : List (Nat × Loops) := []
abbrev Q70 : List (Nat × List (Int × Nat) × Nat) := []
noncomputable abbrev X70 : Nat → Ctx := ctxOf tb K70 L70 Q70
theorem E70 : ∀ x, funRun fs X70 6 70 C70 x = C70.fn x := fun x => by kernel_rfl
theorem B70 : ConB Try.prog 70 C70 := ConB.make FS MIX TY (cons := K70) (L := L70) (ptrs := Q70) ⟨S45, S97, trivial⟩ trivial trivial rfl rfl E70
theorem S70 : ConS Try.prog 70 C70 := B70.call rfl
/-! laws.FnLines: function 10 -/
noncomputable def f_laws_FnLines.j0 (p442 : Bool) (p443 : Bool) (p444 : Int) (p445 : Int) (p446 : Int) (p447 : Int) (p448 : List (Int × Int × Bool × List Int)) (p449 : List (Int × Int × Bool × List Int)) (p450 : List (Int × Int × Bool × List Int)) (p451 : List (Int × Int × Bool × List Int)) : Option (Bool) :=
    bif p443 then
      bif (!(decide ((p449.length : Int) = (IntKind.wrap .i64 ((p448.length : Int) + (1 : Int)))))) then
        some false
      else
        bif (!(decide (p445 = p444))) then
          some false
        else
          (f_impl_SenderOk p445 p449).bind fun y458 =>
          bif (!y458) then
            some false
          else
            bif (!p443) then
              bif (!(decide ((p449.length : Int) = (p448.length : Int)))) then
                some false
              else
                bif (decide ((IntKind.wrap .i64 (p447 + (p451.length : Int))) = (IntKind.wrap .i64 (p446 + (p450.length : Int))))) then
                  bif (decide (p446 ≤ p447)) then
                    (f_impl_SenderOk p446 p450).bind fun y466 =>
                    bif (!y466) then
                      some true
                    else
                      (f_impl_SenderOk p447 p451).bind fun y467 =>
                      some y467
                  else
                    some false
                else
                  some false
            else
              bif (decide ((IntKind.wrap .i64 (p447 + (p451.length : Int))) = (IntKind.wrap .i64 (p446 + (p450.length : Int))))) then
                bif (decide (p446 ≤ p447)) then
                  (f_impl_SenderOk p446 p450).bind fun y468 =>
                  bif (!y468) then
                    some true
                  else
                    (f_impl_SenderOk p447 p451).bind fun y469 =>
                    some y469
                else
                  some false
              else
                some false
    else
      bif (!p443) then
        bif (!(decide ((p449.length : Int) = (p448.length : Int)))) then
          some false
        else
          bif (decide ((IntKind.wrap .i64 (p447 + (p451.length : Int))) = (IntKind.wrap .i64 (p446 + (p450.length : Int))))) then
            bif (decide (p446 ≤ p447)) then
              (f_impl_SenderOk p446 p450).bind fun y470 =>
              bif (!y470) then
                some true
              else
                (f_impl_SenderOk p447 p451).bind fun y471 =>
                some y471
            else
              some false
          else
            some false
      else
        bif (decide ((IntKind.wrap .i64 (p447 + (p451.length : Int))) = (IntKind.wrap .i64 (p446 + (p450.length : Int))))) then
          bif (decide (p446 ≤ p447)) then
            (f_impl_SenderOk p446 p450).bind fun y472 =>
            bif (!y472) then
              some true
            else
              (f_impl_SenderOk p447 p451).bind fun y473 =>
              some y473
          else
            some false
        else
          some false
noncomputable def f_laws_FnLines.j1 (p356 : List Int) (p357 : Bool) (p358 : Bool) (p359 : Bool) (p360 : Bool) (p361 : Bool) (p362 : Int) (p363 : Int) (p364 : Int) (p365 : Int) (p366 : Int) (p367 : Int) (p368 : Int) (p369 : Int) (p370 : List (Int × Int × Bool × List Int)) (p371 : List (Int × Int × Bool × List Int)) (p372 : List (Int × Int × Bool × List Int)) (p373 : List (Int × Int × Bool × List Int)) (p374 : List (Int × Int × Bool × List Int)) : Option (Bool) :=
    bif (!(p358 == p359)) then
      some false
    else
      bif (!(decide (p365 = p366))) then
        some false
      else
        bif (!(decide ((p373.length : Int) = (p374.length : Int)))) then
          some false
        else
          bif (!(decide (p368 = p369))) then
            some false
          else
            bif (!(p360 == p361)) then
              some false
            else
              (f_impl_SenderOk p362 p370).bind fun y390 =>
              (f_spec_SenderOk p362 p370).bind fun y391 =>
              bif (!(y390 == y391)) then
                some false
              else
                (f_spec_DrawPacketOk p356).bind fun y484 =>
                (f_impl_PacketOk y484.1 y484.2.1 y484.2.2.1 y484.2.2.2.1 y484.2.2.2.2.1 y484.2.2.2.2.2.1 y484.2.2.2.2.2.2.1 y484.2.2.2.2.2.2.2.1 y484.2.2.2.2.2.2.2.2).bind fun y485 =>
                (f_spec_PacketOk y484.1 y484.2.1 y484.2.2.1 y484.2.2.2.1 y484.2.2.2.2.1 y484.2.2.2.2.2.1 y484.2.2.2.2.2.2.1 y484.2.2.2.2.2.2.2.1 y484.2.2.2.2.2.2.2.2).bind fun y486 =>
                bif (!(y485 == y486)) then
                  some false
                else
                  bif p360 then
                    bif (!(decide (p368 = (IntKind.wrap .i64 (p367 + (1 : Int)))))) then
                      some false
                    else
                      bif (!p360) then
                        bif (!(decide (p368 = p367))) then
                          some false
                        else
                          (f_laws_FnLines.j0 p357 p358 p362 p363 p364 p365 p370 p371 p372 p373).bind fun r487 =>
                          some r487
                      else
                        (f_laws_FnLines.j0 p357 p358 p362 p363 p364 p365 p370 p371 p372 p373).bind fun r488 =>
                        some r488
                  else
                    bif (!p360) then
                      bif (!(decide (p368 = p367))) then
                        some false
                      else
                        (f_laws_FnLines.j0 p357 p358 p362 p363 p364 p365 p370 p371 p372 p373).bind fun r489 =>
                        some r489
                    else
                      (f_laws_FnLines.j0 p357 p358 p362 p363 p364 p365 p370 p371 p372 p373).bind fun r490 =>
                      some r490
noncomputable def f_laws_FnLines (x0 : List Int) : Option (Bool) :=
  (f_laws_big x0).bind fun y546 =>
  bif y546 then
    some true
  else
    (f_spec_DrawQueue x0).bind fun y547 =>
    (f_impl_Queue y547.1 y547.2.1 y547.2.2.1 y547.2.2.2.1 y547.2.2.2.2.1 y547.2.2.2.2.2).bind fun y548 =>
    (f_spec_Queue y547.1 y547.2.1 y547.2.2.1 y547.2.2.2.1 y547.2.2.2.2.1 y547.2.2.2.2.2).bind fun y549 =>
    (f_spec_DrawAcked x0).bind fun y550 =>
    (f_impl_Acked y550.1 y550.2.1 y550.2.2).bind fun y551 =>
    (f_spec_Acked y550.1 y550.2.1 y550.2.2).bind fun y552 =>
    (f_spec_DrawArrived x0).bind fun y553 =>
    (f_impl_Arrived y553.1 y553.2).bind fun y554 =>
    (f_spec_Arrived y553.1 y553.2).bind fun y555 =>
    (f_laws_FnLines.j1 x0 false y548.2.2 y549.2.2 y554.2 y555.2 y547.1 y548.1 y550.1 y551.1 y552.1 y553.1 y554.1 y555.1 y547.2.1 y548.2.1 y550.2.1 y551.2 y552.2).bind fun r556 =>
    some r556
noncomputable def C10 : Con := ⟨[(.B, false, [(.sl R0)])], [(false, [.bool])], [(.sl R0)], [.bool], fun (p : List Int) => f_laws_FnLines p⟩
noncomputable def f_laws_FnLines.j0.c : LoopCon := ⟨1000, 6, [2, 3, 5, 6, 9, 11], ⟨[(2, .bool false), (3, .ptr 1000 0), (5, .ptr 1001 0), (6, .bool false), (9, .ptr 1002 0), (11, .ptr 1003 0)], [(1000, .box [.int .i64 0, .ref 1004 [] none]), (1001, .box [.int .i64 0, .ref 1005 [] none]), (1002, .box [.int .i64 0, .ref 1006 [] none]), (1003, .box [.int .i64 0, .ref 1007 [] none]), (1004, .row R2 []), (1005, .row R2 []), (1006, .row R2 []), (1007, .row R2 [])], 1008⟩, [.bool, .bool, (.int .i64), (.int .i64), (.int .i64), (.int .i64), (.sl R2), (.sl R2), (.sl R2), (.sl R2)], [⟨.ret, [2], ⟨[(2, .bool false)], [], 1000⟩, [.bool]⟩], fun (p : Bool × Bool × Int × Int × Int × Int × (List (Int × Int × Bool × List Int)) × (List (Int × Int × Bool × List Int)) × (List (Int × Int × Bool × List Int)) × (List (Int × Int × Bool × List Int))) => f_laws_FnLines.j0 p.1 p.2.1 p.2.2.1 p.2.2.2.1 p.2.2.2.2.1 p.2.2.2.2.2.1 p.2.2.2.2.2.2.1 p.2.2.2.2.2.2.2.1 p.2.2.2.2.2.2.2.2.1 p.2.2.2.2.2.2.2.2.2⟩
noncomputable def f_laws_FnLines.j1.c : LoopCon := ⟨1000, 6, [0, 2, 3, 5, 6, 8, 9, 11, 12, 13, 15, 16, 17, 18], ⟨[(0, .bor none R0 []), (2, .bool false), (3, .ptr 1000 0), (5, .ptr 1001 0), (6, .bool false), (8, .bool false), (9, .ptr 1002 0), (11, .ptr 1003 0), (12, .ptr 1004 0), (13, .ptr 1005 0), (15, .ptr 1006 0), (16, .bool false), (17, .ptr 1007 0), (18, .bool false)], [(1000, .box [.int .i64 0, .ref 1008 [] none]), (1001, .box [.int .i64 0, .ref 1009 [] none]), (1002, .box [.int .i64 0, .ref 1010 [] none]), (1003, .box [.int .i64 0, .ref 1011 [] none]), (1004, .box [.int .i64 0, .ref 1012 [] none]), (1005, .box [.int .i64 0]), (1006, .box [.int .i64 0]), (1007, .box [.int .i64 0]), (1008, .row R2 []), (1009, .row R2 []), (1010, .row R2 []), (1011, .row R2 []), (1012, .row R2 [])], 1013⟩, [(.sl R0), .bool, .bool, .bool, .bool, .bool, (.int .i64), (.int .i64), (.int .i64), (.int .i64), (.int .i64), (.int .i64), (.int .i64), (.int .i64), (.sl R2), (.sl R2), (.sl R2), (.sl R2), (.sl R2)], [⟨.ret, [2], ⟨[(2, .bool false)], [], 1000⟩, [.bool]⟩], fun (p : List Int × Bool × Bool × Bool × Bool × Bool × Int × Int × Int × Int × Int × Int × Int × Int × (List (Int × Int × Bool × List Int)) × (List (Int × Int × Bool × List Int)) × (List (Int × Int × Bool × List Int)) × (List (Int × Int × Bool × List Int)) × (List (Int × Int × Bool × List Int))) => f_laws_FnLines.j1 p.1 p.2.1 p.2.2.1 p.2.2.2.1 p.2.2.2.2.1 p.2.2.2.2.2.1 p.2.2.2.2.2.2.1 p.2.2.2.2.2.2.2.1 p.2.2.2.2.2.2.2.2.1 p.2.2.2.2.2.2.2.2.2.1 p.2.2.2.2.2.2.2.2.2.2.1 p.2.2.2.2.2.2.2.2.2.2.2.1 p.2.2.2.2.2.2.2.2.2.2.2.2.1 p.2.2.2.2.2.2.2.2.2.2.2.2.2.1 p.2.2.2.2.2.2.2.2.2.2.2.2.2.2.1 p.2.2.2.2.2.2.2.2.2.2.2.2.2.2.2.1 p.2.2.2.2.2.2.2.2.2.2.2.2.2.2.2.2.1 p.2.2.2.2.2.2.2.2.2.2.2.2.2.2.2.2.2.1 p.2.2.2.2.2.2.2.2.2.2.2.2.2.2.2.2.2.2⟩
noncomputable abbrev K10 : Cons := [(26, C26), (27, C27), (28, C28), (29, C29), (30, C30), (31, C31), (32, C32), (33, C33), (64, C64), (65, C65), (66, C66), (67, C67), (68, C68), (69, C69), (70, C70)]
noncomputable abbrev L10 : List (Nat × Loops) := [(10, [(1000017, f_laws_FnLines.j0.c), (1000012, f_laws_FnLines.j1.c)])]
abbrev Q10 : List (Nat × List (Int × Nat) × Nat) := []
noncomputable abbrev X10 : Nat → Ctx := ctxOf tb K10 L10 Q10
theorem f_laws_FnLines.j0.ok : ∀ p, (fun (p : Bool × Bool × Int × Int × Int × Int × (List (Int × Int × Bool × List Int)) × (List (Int × Int × Bool × List Int)) × (List (Int × Int × Bool × List Int)) × (List (Int × Int × Bool × List Int))) => f_laws_FnLines.j0 p.1 p.2.1 p.2.2.1 p.2.2.2.1 p.2.2.2.2.1 p.2.2.2.2.2.1 p.2.2.2.2.2.2.1 p.2.2.2.2.2.2.2.1 p.2.2.2.2.2.2.2.2.1 p.2.2.2.2.2.2.2.2.2) p = iterD (roundOf fs X10 6 10 1000017 false f_laws_FnLines.j0.c) 1 p := fun p => by kernel_rfl
theorem f_laws_FnLines.j1.ok : ∀ p, (fun (p : List Int × Bool × Bool × Bool × Bool × Bool × Int × Int × Int × Int × Int × Int × Int × Int × (List (Int × Int × Bool × List Int)) × (List (Int × Int × Bool × List Int)) × (List (Int × Int × Bool × List Int)) × (List (Int × Int × Bool × List Int)) × (List (Int × Int × Bool × List Int))) => f_laws_FnLines.j1 p.1 p.2.1 p.2.2.1 p.2.2.2.1 p.2.2.2.2.1 p.2.2.2.2.2.1 p.2.2.2.2.2.2.1 p.2.2.2.2.2.2.2.1 p.2.2.2.2.2.2.2.2.1 p.2.2.2.2.2.2.2.2.2.1 p.2.2.2.2.2.2.2.2.2.2.1 p.2.2.2.2.2.2.2.2.2.2.2.1 p.2.2.2.2.2.2.2.2.2.2.2.2.1 p.2.2.2.2.2.2.2.2.2.2.2.2.2.1 p.2.2.2.2.2.2.2.2.2.2.2.2.2.2.1 p.2.2.2.2.2.2.2.2.2.2.2.2.2.2.2.1 p.2.2.2.2.2.2.2.2.2.2.2.2.2.2.2.2.1 p.2.2.2.2.2.2.2.2.2.2.2.2.2.2.2.2.2.1 p.2.2.2.2.2.2.2.2.2.2.2.2.2.2.2.2.2.2) p = iterD (roundOf fs X10 6 10 1000012 false f_laws_FnLines.j1.c) 1 p := fun p => by kernel_rfl
theorem E10 : ∀ x, funRun fs X10 6 10 C10 x = C10.fn x := fun x => by kernel_rfl
theorem B10 : ConB Try.prog 10 C10 := ConB.make FS MIX TY (cons := K10) (L := L10) (ptrs := Q10) ⟨S26, S27, S28, S29, S30, S31, S32, S33, S64, S65, S66, S67, S68, S69, S70, trivial⟩ trivial ⟨⟨⟨1, fun p => f_laws_FnLines.j0.ok p⟩, ⟨1, fun p => f_laws_FnLines.j1.ok p⟩, trivial⟩, trivial⟩ rfl rfl E10
theorem S10 : ConS Try.prog 10 C10 := B10.call rfl
/-- What is left: the plain law. -/
def Pure : Prop := ∀ x : Tup [(.sl R0)], WfT [(.sl R0)] x → C10.fn x = some (true : Bool)
end
end Go.Abs
