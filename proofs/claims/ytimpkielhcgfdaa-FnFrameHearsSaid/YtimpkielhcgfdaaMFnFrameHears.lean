import Derived.Test.YtimpkielhcgfdaaProg
import Derived.Test.YtimpkielhcgfdaaAbsD
import Derived.KernelRfl
namespace Go.Abs
open Go.Proofs
set_option linter.unusedVariables false
set_option maxRecDepth 100000
noncomputable section
abbrev N : Nat := 1152921504606846976
abbrev R0 : RT := .one (.int .u8)
abbrev R1 : RT := .one (.int .i64)
noncomputable def tb : Tb := [(0, ⟨false, [], [], 0, 0⟩),
  (3, ⟨false, [(.int .i64)], [], 0, 8⟩),
  (4, ⟨false, [.bool], [], 0, 1⟩),
  (5, ⟨false, [(.int .u8)], [], 0, 1⟩),
  (22, ⟨false, [(.sl R1)], [], 3, 24⟩),
  (35, ⟨false, [(.sl R0)], [], 5, 24⟩),
  (51, ⟨true, [(.int .i64), (.int .i64), .bool, (.sl R1)], [(0, 3), (1, 3), (2, 4), (3, 22)], 0, 48⟩),
  (59, ⟨true, [(.int .i64), (.sl R1), .bool], [(0, 3), (1, 22), (2, 4)], 0, 40⟩),
  (60, ⟨false, [], [], 0, 0⟩),
  (62, ⟨false, [], [], 0, 0⟩),
  (150, ⟨false, [], [], 0, 8⟩),
  (156, ⟨false, [], [], 0, 8⟩),
  (200, ⟨true, [(.sl R0), (.int .i64), (.int .i64)], [(0, 35), (1, 3), (2, 3)], 0, 40⟩)]
noncomputable def fsL : List (Nat × Func) := [(26, Try.f26), (107, Try.f107), (177, Try.f177), (109, Try.f109), (141, Try.f141), (110, Try.f110), (188, Try.f188), (181, Try.f181), (123, Try.f123), (134, Try.f134), (115, Try.f115), (40, Try.f40), (100, Try.f100), (124, Try.f124), (103, Try.f103), (137, Try.f137), (180, Try.f180), (207, Try.f207), (179, Try.f179), (120, Try.f120), (46, Try.f46), (119, Try.f119), (37, Try.f37), (41, Try.f41), (125, Try.f125), (97, Try.f97), (126, Try.f126), (44, Try.f44), (45, Try.f45), (118, Try.f118), (42, Try.f42), (43, Try.f43), (6, Try.f6)]
noncomputable def fs : Nat → Option Func := getF fsL
theorem MIX : Try.prog.follows .mixedOrders = true := by kernel_rfl
theorem TY : tyCheck Try.prog tb = true := by kernel_rfl
theorem CAT : catCheck tb = true := by kernel_rfl
theorem FSP : FsP Try.prog fsL := ⟨Try.func26, Try.func107, Try.func177, Try.func109, Try.func141, Try.func110, Try.func188, Try.func181, Try.func123, Try.func134, Try.func115, Try.func40, Try.func100, Try.func124, Try.func103, Try.func137, Try.func180, Try.func207, Try.func179, Try.func120, Try.func46, Try.func119, Try.func37, Try.func41, Try.func125, Try.func97, Try.func126, Try.func44, Try.func45, Try.func118, Try.func42, Try.func43, Try.func6, trivial⟩
theorem FSC : (fsL.all fun p => fnChk p.2) = true := by kernel_rfl
theorem FS : FsS Try.prog fs := FsS.of FSP FSC
/-! laws.big: function 26 -/
noncomputable def f_laws_big (x0 : List Int) : Option (Bool) :=
  some (decide ((1048576 : Int) < (x0.length : Int)))
noncomputable def C26 : Con := ⟨[(.B, false, [(.sl R0)])], [(false, [.bool])], [(.sl R0)], [.bool], fun (p : List Int) => f_laws_big p⟩
noncomputable abbrev K26 : Cons := []
noncomputable abbrev L26 : List (Nat × Loops) := []
abbrev Q26 : List (Nat × List (Int × Nat) × Nat) := []
noncomputable abbrev X26 : Nat → Ctx := ctxOf tb K26 L26 Q26
theorem E26 : ∀ x, funRun fs X26 6 26 C26 x = C26.fn x := fun x => by kernel_rfl
theorem B26 : ConB Try.prog 26 C26 := ConB.make FS MIX TY (cons := K26) (L := L26) (ptrs := Q26) trivial trivial trivial rfl rfl E26
theorem S26 : ConS Try.prog 26 C26 := B26.call rfl
/-! spec.l1Byte: function 177 -/
noncomputable def f_spec_l1Byte (x0 : List Int) (x1 : Int) (x2 : Int) : Option (Int × Int × Int) :=
  bif (decide (x1 < (x0.length : Int))) then
    bif ((decide ((0 : Int) ≤ x1)) && (decide (x1 < (x0.length : Int)))) then
    some ((bitI .and .i64 (IntKind.wrap .i64 ((bitI .and .i64 (bitI .xor .i64 (shrI .i64 (IntKind.wrap .i64 ((IntKind.wrap .i64 (x2 * (6364136223846793005 : Int))) + (1442695040888963407 : Int))) (33 : Int)) (shrI .i64 (IntKind.wrap .i64 ((IntKind.wrap .i64 (x2 * (6364136223846793005 : Int))) + (1442695040888963407 : Int))) (45 : Int))) (255 : Int)) + (IntKind.wrap .i64 ((x0.getD x1.toNat 0))))) (255 : Int)), (IntKind.wrap .i64 (x1 + (1 : Int))), (IntKind.wrap .i64 ((IntKind.wrap .i64 (x2 * (6364136223846793005 : Int))) + (1442695040888963407 : Int))))
    else none
  else
    some ((bitI .and .i64 (bitI .xor .i64 (shrI .i64 (IntKind.wrap .i64 ((IntKind.wrap .i64 (x2 * (6364136223846793005 : Int))) + (1442695040888963407 : Int))) (33 : Int)) (shrI .i64 (IntKind.wrap .i64 ((IntKind.wrap .i64 (x2 * (6364136223846793005 : Int))) + (1442695040888963407 : Int))) (45 : Int))) (255 : Int)), x1, (IntKind.wrap .i64 ((IntKind.wrap .i64 (x2 * (6364136223846793005 : Int))) + (1442695040888963407 : Int))))
noncomputable def C177 : Con := ⟨[(.P [false, true, true], false, [(.sl R0), (.int .i64), (.int .i64)])], [(false, [(.int .i64)])], [(.sl R0), (.int .i64), (.int .i64)], [(.int .i64), (.int .i64), (.int .i64)], fun (p : List Int × Int × Int) => f_spec_l1Byte p.1 p.2.1 p.2.2⟩
noncomputable abbrev K177 : Cons := []
noncomputable abbrev L177 : List (Nat × Loops) := []
abbrev Q177 : List (Nat × List (Int × Nat) × Nat) := []
noncomputable abbrev X177 : Nat → Ctx := ctxOf tb K177 L177 Q177
theorem E177 : ∀ x, funG fs X177 6 177 C177 x = C177.fn x := fun x => by kernel_rfl
theorem B177 : ConG Try.prog 177 C177 := ConG.make FS MIX TY (cons := K177) (L := L177) (ptrs := Q177) trivial trivial trivial rfl (by kernel_rfl) E177
theorem S177 : ConS Try.prog 177 C177 := B177.call (by kernel_rfl)
/-! spec.l1Below: function 109 -/
noncomputable def f_spec_l1Below (x0 : List Int) (x1 : Int) (x2 : Int) (x3 : Int) : Option (Int × Int × Int) :=
  bif (decide (x3 ≤ (0 : Int))) then
    some (0, x1, x2)
  else
    bif (decide (x3 ≤ (256 : Int))) then
      (f_spec_l1Byte x0 x1 x2).bind fun y1 =>
      bif (decide (x3 = (0 : Int))) then none else
      some ((Int.tmod y1.1 x3), y1.2.1, y1.2.2)
    else
      (f_spec_l1Byte x0 x1 x2).bind fun y2 =>
      (f_spec_l1Byte x0 y2.2.1 y2.2.2).bind fun y3 =>
      (f_spec_l1Byte x0 y3.2.1 y3.2.2).bind fun y4 =>
      (f_spec_l1Byte x0 y4.2.1 y4.2.2).bind fun y5 =>
      bif (decide (x3 = (0 : Int))) then none else
      some ((Int.tmod (IntKind.wrap .i64 ((IntKind.wrap .i64 ((IntKind.wrap .i64 ((IntKind.wrap .i64 (y2.1 * (16777216 : Int))) + (IntKind.wrap .i64 (y3.1 * (65536 : Int))))) + (IntKind.wrap .i64 (y4.1 * (256 : Int))))) + y5.1)) x3), y5.2.1, y5.2.2)
noncomputable def C109 : Con := ⟨[(.P [false, true, true], false, [(.sl R0), (.int .i64), (.int .i64)]), (.B, false, [(.int .i64)])], [(false, [(.int .i64)])], [(.sl R0), (.int .i64), (.int .i64), (.int .i64)], [(.int .i64), (.int .i64), (.int .i64)], fun (p : List Int × Int × Int × Int) => f_spec_l1Below p.1 p.2.1 p.2.2.1 p.2.2.2⟩
noncomputable abbrev K109 : Cons := [(177, C177)]
noncomputable abbrev L109 : List (Nat × Loops) := []
abbrev Q109 : List (Nat × List (Int × Nat) × Nat) := []
noncomputable abbrev X109 : Nat → Ctx := ctxOf tb K109 L109 Q109
theorem E109 : ∀ x, funG fs X109 6 109 C109 x = C109.fn x := fun x => by kernel_rfl
theorem B109 : ConG Try.prog 109 C109 := ConG.make FS MIX TY (cons := K109) (L := L109) (ptrs := Q109) ⟨S177, trivial⟩ trivial trivial rfl (by kernel_rfl) E109
theorem S109 : ConS Try.prog 109 C109 := B109.call (by kernel_rfl)
/-! spec.l1Once: function 141 -/
noncomputable def f_spec_l1Once (x0 : List Int) (x1 : Int) (x2 : Int) (x3 : Int) : Option (Bool × Int × Int) :=
  (f_spec_l1Below x0 x1 x2 x3).bind fun y6 =>
  some ((decide (y6.1 = (0 : Int))), y6.2.1, y6.2.2)
noncomputable def C141 : Con := ⟨[(.P [false, true, true], false, [(.sl R0), (.int .i64), (.int .i64)]), (.B, false, [(.int .i64)])], [(false, [.bool])], [(.sl R0), (.int .i64), (.int .i64), (.int .i64)], [.bool, (.int .i64), (.int .i64)], fun (p : List Int × Int × Int × Int) => f_spec_l1Once p.1 p.2.1 p.2.2.1 p.2.2.2⟩
noncomputable abbrev K141 : Cons := [(109, C109)]
noncomputable abbrev L141 : List (Nat × Loops) := []
abbrev Q141 : List (Nat × List (Int × Nat) × Nat) := []
noncomputable abbrev X141 : Nat → Ctx := ctxOf tb K141 L141 Q141
theorem E141 : ∀ x, funG fs X141 6 141 C141 x = C141.fn x := fun x => by kernel_rfl
theorem B141 : ConG Try.prog 141 C141 := ConG.make FS MIX TY (cons := K141) (L := L141) (ptrs := Q141) ⟨S109, trivial⟩ trivial trivial rfl (by kernel_rfl) E141
theorem S141 : ConS Try.prog 141 C141 := B141.call (by kernel_rfl)
/-! spec.l1PickInt: function 110 -/
noncomputable def f_spec_l1PickInt (x0 : List Int) (x1 : Int) (x2 : Int) (x3 : List Int) : Option (Int × Int × Int) :=
  (f_spec_l1Below x0 x1 x2 (x3.length : Int)).bind fun y7 =>
  bif ((decide ((0 : Int) ≤ y7.1)) && (decide (y7.1 < (x3.length : Int)))) then
  some ((x3.getD y7.1.toNat 0), y7.2.1, y7.2.2)
  else none
noncomputable def C110 : Con := ⟨[(.P [false, true, true], false, [(.sl R0), (.int .i64), (.int .i64)]), (.B, false, [(.sl R1)])], [(false, [(.int .i64)])], [(.sl R0), (.int .i64), (.int .i64), (.sl R1)], [(.int .i64), (.int .i64), (.int .i64)], fun (p : List Int × Int × Int × List Int) => f_spec_l1PickInt p.1 p.2.1 p.2.2.1 p.2.2.2⟩
noncomputable abbrev K110 : Cons := [(109, C109)]
noncomputable abbrev L110 : List (Nat × Loops) := []
abbrev Q110 : List (Nat × List (Int × Nat) × Nat) := []
noncomputable abbrev X110 : Nat → Ctx := ctxOf tb K110 L110 Q110
theorem E110 : ∀ x, funG fs X110 6 110 C110 x = C110.fn x := fun x => by kernel_rfl
theorem B110 : ConG Try.prog 110 C110 := ConG.make FS MIX TY (cons := K110) (L := L110) (ptrs := Q110) ⟨S109, trivial⟩ trivial trivial rfl (by kernel_rfl) E110
theorem S110 : ConS Try.prog 110 C110 := B110.call (by kernel_rfl)
/-! spec.l1DrawList: function 188 -/
noncomputable def f_spec_l1DrawList.l0 : Nat → Int → (List Int) → Int → Int → (List Int) → Option (List Int × Int × Int × List Int)
  | 0, _, _, _, _, _ => none
  | n + 1, p8, p9, p10, p11, p12 =>
    bif (decide (p8 < (4 : Int))) then
      (f_spec_l1PickInt p9 p10 p11 ([0, 1, 5, 300, 65535] : List Int)).bind fun y13 =>
      bif (Nat.blt (p12.length + ([y13.1] : List Int).length) 17592186044416) then
      (some ((p12 ++ ([y13.1] : List Int)) : List Int)).bind fun z14 =>
      f_spec_l1DrawList.l0 n (IntKind.wrap .i64 (p8 + (1 : Int))) p9 y13.2.1 y13.2.2 z14
      else none
    else
      some (p9, p10, p11, p12)
noncomputable def f_spec_l1DrawList (x0 : List Int) (x1 : Int) (x2 : Int) : Option (List Int × Int × Int) :=
  (f_spec_l1DrawList.l0 N 0 x0 x1 x2 ([] : List Int)).bind fun r15 =>
  some (r15.2.2.2, r15.2.1, r15.2.2.1)
noncomputable def C188 : Con := ⟨[(.P [false, true, true], false, [(.sl R0), (.int .i64), (.int .i64)])], [(false, [(.sl R1)])], [(.sl R0), (.int .i64), (.int .i64)], [(.sl R1), (.int .i64), (.int .i64)], fun (p : List Int × Int × Int) => f_spec_l1DrawList p.1 p.2.1 p.2.2⟩
noncomputable def f_spec_l1DrawList.l0.c : LoopCon := ⟨1000, 6, [0, 2, 3, 4], ⟨[(0, .ptr 500 0), (2, .nil (some R1)), (3, .ref 1000 [] none), (4, .int .i64 0)], [(500, .box [.bor (some 0) R0 [], .int .i64 0, .int .i64 0]), (1000, .row R1 [])], 1001⟩, [(.int .i64), (.sl R0), (.int .i64), (.int .i64), (.sl R1)], [⟨.exit 0, [2, 3], ⟨[(2, .nil (some R1)), (3, .ref 1000 [] none)], [(500, .box [.bor (some 0) R0 [], .int .i64 0, .int .i64 0]), (1000, .row R1 [])], 1001⟩, [(.sl R0), (.int .i64), (.int .i64), (.sl R1)]⟩], fun (p : Int × List Int × Int × Int × List Int) => f_spec_l1DrawList.l0 N p.1 p.2.1 p.2.2.1 p.2.2.2.1 p.2.2.2.2⟩
noncomputable abbrev K188 : Cons := [(110, C110)]
noncomputable abbrev L188 : List (Nat × Loops) := [(188, [(3, f_spec_l1DrawList.l0.c)])]
abbrev Q188 : List (Nat × List (Int × Nat) × Nat) := []
noncomputable abbrev X188 : Nat → Ctx := ctxOf tb K188 L188 Q188
theorem f_spec_l1DrawList.l0.ok : ∀ n p, (fun (p : Int × List Int × Int × Int × List Int) => f_spec_l1DrawList.l0 n p.1 p.2.1 p.2.2.1 p.2.2.2.1 p.2.2.2.2) p = iterD (roundOf fs X188 6 188 3 false f_spec_l1DrawList.l0.c) n p :=
  iter_of (l := fun n => fun (p : Int × List Int × Int × Int × List Int) => f_spec_l1DrawList.l0 n p.1 p.2.1 p.2.2.1 p.2.2.2.1 p.2.2.2.2) (fun _ => rfl) (fun n p => by kernel_rfl)
theorem E188 : ∀ x, funG fs X188 6 188 C188 x = C188.fn x := fun x => by kernel_rfl
theorem B188 : ConG Try.prog 188 C188 := ConG.make FS MIX TY (cons := K188) (L := L188) (ptrs := Q188) ⟨S110, trivial⟩ trivial ⟨⟨⟨N, fun p => f_spec_l1DrawList.l0.ok N p⟩, trivial⟩, trivial⟩ rfl (by kernel_rfl) E188
theorem S188 : ConS Try.prog 188 C188 := B188.call (by kernel_rfl)
/-! spec.l3DrawRight: function 181 -/
noncomputable def f_spec_l3DrawRight (x0 : List Int) (x1 : Int) (x2 : Int) : Option (Int × List Int × Bool × Int × Int) :=
  (f_spec_l1Below x0 x1 x2 3).bind fun y16 =>
  (f_spec_l1Once x0 y16.2.1 y16.2.2 3).bind fun y17 =>
  bif (!(decide (y16.1 = (0 : Int)))) then
    (f_spec_l1DrawList x0 y17.2.1 y17.2.2).bind fun y18 =>
    some (y16.1, y18.1, y17.1, y18.2.1, y18.2.2)
  else
    some (y16.1, [], y17.1, y17.2.1, y17.2.2)
noncomputable def C181 : Con := ⟨[(.P [false, true, true], false, [(.sl R0), (.int .i64), (.int .i64)])], [(true, [(.int .i64), (.sl R1), .bool])], [(.sl R0), (.int .i64), (.int .i64)], [(.int .i64), (.sl R1), .bool, (.int .i64), (.int .i64)], fun (p : List Int × Int × Int) => f_spec_l3DrawRight p.1 p.2.1 p.2.2⟩
noncomputable abbrev K181 : Cons := [(109, C109), (141, C141), (188, C188)]
noncomputable abbrev L181 : List (Nat × Loops) := []
abbrev Q181 : List (Nat × List (Int × Nat) × Nat) := []
noncomputable abbrev X181 : Nat → Ctx := ctxOf tb K181 L181 Q181
theorem E181 : ∀ x, funG fs X181 6 181 C181 x = C181.fn x := fun x => by kernel_rfl
theorem B181 : ConG Try.prog 181 C181 := ConG.make FS MIX TY (cons := K181) (L := L181) (ptrs := Q181) ⟨S109, S141, S188, trivial⟩ trivial trivial rfl (by kernel_rfl) E181
theorem S181 : ConS Try.prog 181 C181 := B181.call (by kernel_rfl)
/-! spec.l3Draw: function 123 -/
noncomputable def f_spec_l3Draw (x0 : List Int) (x1 : Int) (x2 : Int) : Option (Int × List Int × Bool × Int × Int) :=
  (f_spec_l3DrawRight x0 x1 x2).bind fun y19 =>
  (f_spec_l1Below x0 y19.2.2.2.1 y19.2.2.2.2 12).bind fun y20 =>
  bif (decide (y20.1 = (0 : Int))) then
    (f_spec_l1Below x0 y20.2.1 y20.2.2 5).bind fun y21 =>
    some ((IntKind.wrap .i64 (y21.1 - (1 : Int))), y19.2.1, y19.2.2.1, y21.2.1, y21.2.2)
  else
    bif (decide (y20.1 = (1 : Int))) then
      bif (Nat.blt (y19.2.1.length + ([3] : List Int).length) 17592186044416) then
      (some ((y19.2.1 ++ ([3] : List Int)) : List Int)).bind fun z22 =>
      some (y19.1, z22, y19.2.2.1, y20.2.1, y20.2.2)
      else none
    else
      bif (decide (y20.1 = (2 : Int))) then
        some (y19.1, [], y19.2.2.1, y20.2.1, y20.2.2)
      else
        some (y19.1, y19.2.1, y19.2.2.1, y20.2.1, y20.2.2)
noncomputable def C123 : Con := ⟨[(.P [false, true, true], false, [(.sl R0), (.int .i64), (.int .i64)])], [(true, [(.int .i64), (.sl R1), .bool])], [(.sl R0), (.int .i64), (.int .i64)], [(.int .i64), (.sl R1), .bool, (.int .i64), (.int .i64)], fun (p : List Int × Int × Int) => f_spec_l3Draw p.1 p.2.1 p.2.2⟩
noncomputable abbrev K123 : Cons := [(109, C109), (181, C181)]
noncomputable abbrev L123 : List (Nat × Loops) := []
abbrev Q123 : List (Nat × List (Int × Nat) × Nat) := []
noncomputable abbrev X123 : Nat → Ctx := ctxOf tb K123 L123 Q123
theorem E123 : ∀ x, funG fs X123 6 123 C123 x = C123.fn x := fun x => by kernel_rfl
theorem B123 : ConG Try.prog 123 C123 := ConG.make FS MIX TY (cons := K123) (L := L123) (ptrs := Q123) ⟨S109, S181, trivial⟩ trivial trivial rfl (by kernel_rfl) E123
theorem S123 : ConS Try.prog 123 C123 := B123.call (by kernel_rfl)
/-! spec.l1DrawRight: function 134 -/
noncomputable def f_spec_l1DrawRight (x0 : List Int) (x1 : Int) (x2 : Int) : Option (Int × Int × Bool × List Int × Int × Int) :=
  (f_spec_l1Below x0 x1 x2 7).bind fun y23 =>
  (f_spec_l1Below x0 y23.2.1 y23.2.2 6).bind fun y24 =>
  bif (decide ((IntKind.wrap .i64 ((1 : Int) + y23.1)) = (3 : Int))) then
    (f_spec_l1Once x0 y24.2.1 y24.2.2 2).bind fun y25 =>
    bif (decide ((IntKind.wrap .i64 ((1 : Int) + y23.1)) = (3 : Int))) then
      (f_spec_l1DrawList x0 y25.2.1 y25.2.2).bind fun y26 =>
      some ((IntKind.wrap .i64 ((1 : Int) + y23.1)), y24.1, y25.1, y26.1, y26.2.1, y26.2.2)
    else
      bif (decide ((IntKind.wrap .i64 ((1 : Int) + y23.1)) = (7 : Int))) then
        (f_spec_l1DrawList x0 y25.2.1 y25.2.2).bind fun y27 =>
        some ((IntKind.wrap .i64 ((1 : Int) + y23.1)), y24.1, y25.1, y27.1, y27.2.1, y27.2.2)
      else
        some ((IntKind.wrap .i64 ((1 : Int) + y23.1)), y24.1, y25.1, [], y25.2.1, y25.2.2)
  else
    bif (decide ((IntKind.wrap .i64 ((1 : Int) + y23.1)) = (6 : Int))) then
      (f_spec_l1Once x0 y24.2.1 y24.2.2 2).bind fun y28 =>
      bif (decide ((IntKind.wrap .i64 ((1 : Int) + y23.1)) = (3 : Int))) then
        (f_spec_l1DrawList x0 y28.2.1 y28.2.2).bind fun y29 =>
        some ((IntKind.wrap .i64 ((1 : Int) + y23.1)), y24.1, y28.1, y29.1, y29.2.1, y29.2.2)
      else
        bif (decide ((IntKind.wrap .i64 ((1 : Int) + y23.1)) = (7 : Int))) then
          (f_spec_l1DrawList x0 y28.2.1 y28.2.2).bind fun y30 =>
          some ((IntKind.wrap .i64 ((1 : Int) + y23.1)), y24.1, y28.1, y30.1, y30.2.1, y30.2.2)
        else
          some ((IntKind.wrap .i64 ((1 : Int) + y23.1)), y24.1, y28.1, [], y28.2.1, y28.2.2)
    else
      bif (decide ((IntKind.wrap .i64 ((1 : Int) + y23.1)) = (3 : Int))) then
        (f_spec_l1DrawList x0 y24.2.1 y24.2.2).bind fun y31 =>
        some ((IntKind.wrap .i64 ((1 : Int) + y23.1)), y24.1, false, y31.1, y31.2.1, y31.2.2)
      else
        bif (decide ((IntKind.wrap .i64 ((1 : Int) + y23.1)) = (7 : Int))) then
          (f_spec_l1DrawList x0 y24.2.1 y24.2.2).bind fun y32 =>
          some ((IntKind.wrap .i64 ((1 : Int) + y23.1)), y24.1, false, y32.1, y32.2.1, y32.2.2)
        else
          some ((IntKind.wrap .i64 ((1 : Int) + y23.1)), y24.1, false, [], y24.2.1, y24.2.2)
noncomputable def C134 : Con := ⟨[(.P [false, true, true], false, [(.sl R0), (.int .i64), (.int .i64)])], [(true, [(.int .i64), (.int .i64), .bool, (.sl R1)])], [(.sl R0), (.int .i64), (.int .i64)], [(.int .i64), (.int .i64), .bool, (.sl R1), (.int .i64), (.int .i64)], fun (p : List Int × Int × Int) => f_spec_l1DrawRight p.1 p.2.1 p.2.2⟩
noncomputable abbrev K134 : Cons := [(109, C109), (141, C141), (188, C188)]
noncomputable abbrev L134 : List (Nat × Loops) := []
abbrev Q134 : List (Nat × List (Int × Nat) × Nat) := []
noncomputable abbrev X134 : Nat → Ctx := ctxOf tb K134 L134 Q134
theorem E134 : ∀ x, funG fs X134 6 134 C134 x = C134.fn x := fun x => by kernel_rfl
theorem B134 : ConG Try.prog 134 C134 := ConG.make FS MIX TY (cons := K134) (L := L134) (ptrs := Q134) ⟨S109, S141, S188, trivial⟩ trivial trivial rfl (by kernel_rfl) E134
theorem S134 : ConS Try.prog 134 C134 := B134.call (by kernel_rfl)
/-! spec.l1Draw: function 115 -/
noncomputable def f_spec_l1Draw (x0 : List Int) (x1 : Int) (x2 : Int) : Option (Int × Int × Bool × List Int × Int × Int) :=
  (f_spec_l1DrawRight x0 x1 x2).bind fun y33 =>
  (f_spec_l1Below x0 y33.2.2.2.2.1 y33.2.2.2.2.2 12).bind fun y34 =>
  bif (decide (y34.1 = (0 : Int))) then
    (f_spec_l1Below x0 y34.2.1 y34.2.2 9).bind fun y35 =>
    some (y35.1, y33.2.1, y33.2.2.1, y33.2.2.2.1, y35.2.1, y35.2.2)
  else
    bif (decide (y34.1 = (1 : Int))) then
      (f_spec_l1PickInt x0 y34.2.1 y34.2.2 ([-1, 6] : List Int)).bind fun y36 =>
      some (y33.1, y36.1, y33.2.2.1, y33.2.2.2.1, y36.2.1, y36.2.2)
    else
      bif (decide (y34.1 = (2 : Int))) then
        some (y33.1, y33.2.1, (!y33.2.2.1), y33.2.2.2.1, y34.2.1, y34.2.2)
      else
        bif (decide (y34.1 = (3 : Int))) then
          (f_spec_l1PickInt x0 y34.2.1 y34.2.2 ([-1, 3, 65536] : List Int)).bind fun y37 =>
          bif (Nat.blt (y33.2.2.2.1.length + ([y37.1] : List Int).length) 17592186044416) then
          (some ((y33.2.2.2.1 ++ ([y37.1] : List Int)) : List Int)).bind fun z38 =>
          some (y33.1, y33.2.1, y33.2.2.1, z38, y37.2.1, y37.2.2)
          else none
        else
          some (y33.1, y33.2.1, y33.2.2.1, y33.2.2.2.1, y34.2.1, y34.2.2)
noncomputable def C115 : Con := ⟨[(.P [false, true, true], false, [(.sl R0), (.int .i64), (.int .i64)])], [(true, [(.int .i64), (.int .i64), .bool, (.sl R1)])], [(.sl R0), (.int .i64), (.int .i64)], [(.int .i64), (.int .i64), .bool, (.sl R1), (.int .i64), (.int .i64)], fun (p : List Int × Int × Int) => f_spec_l1Draw p.1 p.2.1 p.2.2⟩
noncomputable abbrev K115 : Cons := [(109, C109), (110, C110), (134, C134)]
noncomputable abbrev L115 : List (Nat × Loops) := []
abbrev Q115 : List (Nat × List (Int × Nat) × Nat) := []
noncomputable abbrev X115 : Nat → Ctx := ctxOf tb K115 L115 Q115
theorem E115 : ∀ x, funG fs X115 6 115 C115 x = C115.fn x := fun x => by kernel_rfl
theorem B115 : ConG Try.prog 115 C115 := ConG.make FS MIX TY (cons := K115) (L := L115) (ptrs := Q115) ⟨S109, S110, S134, trivial⟩ trivial trivial rfl (by kernel_rfl) E115
theorem S115 : ConS Try.prog 115 C115 := B115.call (by kernel_rfl)
/-! spec.DrawFrameHear: function 40 -/
noncomputable def f_spec_DrawFrameHear.l0 : Nat → (List Int) → Int → Int → Int → Bool → Int → Int → Bool → Option (List Int × Int × Int × Bool × Int × Int × Bool)
  | 0, _, _, _, _, _, _, _, _ => none
  | n + 1, p39, p40, p41, p42, p43, p44, p45, p46 =>
    bif (decide (p41 < (p39.length : Int))) then
      bif (decide (p41 < (4000 : Int))) then
        bif ((decide ((0 : Int) ≤ p41)) && (decide (p41 < (p39.length : Int)))) then
        f_spec_DrawFrameHear.l0 n p39 (bitI .and .i64 (IntKind.wrap .i64 ((IntKind.wrap .i64 ((IntKind.wrap .i64 (p40 * (131 : Int))) + (IntKind.wrap .i64 ((p39.getD p41.toNat 0))))) + (7 : Int))) (1073741823 : Int)) (IntKind.wrap .i64 (p41 + (1 : Int))) p42 p43 p44 p45 p46
        else none
      else
        some (p39, p40, p42, p43, p44, p45, p46)
    else
      some (p39, p40, p42, p43, p44, p45, p46)
noncomputable def f_spec_DrawFrameHear (x0 : List Int) : Option (Int × List Int × Bool × Int × Int × Bool × List Int) :=
  (f_spec_DrawFrameHear.l0 N x0 (IntKind.wrap .i64 ((20404 : Int) + (x0.length : Int))) 0 0 false 0 0 false).bind fun r47 =>
  (f_spec_l3Draw r47.1 0 r47.2.1).bind fun y48 =>
  (f_spec_l1Draw r47.1 y48.2.2.2.1 y48.2.2.2.2).bind fun y49 =>
  some (y48.1, y48.2.1, y48.2.2.1, y49.1, y49.2.1, y49.2.2.1, y49.2.2.2.1)
noncomputable def C40 : Con := ⟨[(.B, false, [(.sl R0)])], [(true, [(.int .i64), (.sl R1), .bool]), (true, [(.int .i64), (.int .i64), .bool, (.sl R1)])], [(.sl R0)], [(.int .i64), (.sl R1), .bool, (.int .i64), (.int .i64), .bool, (.sl R1)], fun (p : List Int) => f_spec_DrawFrameHear p⟩
noncomputable def f_spec_DrawFrameHear.l0.c : LoopCon := ⟨1081, 5, [0, 3, 4], ⟨[(0, .bor none R0 []), (3, .int .i64 0), (4, .int .i64 0)], [(1001, .box [.int .i64 0, .nil (some R1), .bool false]), (1017, .box [.int .i64 0, .int .i64 0, .bool false, .nil (some R1)])], 1081⟩, [(.sl R0), (.int .i64), (.int .i64), (.int .i64), .bool, (.int .i64), (.int .i64), .bool], [⟨.exit 0, [0, 3], ⟨[(0, .bor none R0 []), (3, .int .i64 0)], [(1001, .box [.int .i64 0, .nil (some R1), .bool false]), (1017, .box [.int .i64 0, .int .i64 0, .bool false, .nil (some R1)])], 1081⟩, [(.sl R0), (.int .i64), (.int .i64), .bool, (.int .i64), (.int .i64), .bool]⟩], fun (p : List Int × Int × Int × Int × Bool × Int × Int × Bool) => f_spec_DrawFrameHear.l0 N p.1 p.2.1 p.2.2.1 p.2.2.2.1 p.2.2.2.2.1 p.2.2.2.2.2.1 p.2.2.2.2.2.2.1 p.2.2.2.2.2.2.2⟩
noncomputable abbrev K40 : Cons := [(115, C115), (123, C123)]
noncomputable abbrev L40 : List (Nat × Loops) := [(107, [(3, f_spec_DrawFrameHear.l0.c)])]
abbrev Q40 : List (Nat × List (Int × Nat) × Nat) := []
noncomputable abbrev X40 : Nat → Ctx := ctxOf tb K40 L40 Q40
theorem f_spec_DrawFrameHear.l0.ok : ∀ n p, (fun (p : List Int × Int × Int × Int × Bool × Int × Int × Bool) => f_spec_DrawFrameHear.l0 n p.1 p.2.1 p.2.2.1 p.2.2.2.1 p.2.2.2.2.1 p.2.2.2.2.2.1 p.2.2.2.2.2.2.1 p.2.2.2.2.2.2.2) p = iterD (roundOf fs X40 5 107 3 true f_spec_DrawFrameHear.l0.c) n p :=
  iter_of (l := fun n => fun (p : List Int × Int × Int × Int × Bool × Int × Int × Bool) => f_spec_DrawFrameHear.l0 n p.1 p.2.1 p.2.2.1 p.2.2.2.1 p.2.2.2.2.1 p.2.2.2.2.2.1 p.2.2.2.2.2.2.1 p.2.2.2.2.2.2.2) (fun _ => rfl) (fun n p => by kernel_rfl)
theorem E40 : ∀ x, funRun fs X40 6 40 C40 x = C40.fn x := fun x => by kernel_rfl
theorem B40 : ConB Try.prog 40 C40 := ConB.make FS MIX TY (cons := K40) (L := L40) (ptrs := Q40) ⟨S115, S123, trivial⟩ trivial ⟨⟨⟨N, fun p => f_spec_DrawFrameHear.l0.ok N p⟩, trivial⟩, trivial⟩ rfl rfl E40
theorem S40 : ConS Try.prog 40 C40 := B40.call rfl
/-! slices.Clone[[]int,int]: function 100 -/
noncomputable def f_slices_Clone_int_int (x0 : List Int) : Option (List Int) := bif Nat.blt (0 + x0.length) 17592186044416 then some x0 else none
noncomputable def C100 : Con := ⟨[(.B, false, [(.sl R1)])], [(false, [(.sl R1)])], [(.sl R1)], [(.sl R1)], f_slices_Clone_int_int⟩
noncomputable abbrev X100 : Nat → Ctx := ctxOf tb [] [] []
theorem E100 : ∀ x : List R1.den, bodyRun fs X100 6 100 C100 [] [] [.bor (some 1000) R1 x] [] = f_slices_Clone_int_int x := fun x => by kernel_rfl
theorem Z100 : bodyRun fs X100 6 100 C100 [] [] [.nil (some R1)] [] = f_slices_Clone_int_int ([] : List R1.den) := by kernel_rfl
theorem B100 : ConB Try.prog 100 C100 := ConB.copy FS MIX TY (cons := []) (L := []) (ptrs := []) trivial trivial trivial rfl E100 Z100
theorem S100 : ConS Try.prog 100 C100 := B100.call rfl
/-! impl.copyFrame: function 124 -/
noncomputable def f_impl_copyFrame (x0 : Int) (x1 : List Int) (x2 : Bool) : Option (Int × List Int × Bool) :=
  (f_slices_Clone_int_int x1).bind fun y50 =>
  some (x0, y50, x2)
noncomputable def C124 : Con := ⟨[(.B, true, [(.int .i64), (.sl R1), .bool])], [(true, [(.int .i64), (.sl R1), .bool])], [(.int .i64), (.sl R1), .bool], [(.int .i64), (.sl R1), .bool], fun (p : Int × List Int × Bool) => f_impl_copyFrame p.1 p.2.1 p.2.2⟩
noncomputable abbrev K124 : Cons := [(100, C100)]
noncomputable abbrev L124 : List (Nat × Loops) := []
abbrev Q124 : List (Nat × List (Int × Nat) × Nat) := []
noncomputable abbrev X124 : Nat → Ctx := ctxOf tb K124 L124 Q124
theorem E124 : ∀ x, funRun fs X124 6 124 C124 x = C124.fn x := fun x => by kernel_rfl
theorem B124 : ConB Try.prog 124 C124 := ConB.make FS MIX TY (cons := K124) (L := L124) (ptrs := Q124) ⟨S100, trivial⟩ trivial trivial rfl rfl E124
theorem S124 : ConS Try.prog 124 C124 := B124.call rfl
/-! impl.from: function 103 -/
noncomputable def f_impl_from (x0 : Int) (x1 : Int) (x2 : Int) : Option (Bool) :=
  bif (decide (x1 ≤ x0)) then
    some (decide (x0 ≤ x2))
  else
    some false
noncomputable def C103 : Con := ⟨[(.B, false, [(.int .i64)]), (.B, false, [(.int .i64)]), (.B, false, [(.int .i64)])], [(false, [.bool])], [(.int .i64), (.int .i64), (.int .i64)], [.bool], fun (p : Int × Int × Int) => f_impl_from p.1 p.2.1 p.2.2⟩
noncomputable abbrev K103 : Cons := []
noncomputable abbrev L103 : List (Nat × Loops) := []
abbrev Q103 : List (Nat × List (Int × Nat) × Nat) := []
noncomputable abbrev X103 : Nat → Ctx := ctxOf tb K103 L103 Q103
theorem E103 : ∀ x, funRun fs X103 6 103 C103 x = C103.fn x := fun x => by kernel_rfl
theorem B103 : ConB Try.prog 103 C103 := ConB.make FS MIX TY (cons := K103) (L := L103) (ptrs := Q103) trivial trivial trivial rfl rfl E103
theorem S103 : ConS Try.prog 103 C103 := B103.call rfl
/-! impl.isWord: function 137 -/
noncomputable def f_impl_isWord (x0 : Int) : Option (Bool) :=
  (f_impl_from x0 0 65535).bind fun y51 =>
  some y51
noncomputable def C137 : Con := ⟨[(.B, false, [(.int .i64)])], [(false, [.bool])], [(.int .i64)], [.bool], fun (p : Int) => f_impl_isWord p⟩
noncomputable abbrev K137 : Cons := [(103, C103)]
noncomputable abbrev L137 : List (Nat × Loops) := []
abbrev Q137 : List (Nat × List (Int × Nat) × Nat) := []
noncomputable abbrev X137 : Nat → Ctx := ctxOf tb K137 L137 Q137
theorem E137 : ∀ x, funRun fs X137 6 137 C137 x = C137.fn x := fun x => by kernel_rfl
theorem B137 : ConB Try.prog 137 C137 := ConB.make FS MIX TY (cons := K137) (L := L137) (ptrs := Q137) ⟨S103, trivial⟩ trivial trivial rfl rfl E137
theorem S137 : ConS Try.prog 137 C137 := B137.call rfl
/-! impl.wordsOk$1: function 180 -/
noncomputable def f_impl_wordsOk_1 (x0 : Int) : Option (Bool) :=
  (f_impl_isWord x0).bind fun y52 =>
  some (!y52)
noncomputable def C180 : Con := ⟨[(.B, false, [(.int .i64)])], [(false, [.bool])], [(.int .i64)], [.bool], fun (p : Int) => f_impl_wordsOk_1 p⟩
noncomputable abbrev K180 : Cons := [(137, C137)]
noncomputable abbrev L180 : List (Nat × Loops) := []
abbrev Q180 : List (Nat × List (Int × Nat) × Nat) := []
noncomputable abbrev X180 : Nat → Ctx := ctxOf tb K180 L180 Q180
theorem E180 : ∀ x, funRun fs X180 6 180 C180 x = C180.fn x := fun x => by kernel_rfl
theorem B180 : ConB Try.prog 180 C180 := ConB.make FS MIX TY (cons := K180) (L := L180) (ptrs := Q180) ⟨S137, trivial⟩ trivial trivial rfl rfl E180
theorem S180 : ConS Try.prog 180 C180 := B180.call rfl
/-! impl.wordsOk: function 120 -/
noncomputable def f_impl_wordsOk.l0 : Nat → (List Int) → Int → Int → Int → Option ((Int) ⊕ (Int))
  | 0, _, _, _, _ => none
  | n + 1, p53, p54, p55, p56 =>
    bif (decide (p56 < p55)) then
      bif ((decide ((0 : Int) ≤ p56)) && (decide (p56 < (p53.length : Int)))) then
      (f_impl_wordsOk_1 (p53.getD p56.toNat 0)).bind fun y57 =>
      bif y57 then
        some (.inl p56)
      else
        f_impl_wordsOk.l0 n p53 p54 p55 (IntKind.wrap .i64 (p56 + (1 : Int)))
      else none
    else
      some (.inr p54)
noncomputable def f_impl_wordsOk (x0 : List Int) (x1 : Int) : Option (Bool) :=
  bif (decide ((x0.length : Int) = x1)) then
    (f_impl_wordsOk.l0 N x0 0 (x0.length : Int) 0).bind fun r58 =>
    cs r58 (fun a59 =>
      some (!(decide ((0 : Int) ≤ a59)))) (fun b60 =>
      some true)
  else
    some false
noncomputable def C120 : Con := ⟨[(.B, false, [(.sl R1)]), (.B, false, [(.int .i64)])], [(false, [.bool])], [(.sl R1), (.int .i64)], [.bool], fun (p : List Int × Int) => f_impl_wordsOk p.1 p.2⟩
noncomputable def f_impl_wordsOk.l0.c : LoopCon := ⟨1274, 4, [0, 1, 4, 7, 8], ⟨[(0, .bor none R1 []), (1, .func 180 []), (4, .int .i64 0), (7, .int .i64 0), (8, .int .i64 0)], [], 1274⟩, [(.sl R1), (.int .i64), (.int .i64), (.int .i64)], [⟨.ret, [4], ⟨[(4, .int .i64 0)], [], 1274⟩, [(.int .i64)]⟩, ⟨.exit 0, [4], ⟨[(4, .int .i64 0)], [], 1274⟩, [(.int .i64)]⟩], fun (p : List Int × Int × Int × Int) => f_impl_wordsOk.l0 N p.1 p.2.1 p.2.2.1 p.2.2.2⟩
noncomputable abbrev K120 : Cons := [(180, C180)]
noncomputable abbrev L120 : List (Nat × Loops) := [(207, [(2, f_impl_wordsOk.l0.c)])]
abbrev Q120 : List (Nat × List (Int × Nat) × Nat) := []
noncomputable abbrev X120 : Nat → Ctx := ctxOf tb K120 L120 Q120
theorem f_impl_wordsOk.l0.ok : ∀ n p, (fun (p : List Int × Int × Int × Int) => f_impl_wordsOk.l0 n p.1 p.2.1 p.2.2.1 p.2.2.2) p = iterD (roundOf fs X120 4 207 2 true f_impl_wordsOk.l0.c) n p :=
  iter_of (l := fun n => fun (p : List Int × Int × Int × Int) => f_impl_wordsOk.l0 n p.1 p.2.1 p.2.2.1 p.2.2.2) (fun _ => rfl) (fun n p => by kernel_rfl)
theorem E120 : ∀ x, funRun fs X120 6 120 C120 x = C120.fn x := fun x => by kernel_rfl
theorem B120 : ConB Try.prog 120 C120 := ConB.make FS MIX TY (cons := K120) (L := L120) (ptrs := Q120) ⟨S180, trivial⟩ trivial ⟨⟨⟨N, fun p => f_impl_wordsOk.l0.ok N p⟩, trivial⟩, trivial⟩ rfl rfl E120
theorem S120 : ConS Try.prog 120 C120 := B120.call rfl
/-! impl.FrameOk: function 46 -/
noncomputable def f_impl_FrameOk (x0 : Int) (x1 : List Int) (x2 : Bool) : Option (Bool) :=
  bif (decide (x0 = (0 : Int))) then
    some (decide ((x1.length : Int) = (0 : Int)))
  else
    bif (decide (x0 = (1 : Int))) then
      (f_impl_wordsOk x1 4).bind fun y61 =>
      some y61
    else
      bif (decide (x0 = (2 : Int))) then
        (f_impl_wordsOk x1 4).bind fun y62 =>
        some y62
      else
        some false
noncomputable def C46 : Con := ⟨[(.B, true, [(.int .i64), (.sl R1), .bool])], [(false, [.bool])], [(.int .i64), (.sl R1), .bool], [.bool], fun (p : Int × List Int × Bool) => f_impl_FrameOk p.1 p.2.1 p.2.2⟩
noncomputable abbrev K46 : Cons := [(120, C120)]
noncomputable abbrev L46 : List (Nat × Loops) := []
abbrev Q46 : List (Nat × List (Int × Nat) × Nat) := []
noncomputable abbrev X46 : Nat → Ctx := ctxOf tb K46 L46 Q46
theorem E46 : ∀ x, funRun fs X46 6 46 C46 x = C46.fn x := fun x => by kernel_rfl
theorem B46 : ConB Try.prog 46 C46 := ConB.make FS MIX TY (cons := K46) (L := L46) (ptrs := Q46) ⟨S120, trivial⟩ trivial trivial rfl rfl E46
theorem S46 : ConS Try.prog 46 C46 := B46.call rfl
/-! impl.isPage: function 119 -/
noncomputable def f_impl_isPage (x0 : Int) : Option (Bool) :=
  (f_impl_from x0 0 5).bind fun y63 =>
  some y63
noncomputable def C119 : Con := ⟨[(.B, false, [(.int .i64)])], [(false, [.bool])], [(.int .i64)], [.bool], fun (p : Int) => f_impl_isPage p⟩
noncomputable abbrev K119 : Cons := [(103, C103)]
noncomputable abbrev L119 : List (Nat × Loops) := []
abbrev Q119 : List (Nat × List (Int × Nat) × Nat) := []
noncomputable abbrev X119 : Nat → Ctx := ctxOf tb K119 L119 Q119
theorem E119 : ∀ x, funRun fs X119 6 119 C119 x = C119.fn x := fun x => by kernel_rfl
theorem B119 : ConB Try.prog 119 C119 := ConB.make FS MIX TY (cons := K119) (L := L119) (ptrs := Q119) ⟨S103, trivial⟩ trivial trivial rfl rfl E119
theorem S119 : ConS Try.prog 119 C119 := B119.call rfl
/-! impl.MsgOk: function 37 -/
noncomputable def f_impl_MsgOk (x0 : Int) (x1 : Int) (x2 : Bool) (x3 : List Int) : Option (Bool) :=
  (f_impl_from x0 1 7).bind fun y64 =>
  bif (!y64) then
    some false
  else
    (f_impl_isPage x1).bind fun y65 =>
    bif (!y65) then
      some false
    else
      bif x2 then
        bif (!(decide (x0 = (3 : Int)))) then
          bif (!(decide (x0 = (6 : Int)))) then
            some false
          else
            bif (decide (x0 = (3 : Int))) then
              (f_impl_wordsOk x3 4).bind fun y66 =>
              some y66
            else
              bif (decide (x0 = (7 : Int))) then
                (f_impl_wordsOk x3 4).bind fun y67 =>
                some y67
              else
                some (decide ((x3.length : Int) = (0 : Int)))
        else
          bif (decide (x0 = (3 : Int))) then
            (f_impl_wordsOk x3 4).bind fun y68 =>
            some y68
          else
            bif (decide (x0 = (7 : Int))) then
              (f_impl_wordsOk x3 4).bind fun y69 =>
              some y69
            else
              some (decide ((x3.length : Int) = (0 : Int)))
      else
        bif (decide (x0 = (3 : Int))) then
          (f_impl_wordsOk x3 4).bind fun y70 =>
          some y70
        else
          bif (decide (x0 = (7 : Int))) then
            (f_impl_wordsOk x3 4).bind fun y71 =>
            some y71
          else
            some (decide ((x3.length : Int) = (0 : Int)))
noncomputable def C37 : Con := ⟨[(.B, true, [(.int .i64), (.int .i64), .bool, (.sl R1)])], [(false, [.bool])], [(.int .i64), (.int .i64), .bool, (.sl R1)], [.bool], fun (p : Int × Int × Bool × List Int) => f_impl_MsgOk p.1 p.2.1 p.2.2.1 p.2.2.2⟩
noncomputable abbrev K37 : Cons := [(103, C103), (119, C119), (120, C120)]
noncomputable abbrev L37 : List (Nat × Loops) := []
abbrev Q37 : List (Nat × List (Int × Nat) × Nat) := []
noncomputable abbrev X37 : Nat → Ctx := ctxOf tb K37 L37 Q37
theorem E37 : ∀ x, funRun fs X37 6 37 C37 x = C37.fn x := fun x => by kernel_rfl
theorem B37 : ConB Try.prog 37 C37 := ConB.make FS MIX TY (cons := K37) (L := L37) (ptrs := Q37) ⟨S103, S119, S120, trivial⟩ trivial trivial rfl rfl E37
theorem S37 : ConS Try.prog 37 C37 := B37.call rfl
/-! impl.FrameHear: function 41 -/
noncomputable def f_impl_FrameHear (x0 : Int) (x1 : List Int) (x2 : Bool) (x3 : Int) (x4 : Int) (x5 : Bool) (x6 : List Int) : Option (Int × List Int × Bool × Int × Int × Bool × List Int × Bool) :=
  (f_impl_copyFrame x0 x1 x2).bind fun y72 =>
  (f_impl_FrameOk x0 x1 x2).bind fun y73 =>
  bif (!y73) then
    some (y72.1, y72.2.1, y72.2.2, 0, 0, false, [], false)
  else
    (f_impl_MsgOk x3 x4 x5 x6).bind fun y74 =>
    bif (!y74) then
      some (y72.1, y72.2.1, y72.2.2, 0, 0, false, [], false)
    else
      bif (decide (x3 = (3 : Int))) then
        (f_slices_Clone_int_int x6).bind fun y75 =>
        bif x5 then
          some (2, y75, false, 0, 0, false, [], false)
        else
          some (1, y75, false, 0, 0, false, [], false)
      else
        bif (decide (x3 = (4 : Int))) then
          some (0, [], x2, 5, x4, false, [], true)
        else
          bif (decide (x3 = (6 : Int))) then
            bif (decide (x0 = (2 : Int))) then
              (f_slices_Clone_int_int x1).bind fun y76 =>
              bif x5 then
                some (0, [], x2, 7, x4, false, y76, true)
              else
                some (1, y72.2.1, y72.2.2, 7, x4, false, y76, true)
            else
              some (y72.1, y72.2.1, y72.2.2, 0, 0, false, [], false)
          else
            some (y72.1, y72.2.1, y72.2.2, 0, 0, false, [], false)
noncomputable def C41 : Con := ⟨[(.B, true, [(.int .i64), (.sl R1), .bool]), (.B, true, [(.int .i64), (.int .i64), .bool, (.sl R1)])], [(true, [(.int .i64), (.sl R1), .bool]), (true, [(.int .i64), (.int .i64), .bool, (.sl R1)]), (false, [.bool])], [(.int .i64), (.sl R1), .bool, (.int .i64), (.int .i64), .bool, (.sl R1)], [(.int .i64), (.sl R1), .bool, (.int .i64), (.int .i64), .bool, (.sl R1), .bool], fun (p : Int × List Int × Bool × Int × Int × Bool × List Int) => f_impl_FrameHear p.1 p.2.1 p.2.2.1 p.2.2.2.1 p.2.2.2.2.1 p.2.2.2.2.2.1 p.2.2.2.2.2.2⟩
noncomputable abbrev K41 : Cons := [(37, C37), (46, C46), (100, C100), (124, C124)]
noncomputable abbrev L41 : List (Nat × Loops) := []
abbrev Q41 : List (Nat × List (Int × Nat) × Nat) := []
noncomputable abbrev X41 : Nat → Ctx := ctxOf tb K41 L41 Q41
theorem E41 : ∀ x, funRun fs X41 6 41 C41 x = C41.fn x := fun x => by kernel_rfl
theorem B41 : ConB Try.prog 41 C41 := ConB.make FS MIX TY (cons := K41) (L := L41) (ptrs := Q41) ⟨S37, S46, S100, S124, trivial⟩ trivial trivial rfl rfl E41
theorem S41 : ConS Try.prog 41 C41 := B41.call rfl
/-! spec.l3Copy: function 125 -/
noncomputable def f_spec_l3Copy (x0 : Int) (x1 : List Int) (x2 : Bool) : Option (Int × List Int × Bool) :=
  bif (Nat.blt (([] : List Int).length + x1.length) 17592186044416) then
  (some ((([] : List Int) ++ x1) : List Int)).bind fun z77 =>
  some (x0, z77, x2)
  else none
noncomputable def C125 : Con := ⟨[(.B, true, [(.int .i64), (.sl R1), .bool])], [(true, [(.int .i64), (.sl R1), .bool])], [(.int .i64), (.sl R1), .bool], [(.int .i64), (.sl R1), .bool], fun (p : Int × List Int × Bool) => f_spec_l3Copy p.1 p.2.1 p.2.2⟩
noncomputable abbrev K125 : Cons := []
noncomputable abbrev L125 : List (Nat × Loops) := []
abbrev Q125 : List (Nat × List (Int × Nat) × Nat) := []
noncomputable abbrev X125 : Nat → Ctx := ctxOf tb K125 L125 Q125
theorem E125 : ∀ x, funRun fs X125 6 125 C125 x = C125.fn x := fun x => by kernel_rfl
theorem B125 : ConB Try.prog 125 C125 := ConB.make FS MIX TY (cons := K125) (L := L125) (ptrs := Q125) trivial trivial trivial rfl rfl E125
theorem S125 : ConS Try.prog 125 C125 := B125.call rfl
/-! spec.l1In: function 97 -/
noncomputable def f_spec_l1In (x0 : Int) (x1 : Int) (x2 : Int) : Option (Bool) :=
  bif (decide (x1 ≤ x0)) then
    some (decide (x0 ≤ x2))
  else
    some false
noncomputable def C97 : Con := ⟨[(.B, false, [(.int .i64)]), (.B, false, [(.int .i64)]), (.B, false, [(.int .i64)])], [(false, [.bool])], [(.int .i64), (.int .i64), (.int .i64)], [.bool], fun (p : Int × Int × Int) => f_spec_l1In p.1 p.2.1 p.2.2⟩
noncomputable abbrev K97 : Cons := []
noncomputable abbrev L97 : List (Nat × Loops) := []
abbrev Q97 : List (Nat × List (Int × Nat) × Nat) := []
noncomputable abbrev X97 : Nat → Ctx := ctxOf tb K97 L97 Q97
theorem E97 : ∀ x, funRun fs X97 6 97 C97 x = C97.fn x := fun x => by kernel_rfl
theorem B97 : ConB Try.prog 97 C97 := ConB.make FS MIX TY (cons := K97) (L := L97) (ptrs := Q97) trivial trivial trivial rfl rfl E97
theorem S97 : ConS Try.prog 97 C97 := B97.call rfl
/-! spec.l1Words: function 126 -/
noncomputable def f_spec_l1Words.l0 : Nat → (List Int) → Int → Bool → Int → Option ((Bool) ⊕ (List Int × Int × Bool))
  | 0, _, _, _, _ => none
  | n + 1, p78, p79, p80, p81 =>
    bif (decide (p81 < (p78.length : Int))) then
      bif ((decide ((0 : Int) ≤ p81)) && (decide (p81 < (p78.length : Int)))) then
      (f_spec_l1In (p78.getD p81.toNat 0) 0 65535).bind fun y82 =>
      bif (!y82) then
        some (.inl false)
      else
        f_spec_l1Words.l0 n p78 p79 p80 (IntKind.wrap .i64 (p81 + (1 : Int)))
      else none
    else
      some (.inr (p78, p79, p80))
noncomputable def f_spec_l1Words (x0 : List Int) (x1 : Int) : Option (Bool) :=
  (f_spec_l1Words.l0 N x0 x1 false 0).bind fun r83 =>
  cs r83 (fun a84 =>
    some a84) (fun b85 =>
    some (decide ((b85.1.length : Int) = b85.2.1)))
noncomputable def C126 : Con := ⟨[(.B, false, [(.sl R1)]), (.B, false, [(.int .i64)])], [(false, [.bool])], [(.sl R1), (.int .i64)], [.bool], fun (p : List Int × Int) => f_spec_l1Words p.1 p.2⟩
noncomputable def f_spec_l1Words.l0.c : LoopCon := ⟨1000, 6, [0, 1, 4, 5], ⟨[(0, .bor none R1 []), (1, .int .i64 0), (4, .bool false), (5, .int .i64 0)], [], 1000⟩, [(.sl R1), (.int .i64), .bool, (.int .i64)], [⟨.ret, [4], ⟨[(4, .bool false)], [], 1000⟩, [.bool]⟩, ⟨.exit 0, [0, 1, 4], ⟨[(0, .bor none R1 []), (1, .int .i64 0), (4, .bool false)], [], 1000⟩, [(.sl R1), (.int .i64), .bool]⟩], fun (p : List Int × Int × Bool × Int) => f_spec_l1Words.l0 N p.1 p.2.1 p.2.2.1 p.2.2.2⟩
noncomputable abbrev K126 : Cons := [(97, C97)]
noncomputable abbrev L126 : List (Nat × Loops) := [(126, [(2, f_spec_l1Words.l0.c)])]
abbrev Q126 : List (Nat × List (Int × Nat) × Nat) := []
noncomputable abbrev X126 : Nat → Ctx := ctxOf tb K126 L126 Q126
theorem f_spec_l1Words.l0.ok : ∀ n p, (fun (p : List Int × Int × Bool × Int) => f_spec_l1Words.l0 n p.1 p.2.1 p.2.2.1 p.2.2.2) p = iterD (roundOf fs X126 6 126 2 false f_spec_l1Words.l0.c) n p :=
  iter_of (l := fun n => fun (p : List Int × Int × Bool × Int) => f_spec_l1Words.l0 n p.1 p.2.1 p.2.2.1 p.2.2.2) (fun _ => rfl) (fun n p => by kernel_rfl)
theorem E126 : ∀ x, funRun fs X126 6 126 C126 x = C126.fn x := fun x => by kernel_rfl
theorem B126 : ConB Try.prog 126 C126 := ConB.make FS MIX TY (cons := K126) (L := L126) (ptrs := Q126) ⟨S97, trivial⟩ trivial ⟨⟨⟨N, fun p => f_spec_l1Words.l0.ok N p⟩, trivial⟩, trivial⟩ rfl rfl E126
theorem S126 : ConS Try.prog 126 C126 := B126.call rfl
/-! spec.FrameOk: function 44 -/
noncomputable def f_spec_FrameOk (x0 : Int) (x1 : List Int) (x2 : Bool) : Option (Bool) :=
  bif (decide (x0 = (0 : Int))) then
    some (decide ((x1.length : Int) = (0 : Int)))
  else
    (f_spec_l1In x0 0 2).bind fun y86 =>
    bif y86 then
      (f_spec_l1Words x1 4).bind fun y87 =>
      some y87
    else
      some false
noncomputable def C44 : Con := ⟨[(.B, true, [(.int .i64), (.sl R1), .bool])], [(false, [.bool])], [(.int .i64), (.sl R1), .bool], [.bool], fun (p : Int × List Int × Bool) => f_spec_FrameOk p.1 p.2.1 p.2.2⟩
noncomputable abbrev K44 : Cons := [(97, C97), (126, C126)]
noncomputable abbrev L44 : List (Nat × Loops) := []
abbrev Q44 : List (Nat × List (Int × Nat) × Nat) := []
noncomputable abbrev X44 : Nat → Ctx := ctxOf tb K44 L44 Q44
theorem E44 : ∀ x, funRun fs X44 6 44 C44 x = C44.fn x := fun x => by kernel_rfl
theorem B44 : ConB Try.prog 44 C44 := ConB.make FS MIX TY (cons := K44) (L := L44) (ptrs := Q44) ⟨S97, S126, trivial⟩ trivial trivial rfl rfl E44
theorem S44 : ConS Try.prog 44 C44 := B44.call rfl
/-! spec.MsgOk: function 45 -/
noncomputable def f_spec_MsgOk (x0 : Int) (x1 : Int) (x2 : Bool) (x3 : List Int) : Option (Bool) :=
  bif (decide (x0 = (3 : Int))) then
    bif (decide (x0 = (3 : Int))) then
      (f_spec_l1In x0 1 7).bind fun y88 =>
      bif y88 then
        (f_spec_l1In x1 0 5).bind fun y89 =>
        bif y89 then
          (f_spec_l1Words x3 4).bind fun y90 =>
          some y90
        else
          some false
      else
        some false
    else
      (f_spec_l1In x0 1 7).bind fun y91 =>
      bif y91 then
        (f_spec_l1In x1 0 5).bind fun y92 =>
        bif y92 then
          bif (decide (x0 = (6 : Int))) then
            (f_spec_l1Words x3 4).bind fun y93 =>
            some y93
          else
            bif (!x2) then
              (f_spec_l1Words x3 4).bind fun y94 =>
              some y94
            else
              some false
        else
          some false
      else
        some false
  else
    bif (decide (x0 = (7 : Int))) then
      bif (decide (x0 = (3 : Int))) then
        (f_spec_l1In x0 1 7).bind fun y95 =>
        bif y95 then
          (f_spec_l1In x1 0 5).bind fun y96 =>
          bif y96 then
            (f_spec_l1Words x3 4).bind fun y97 =>
            some y97
          else
            some false
        else
          some false
      else
        (f_spec_l1In x0 1 7).bind fun y98 =>
        bif y98 then
          (f_spec_l1In x1 0 5).bind fun y99 =>
          bif y99 then
            bif (decide (x0 = (6 : Int))) then
              (f_spec_l1Words x3 4).bind fun y100 =>
              some y100
            else
              bif (!x2) then
                (f_spec_l1Words x3 4).bind fun y101 =>
                some y101
              else
                some false
          else
            some false
        else
          some false
    else
      bif (decide (x0 = (3 : Int))) then
        (f_spec_l1In x0 1 7).bind fun y102 =>
        bif y102 then
          (f_spec_l1In x1 0 5).bind fun y103 =>
          bif y103 then
            (f_spec_l1Words x3 0).bind fun y104 =>
            some y104
          else
            some false
        else
          some false
      else
        (f_spec_l1In x0 1 7).bind fun y105 =>
        bif y105 then
          (f_spec_l1In x1 0 5).bind fun y106 =>
          bif y106 then
            bif (decide (x0 = (6 : Int))) then
              (f_spec_l1Words x3 0).bind fun y107 =>
              some y107
            else
              bif (!x2) then
                (f_spec_l1Words x3 0).bind fun y108 =>
                some y108
              else
                some false
          else
            some false
        else
          some false
noncomputable def C45 : Con := ⟨[(.B, true, [(.int .i64), (.int .i64), .bool, (.sl R1)])], [(false, [.bool])], [(.int .i64), (.int .i64), .bool, (.sl R1)], [.bool], fun (p : Int × Int × Bool × List Int) => f_spec_MsgOk p.1 p.2.1 p.2.2.1 p.2.2.2⟩
noncomputable abbrev K45 : Cons := [(97, C97), (126, C126)]
noncomputable abbrev L45 : List (Nat × Loops) := []
abbrev Q45 : List (Nat × List (Int × Nat) × Nat) := []
noncomputable abbrev X45 : Nat → Ctx := ctxOf tb K45 L45 Q45
theorem E45 : ∀ x, funRun fs X45 6 45 C45 x = C45.fn x := fun x => by kernel_rfl
theorem B45 : ConB Try.prog 45 C45 := ConB.make FS MIX TY (cons := K45) (L := L45) (ptrs := Q45) ⟨S97, S126, trivial⟩ trivial trivial rfl rfl E45
theorem S45 : ConS Try.prog 45 C45 := B45.call rfl
/-! spec.l1Bit: function 118 -/
noncomputable def f_spec_l1Bit (x0 : Bool) : Option (Int) :=
  bif x0 then
    some 1
  else
    some 0
noncomputable def C118 : Con := ⟨[(.B, false, [.bool])], [(false, [(.int .i64)])], [.bool], [(.int .i64)], fun (p : Bool) => f_spec_l1Bit p⟩
noncomputable abbrev K118 : Cons := []
noncomputable abbrev L118 : List (Nat × Loops) := []
abbrev Q118 : List (Nat × List (Int × Nat) × Nat) := []
noncomputable abbrev X118 : Nat → Ctx := ctxOf tb K118 L118 Q118
theorem E118 : ∀ x, funRun fs X118 6 118 C118 x = C118.fn x := fun x => by kernel_rfl
theorem B118 : ConB Try.prog 118 C118 := ConB.make FS MIX TY (cons := K118) (L := L118) (ptrs := Q118) trivial trivial trivial rfl rfl E118
theorem S118 : ConS Try.prog 118 C118 := B118.call rfl
/-! spec.FrameHear: function 42 -/
noncomputable def f_spec_FrameHear (x0 : Int) (x1 : List Int) (x2 : Bool) (x3 : Int) (x4 : Int) (x5 : Bool) (x6 : List Int) : Option (Int × List Int × Bool × Int × Int × Bool × List Int × Bool) :=
  (f_spec_l3Copy x0 x1 x2).bind fun y109 =>
  (f_spec_FrameOk x0 x1 x2).bind fun y110 =>
  bif (!y110) then
    some (y109.1, y109.2.1, y109.2.2, 0, 0, false, [], false)
  else
    (f_spec_MsgOk x3 x4 x5 x6).bind fun y111 =>
    bif (!y111) then
      some (y109.1, y109.2.1, y109.2.2, 0, 0, false, [], false)
    else
      bif (decide (x3 = (3 : Int))) then
        (f_spec_l1Bit x5).bind fun y112 =>
        bif (Nat.blt (([] : List Int).length + x6.length) 17592186044416) then
        (some ((([] : List Int) ++ x6) : List Int)).bind fun z113 =>
        some ((IntKind.wrap .i64 ((1 : Int) + y112)), z113, false, 0, 0, false, [], false)
        else none
      else
        bif (decide (x3 = (4 : Int))) then
          some (0, [], x2, 5, x4, false, [], true)
        else
          bif (decide (x3 = (6 : Int))) then
            bif (!(decide (x0 = (2 : Int)))) then
              some (y109.1, y109.2.1, y109.2.2, 0, 0, false, [], false)
            else
              bif (Nat.blt (([] : List Int).length + x1.length) 17592186044416) then
              (some ((([] : List Int) ++ x1) : List Int)).bind fun z114 =>
              bif x5 then
                some (0, [], x2, 7, x4, false, z114, true)
              else
                some (1, y109.2.1, y109.2.2, 7, x4, false, z114, true)
              else none
          else
            some (y109.1, y109.2.1, y109.2.2, 0, 0, false, [], false)
noncomputable def C42 : Con := ⟨[(.B, true, [(.int .i64), (.sl R1), .bool]), (.B, true, [(.int .i64), (.int .i64), .bool, (.sl R1)])], [(true, [(.int .i64), (.sl R1), .bool]), (true, [(.int .i64), (.int .i64), .bool, (.sl R1)]), (false, [.bool])], [(.int .i64), (.sl R1), .bool, (.int .i64), (.int .i64), .bool, (.sl R1)], [(.int .i64), (.sl R1), .bool, (.int .i64), (.int .i64), .bool, (.sl R1), .bool], fun (p : Int × List Int × Bool × Int × Int × Bool × List Int) => f_spec_FrameHear p.1 p.2.1 p.2.2.1 p.2.2.2.1 p.2.2.2.2.1 p.2.2.2.2.2.1 p.2.2.2.2.2.2⟩
noncomputable abbrev K42 : Cons := [(44, C44), (45, C45), (118, C118), (125, C125)]
noncomputable abbrev L42 : List (Nat × Loops) := []
abbrev Q42 : List (Nat × List (Int × Nat) × Nat) := []
noncomputable abbrev X42 : Nat → Ctx := ctxOf tb K42 L42 Q42
theorem E42 : ∀ x, funRun fs X42 6 42 C42 x = C42.fn x := fun x => by kernel_rfl
theorem B42 : ConB Try.prog 42 C42 := ConB.make FS MIX TY (cons := K42) (L := L42) (ptrs := Q42) ⟨S44, S45, S118, S125, trivial⟩ trivial trivial rfl rfl E42
theorem S42 : ConS Try.prog 42 C42 := B42.call rfl
/-! laws.sameInts: function 43 -/
noncomputable def f_laws_sameInts.l0 : Nat → (List Int) → (List Int) → Bool → Int → Option ((Bool) ⊕ (Bool))
  | 0, _, _, _, _ => none
  | n + 1, p115, p116, p117, p118 =>
    bif (decide (p118 < (p115.length : Int))) then
      bif ((decide ((0 : Int) ≤ p118)) && (decide (p118 < (p115.length : Int)))) then
      bif ((decide ((0 : Int) ≤ p118)) && (decide (p118 < (p116.length : Int)))) then
      bif (!(decide ((p115.getD p118.toNat 0) = (p116.getD p118.toNat 0)))) then
        some (.inl false)
      else
        f_laws_sameInts.l0 n p115 p116 p117 (IntKind.wrap .i64 (p118 + (1 : Int)))
      else none
      else none
    else
      some (.inr p117)
noncomputable def f_laws_sameInts (x0 : List Int) (x1 : List Int) : Option (Bool) :=
  bif (!(decide ((x0.length : Int) = (x1.length : Int)))) then
    some false
  else
    (f_laws_sameInts.l0 N x0 x1 false 0).bind fun r119 =>
    cs r119 (fun a120 =>
      some a120) (fun b121 =>
      some true)
noncomputable def C43 : Con := ⟨[(.B, false, [(.sl R1)]), (.B, false, [(.sl R1)])], [(false, [.bool])], [(.sl R1), (.sl R1)], [.bool], fun (p : List Int × List Int) => f_laws_sameInts p.1 p.2⟩
noncomputable def f_laws_sameInts.l0.c : LoopCon := ⟨1000, 6, [0, 1, 4, 5], ⟨[(0, .bor none R1 []), (1, .bor none R1 []), (4, .bool false), (5, .int .i64 0)], [], 1000⟩, [(.sl R1), (.sl R1), .bool, (.int .i64)], [⟨.ret, [4], ⟨[(4, .bool false)], [], 1000⟩, [.bool]⟩, ⟨.exit 0, [4], ⟨[(4, .bool false)], [], 1000⟩, [.bool]⟩], fun (p : List Int × List Int × Bool × Int) => f_laws_sameInts.l0 N p.1 p.2.1 p.2.2.1 p.2.2.2⟩
noncomputable abbrev K43 : Cons := []
noncomputable abbrev L43 : List (Nat × Loops) := [(43, [(4, f_laws_sameInts.l0.c)])]
abbrev Q43 : List (Nat × List (Int × Nat) × Nat) := []
noncomputable abbrev X43 : Nat → Ctx := ctxOf tb K43 L43 Q43
theorem f_laws_sameInts.l0.ok : ∀ n p, (fun (p : List Int × List Int × Bool × Int) => f_laws_sameInts.l0 n p.1 p.2.1 p.2.2.1 p.2.2.2) p = iterD (roundOf fs X43 6 43 4 false f_laws_sameInts.l0.c) n p :=
  iter_of (l := fun n => fun (p : List Int × List Int × Bool × Int) => f_laws_sameInts.l0 n p.1 p.2.1 p.2.2.1 p.2.2.2) (fun _ => rfl) (fun n p => by kernel_rfl)
theorem E43 : ∀ x, funRun fs X43 6 43 C43 x = C43.fn x := fun x => by kernel_rfl
theorem B43 : ConB Try.prog 43 C43 := ConB.make FS MIX TY (cons := K43) (L := L43) (ptrs := Q43) trivial trivial ⟨⟨⟨N, fun p => f_laws_sameInts.l0.ok N p⟩, trivial⟩, trivial⟩ rfl rfl E43
theorem S43 : ConS Try.prog 43 C43 := B43.call rfl
/-! laws.FnFrameHears: function 6 -/
noncomputable def f_laws_FnFrameHears (x0 : List Int) : Option (Bool) :=
  (f_laws_big x0).bind fun y122 =>
  bif y122 then
    some true
  else
    (f_spec_DrawFrameHear x0).bind fun y123 =>
    (f_impl_FrameHear y123.1 y123.2.1 y123.2.2.1 y123.2.2.2.1 y123.2.2.2.2.1 y123.2.2.2.2.2.1 y123.2.2.2.2.2.2).bind fun y124 =>
    (f_spec_FrameHear y123.1 y123.2.1 y123.2.2.1 y123.2.2.2.1 y123.2.2.2.2.1 y123.2.2.2.2.2.1 y123.2.2.2.2.2.2).bind fun y125 =>
    bif (!(y124.2.2.2.2.2.2.2 == y125.2.2.2.2.2.2.2)) then
      some false
    else
      bif (!(decide (y124.1 = y125.1))) then
        some false
      else
        (f_laws_sameInts y124.2.1 y125.2.1).bind fun y126 =>
        bif (!y126) then
          some false
        else
          bif (!(y124.2.2.1 == y125.2.2.1)) then
            some false
          else
            bif (!(decide (y124.2.2.2.1 = y125.2.2.2.1))) then
              some false
            else
              (f_laws_sameInts y124.2.2.2.2.2.2.1 y125.2.2.2.2.2.2.1).bind fun y127 =>
              bif (!y127) then
                some false
              else
                (f_spec_FrameOk y123.1 y123.2.1 y123.2.2.1).bind fun y128 =>
                bif (!y128) then
                  bif (!y124.2.2.2.2.2.2.2) then
                    (f_laws_sameInts y124.2.1 y123.2.1).bind fun y129 =>
                    some y129
                  else
                    some false
                else
                  (f_spec_MsgOk y123.2.2.2.1 y123.2.2.2.2.1 y123.2.2.2.2.2.1 y123.2.2.2.2.2.2).bind fun y130 =>
                  bif (!y130) then
                    bif (!y124.2.2.2.2.2.2.2) then
                      (f_laws_sameInts y124.2.1 y123.2.1).bind fun y131 =>
                      some y131
                    else
                      some false
                  else
                    bif y124.2.2.2.2.2.2.2 then
                      (f_impl_MsgOk y124.2.2.2.1 y124.2.2.2.2.1 y124.2.2.2.2.2.1 y124.2.2.2.2.2.2.1).bind fun y132 =>
                      bif (!y132) then
                        some false
                      else
                        bif (decide (y124.2.2.2.1 = (7 : Int))) then
                          (f_laws_sameInts y124.2.2.2.2.2.2.1 y123.2.1).bind fun y133 =>
                          bif (!y133) then
                            some false
                          else
                            (f_impl_FrameOk y124.1 y124.2.1 y124.2.2.1).bind fun y134 =>
                            bif y134 then
                              bif (!(decide (y123.2.2.2.1 = (3 : Int)))) then
                                some true
                              else
                                (f_laws_sameInts y124.2.1 y123.2.2.2.2.2.2).bind fun y135 =>
                                bif y135 then
                                  some (!y124.2.2.1)
                                else
                                  some false
                            else
                              some false
                        else
                          (f_impl_FrameOk y124.1 y124.2.1 y124.2.2.1).bind fun y136 =>
                          bif y136 then
                            bif (!(decide (y123.2.2.2.1 = (3 : Int)))) then
                              some true
                            else
                              (f_laws_sameInts y124.2.1 y123.2.2.2.2.2.2).bind fun y137 =>
                              bif y137 then
                                some (!y124.2.2.1)
                              else
                                some false
                          else
                            some false
                    else
                      (f_impl_FrameOk y124.1 y124.2.1 y124.2.2.1).bind fun y138 =>
                      bif y138 then
                        bif (!(decide (y123.2.2.2.1 = (3 : Int)))) then
                          some true
                        else
                          (f_laws_sameInts y124.2.1 y123.2.2.2.2.2.2).bind fun y139 =>
                          bif y139 then
                            some (!y124.2.2.1)
                          else
                            some false
                      else
                        some false
noncomputable def C6 : Con := ⟨[(.B, false, [(.sl R0)])], [(false, [.bool])], [(.sl R0)], [.bool], fun (p : List Int) => f_laws_FnFrameHears p⟩
noncomputable abbrev K6 : Cons := [(26, C26), (37, C37), (40, C40), (41, C41), (42, C42), (43, C43), (44, C44), (45, C45), (46, C46)]
noncomputable abbrev L6 : List (Nat × Loops) := []
abbrev Q6 : List (Nat × List (Int × Nat) × Nat) := []
noncomputable abbrev X6 : Nat → Ctx := ctxOf tb K6 L6 Q6
theorem E6 : ∀ x, funRun fs X6 6 6 C6 x = C6.fn x := fun x => by kernel_rfl
theorem B6 : ConB Try.prog 6 C6 := ConB.make FS MIX TY (cons := K6) (L := L6) (ptrs := Q6) ⟨S26, S37, S40, S41, S42, S43, S44, S45, S46, trivial⟩ trivial trivial rfl rfl E6
theorem S6 : ConS Try.prog 6 C6 := B6.call rfl
/-- What is left: the plain law. -/
def Pure : Prop := ∀ x : Tup [(.sl R0)], WfT [(.sl R0)] x → C6.fn x = some (true : Bool)
end
end Go.Abs
